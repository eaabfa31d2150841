/- The readings of functions, printed by a program of the prover's own. -/
import Derived.Test.YtpogcjdenefhlaaDx19
import Derived.Test.YtpogcjdenefhlaaChecked
import Derived.Eval
import Derived.Test.YtpogcjdenefhlaaDxLF0
namespace Go.Dx.SYtpogcjdenefhlaa
open Go.Proofs
set_option linter.unusedVariables false
/-- (*cloakroom/cloakroomplay.maker).stmt -/
def F39 : SFn := ⟨.seq (.region [⟨some 9, none, .bslice 2 1 [.int .u8 0] [(0, 1, .c (.int .u8 127)), (1, 1, .c (.int .u8 126))]⟩,
    ⟨some 10, none, .mov (.t 0)⟩,
    ⟨some 11, none, .nilc (.t 10)⟩,
    ⟨some 12, none, .fa 0 (.t 11)⟩,
    ⟨some 13, none, .ld 1 false (.t 12)⟩,
    ⟨some 14, none, .call 20 [.t 13, .c (.int .i64 2)]⟩,
    ⟨some 15, none, .iaV 1 (.t 9) (.t 14)⟩,
    ⟨some 16, none, .ld 1 false (.t 15)⟩,
    ⟨some 4, none, .mov (.t 16)⟩] [0, 1, 4])
   (.seq (.region [⟨some 17, none, .mov (.t 0)⟩,
    ⟨some 18, none, .nilc (.t 17)⟩,
    ⟨some 19, none, .fa 0 (.t 18)⟩,
    ⟨some 20, none, .ld 1 false (.t 19)⟩,
    ⟨some 21, none, .call 20 [.t 20, .c (.int .i64 14)]⟩] [0, 1, 4, 21])
   (.block 0 (.seq (.seq (.region [⟨some 26, none, .bin .eql (.t 21) (.c (.int .i64 0))⟩,
    ⟨some 25, none, .mov (.t 26)⟩] [0, 1, 4, 21, 25])
   (.cond (.t 25) (.skip) (.region [⟨some 27, none, .bin .eql (.t 21) (.c (.int .i64 1))⟩,
    ⟨some 25, none, .mov (.t 27)⟩] [0, 1, 4, 21, 25])))
   (.cond (.t 25) (.seq (.region [⟨some 29, none, .mov (.t 0)⟩,
    ⟨some 30, none, .mov (.t 4)⟩,
    ⟨some 31, none, .call 42 [.t 29, .t 30]⟩,
    ⟨some 28, none, .mov (.t 31)⟩,
    ⟨some 32, none, .ext (.t 28) 0⟩,
    ⟨some 33, none, .ext (.t 28) 1⟩,
    ⟨some 5, none, .mov (.t 32)⟩,
    ⟨some 6, none, .mov (.t 33)⟩] [0, 1, 4, 5, 6])
   (.seq (.region [⟨some 34, none, .mov (.t 0)⟩,
    ⟨some 35, none, .mov (.t 4)⟩,
    ⟨some 36, none, .mov (.t 1)⟩,
    ⟨some 37, none, .call 22 [.t 34, .t 35, .t 36]⟩] [0, 5, 6])
   (.seq (.region [⟨some 38, none, .mov (.t 6)⟩] [0, 5, 38])
   (.cond (.t 38) (.region [⟨some 39, none, .mov (.t 0)⟩,
    ⟨some 40, none, .mov (.t 5)⟩,
    ⟨some 41, none, .call 43 [.t 39, .c (.int .i64 33), .t 40]⟩] []) (.region [⟨some 42, none, .mov (.t 0)⟩,
    ⟨some 43, none, .call 44 [.t 42, .c (.int .i64 26)]⟩] []))))) (.seq (.seq (.region [⟨some 45, none, .bin .eql (.t 21) (.c (.int .i64 2))⟩,
    ⟨some 44, none, .mov (.t 45)⟩] [0, 1, 4, 21, 44])
   (.cond (.t 44) (.skip) (.region [⟨some 46, none, .bin .eql (.t 21) (.c (.int .i64 3))⟩,
    ⟨some 44, none, .mov (.t 46)⟩] [0, 1, 4, 21, 44])))
   (.cond (.t 44) (.seq (.region [⟨some 47, none, .mov (.t 0)⟩,
    ⟨some 48, none, .mov (.t 4)⟩,
    ⟨some 49, none, .mov (.t 1)⟩,
    ⟨some 50, none, .call 22 [.t 47, .t 48, .t 49]⟩] [0, 4])
   (.seq (.region [⟨some 7, none, .mov (.c (.int .u32 0))⟩] [0, 4, 7])
   (.seq (.seq (.region [⟨some 51, none, .mov (.t 4)⟩,
    ⟨some 52, none, .bin .eql (.t 51) (.c (.int .u8 126))⟩] [0, 7, 52])
   (.cond (.t 52) (.region [⟨some 7, none, .mov (.c (.int .u32 1))⟩] [0, 7]) (.skip)))
   (.region [⟨some 53, none, .mov (.t 0)⟩,
    ⟨some 54, none, .mov (.t 7)⟩,
    ⟨some 55, none, .call 43 [.t 53, .c (.int .i64 36), .t 54]⟩] [])))) (.seq (.seq (.region [⟨some 57, none, .bin .eql (.t 21) (.c (.int .i64 4))⟩,
    ⟨some 56, none, .mov (.t 57)⟩] [0, 1, 4, 21, 56])
   (.cond (.t 56) (.skip) (.region [⟨some 58, none, .bin .eql (.t 21) (.c (.int .i64 5))⟩,
    ⟨some 56, none, .mov (.t 58)⟩] [0, 1, 4, 21, 56])))
   (.cond (.t 56) (.seq (.region [⟨some 59, none, .mov (.t 0)⟩,
    ⟨some 60, none, .mov (.t 1)⟩,
    ⟨some 61, none, .bin .sub (.t 60) (.c (.int .i64 1))⟩,
    ⟨some 62, none, .call 22 [.t 59, .c (.int .u8 127), .t 61]⟩] [0, 1, 4])
   (.seq (.region [⟨some 63, none, .mov (.t 0)⟩,
    ⟨some 64, none, .mov (.t 4)⟩,
    ⟨some 65, none, .mov (.t 1)⟩,
    ⟨some 66, none, .bin .sub (.t 65) (.c (.int .i64 1))⟩,
    ⟨some 67, none, .call 22 [.t 63, .t 64, .t 66]⟩] [0, 4])
   (.seq (.region [⟨some 68, none, .bslice 3 1 [.int .i64 0] [(0, 1, .c (.int .i64 54)), (1, 1, .c (.int .i64 58)), (2, 1, .c (.int .i64 59))]⟩,
    ⟨some 69, none, .mov (.t 0)⟩,
    ⟨some 70, none, .nilc (.t 69)⟩,
    ⟨some 71, none, .fa 0 (.t 70)⟩,
    ⟨some 72, none, .ld 1 false (.t 71)⟩,
    ⟨some 73, none, .call 20 [.t 72, .c (.int .i64 3)]⟩,
    ⟨some 74, none, .iaV 1 (.t 68) (.t 73)⟩,
    ⟨some 75, none, .ld 1 false (.t 74)⟩,
    ⟨some 8, none, .mov (.t 75)⟩] [0, 4, 8])
   (.seq (.seq (.region [⟨some 76, none, .mov (.t 4)⟩,
    ⟨some 77, none, .bin .eql (.t 76) (.c (.int .u8 126))⟩] [0, 8, 77])
   (.cond (.t 77) (.region [⟨some 78, none, .bslice 4 1 [.int .i64 0] [(0, 1, .c (.int .i64 55)), (1, 1, .c (.int .i64 60)), (2, 1, .c (.int .i64 61)), (3, 1, .c (.int .i64 62))]⟩,
    ⟨some 79, none, .mov (.t 0)⟩,
    ⟨some 80, none, .nilc (.t 79)⟩,
    ⟨some 81, none, .fa 0 (.t 80)⟩,
    ⟨some 82, none, .ld 1 false (.t 81)⟩,
    ⟨some 83, none, .call 20 [.t 82, .c (.int .i64 4)]⟩,
    ⟨some 84, none, .iaV 1 (.t 78) (.t 83)⟩,
    ⟨some 85, none, .ld 1 false (.t 84)⟩,
    ⟨some 8, none, .mov (.t 85)⟩] [0, 8]) (.skip)))
   (.region [⟨some 86, none, .mov (.t 0)⟩,
    ⟨some 87, none, .mov (.t 0)⟩,
    ⟨some 88, none, .nilc (.t 87)⟩,
    ⟨some 89, none, .fa 3 (.t 88)⟩,
    ⟨some 90, none, .ld 1 false (.t 89)⟩,
    ⟨some 91, none, .mov (.t 8)⟩,
    ⟨some 92, none, .mov (.t 0)⟩,
    ⟨some 93, none, .nilc (.t 92)⟩,
    ⟨some 94, none, .fa 0 (.t 93)⟩,
    ⟨some 95, none, .ld 1 false (.t 94)⟩,
    ⟨some 96, none, .call 20 [.t 95, .c (.int .i64 5)]⟩,
    ⟨none, none, .chk 1 false (.t 89) 90⟩,
    ⟨some 97, none, .conv .u32 (.t 96)⟩,
    ⟨some 98, none, .build [.int .i64 0, .int .u32 0, .int .u32 0, .int .u64 0, .slice none 0 0, .int .i64 0] [(0, 1, .t 91), (2, 1, .t 97)]⟩,
    ⟨some 99, none, .bslice 1 6 [.int .i64 0, .int .u32 0, .int .u32 0, .int .u64 0, .slice none 0 0, .int .i64 0] [(0, 6, .t 98)]⟩,
    ⟨some 100, none, .app 6 56 (.t 90) (.t 99)⟩,
    ⟨some 101, none, .nilc (.t 86)⟩,
    ⟨some 102, none, .fa 3 (.t 101)⟩,
    ⟨none, none, .st 1 (.t 102) (.t 100)⟩] []))))) (.seq (.region [⟨some 104, none, .bin .eql (.t 21) (.c (.int .i64 6))⟩,
    ⟨some 103, none, .mov (.t 104)⟩] [0, 1, 21, 103])
   (.cond (.t 103) (.seq (.region [⟨some 105, none, .mov (.t 0)⟩,
    ⟨some 106, none, .mov (.t 1)⟩,
    ⟨some 107, none, .call 49 [.t 105, .t 106]⟩] [0])
   (.region [⟨some 108, none, .mov (.t 0)⟩,
    ⟨some 109, none, .bslice 3 1 [.int .i64 0] [(0, 1, .c (.int .i64 64522)), (1, 1, .c (.int .i64 64523)), (2, 1, .c (.int .i64 64523))]⟩,
    ⟨some 110, none, .mov (.t 0)⟩,
    ⟨some 111, none, .nilc (.t 110)⟩,
    ⟨some 112, none, .fa 0 (.t 111)⟩,
    ⟨some 113, none, .ld 1 false (.t 112)⟩,
    ⟨some 114, none, .call 20 [.t 113, .c (.int .i64 3)]⟩,
    ⟨some 115, none, .iaV 1 (.t 109) (.t 114)⟩,
    ⟨some 116, none, .ld 1 false (.t 115)⟩,
    ⟨some 117, none, .call 44 [.t 108, .t 116]⟩] [])) (.seq (.region [⟨some 119, none, .bin .eql (.t 21) (.c (.int .i64 7))⟩,
    ⟨some 118, none, .mov (.t 119)⟩] [0, 1, 21, 118])
   (.cond (.t 118) (.seq (.region [⟨some 120, none, .mov (.t 0)⟩,
    ⟨some 121, none, .mov (.t 1)⟩,
    ⟨some 122, none, .call 49 [.t 120, .t 121]⟩] [0])
   (.region [⟨some 123, none, .mov (.t 0)⟩,
    ⟨some 124, none, .mov (.t 0)⟩,
    ⟨some 125, none, .nilc (.t 124)⟩,
    ⟨some 126, none, .fa 0 (.t 125)⟩,
    ⟨some 127, none, .ld 1 false (.t 126)⟩,
    ⟨some 128, none, .call 20 [.t 127, .c (.int .i64 2)]⟩,
    ⟨some 129, none, .conv .u32 (.t 128)⟩,
    ⟨some 130, none, .call 43 [.t 123, .c (.int .i64 64520), .t 129]⟩] [])) (.seq (.region [⟨some 132, none, .bin .eql (.t 21) (.c (.int .i64 8))⟩,
    ⟨some 131, none, .mov (.t 132)⟩] [0, 1, 21, 131])
   (.cond (.t 131) (.seq (.region [⟨some 133, none, .mov (.t 0)⟩,
    ⟨some 134, none, .mov (.t 1)⟩,
    ⟨some 135, none, .call 49 [.t 133, .t 134]⟩] [0])
   (.region [⟨some 136, none, .mov (.t 0)⟩,
    ⟨some 137, none, .mov (.t 0)⟩,
    ⟨some 138, none, .nilc (.t 137)⟩,
    ⟨some 139, none, .fa 3 (.t 138)⟩,
    ⟨some 140, none, .ld 1 false (.t 139)⟩,
    ⟨some 141, none, .bslice 2 1 [.int .i64 0] [(0, 1, .c (.int .i64 64524)), (1, 1, .c (.int .i64 64526))]⟩,
    ⟨some 142, none, .mov (.t 0)⟩,
    ⟨some 143, none, .nilc (.t 142)⟩,
    ⟨some 144, none, .fa 0 (.t 143)⟩,
    ⟨some 145, none, .ld 1 false (.t 144)⟩,
    ⟨some 146, none, .call 20 [.t 145, .c (.int .i64 2)]⟩,
    ⟨none, none, .chk 1 false (.t 139) 140⟩,
    ⟨some 147, none, .iaV 1 (.t 141) (.t 146)⟩,
    ⟨some 148, none, .ld 1 false (.t 147)⟩,
    ⟨some 149, none, .build [.int .i64 0, .int .u32 0, .int .u32 0, .int .u64 0, .slice none 0 0, .int .i64 0] [(0, 1, .t 148)]⟩,
    ⟨some 150, none, .bslice 1 6 [.int .i64 0, .int .u32 0, .int .u32 0, .int .u64 0, .slice none 0 0, .int .i64 0] [(0, 6, .t 149)]⟩,
    ⟨some 151, none, .app 6 56 (.t 140) (.t 150)⟩,
    ⟨some 152, none, .nilc (.t 136)⟩,
    ⟨some 153, none, .fa 3 (.t 152)⟩,
    ⟨none, none, .st 1 (.t 153) (.t 151)⟩] [])) (.seq (.region [⟨some 155, none, .bin .eql (.t 21) (.c (.int .i64 9))⟩,
    ⟨some 154, none, .mov (.t 155)⟩] [0, 1, 21, 154])
   (.cond (.t 154) (.seq (.region [⟨some 156, none, .mov (.t 0)⟩,
    ⟨some 157, none, .mov (.t 0)⟩,
    ⟨some 158, none, .nilc (.t 157)⟩,
    ⟨some 159, none, .fa 0 (.t 158)⟩,
    ⟨some 160, none, .ld 1 false (.t 159)⟩,
    ⟨some 161, none, .call 20 [.t 160, .c (.int .i64 6)]⟩,
    ⟨some 162, none, .conv .u64 (.t 161)⟩,
    ⟨some 163, none, .call 40 [.t 156, .c (.int .u8 127), .t 162]⟩] [0])
   (.seq (.region [⟨some 164, none, .mov (.t 0)⟩,
    ⟨some 165, none, .call 50 [.t 164]⟩] [0])
   (.region [⟨some 166, none, .mov (.t 0)⟩,
    ⟨some 167, none, .call 43 [.t 166, .c (.int .i64 38), .c (.int .u32 0)]⟩] []))) (.seq (.region [⟨some 169, none, .bin .eql (.t 21) (.c (.int .i64 10))⟩,
    ⟨some 168, none, .mov (.t 169)⟩] [0, 1, 21, 168])
   (.cond (.t 168) (.region [⟨some 170, none, .mov (.t 0)⟩,
    ⟨some 171, none, .mov (.t 1)⟩,
    ⟨some 172, none, .call 51 [.t 170, .t 171]⟩] []) (.seq (.region [⟨some 174, none, .bin .eql (.t 21) (.c (.int .i64 11))⟩,
    ⟨some 173, none, .mov (.t 174)⟩] [0, 1, 21, 173])
   (.cond (.t 173) (.region [⟨some 175, none, .mov (.t 0)⟩,
    ⟨some 176, none, .bslice 2 1 [.int .i64 0] [(0, 1, .c (.int .i64 64521)), (1, 1, .c (.int .i64 64525))]⟩,
    ⟨some 177, none, .mov (.t 0)⟩,
    ⟨some 178, none, .nilc (.t 177)⟩,
    ⟨some 179, none, .fa 0 (.t 178)⟩,
    ⟨some 180, none, .ld 1 false (.t 179)⟩,
    ⟨some 184, none, .mov (.t 0)⟩,
    ⟨some 185, none, .nilc (.t 184)⟩,
    ⟨some 186, none, .fa 0 (.t 185)⟩,
    ⟨some 187, none, .ld 1 false (.t 186)⟩,
    ⟨some 181, none, .call 20 [.t 180, .c (.int .i64 2)]⟩,
    ⟨none, none, .chk 1 false (.t 186) 187⟩,
    ⟨some 182, none, .iaV 1 (.t 176) (.t 181)⟩,
    ⟨some 183, none, .ld 1 false (.t 182)⟩,
    ⟨some 188, none, .call 20 [.t 187, .c (.int .i64 2)]⟩,
    ⟨none, none, .chk 1 false (.t 182) 183⟩,
    ⟨some 189, none, .conv .u32 (.t 188)⟩,
    ⟨some 190, none, .call 43 [.t 175, .t 183, .t 189]⟩] []) (.seq (.region [⟨some 192, none, .bin .eql (.t 21) (.c (.int .i64 12))⟩,
    ⟨some 191, none, .mov (.t 192)⟩] [0, 1, 191])
   (.cond (.t 191) (.seq (.region [⟨some 193, none, .mov (.t 0)⟩,
    ⟨some 194, none, .mov (.t 0)⟩,
    ⟨some 195, none, .nilc (.t 194)⟩,
    ⟨some 196, none, .fa 0 (.t 195)⟩,
    ⟨some 197, none, .ld 1 false (.t 196)⟩,
    ⟨some 198, none, .call 20 [.t 197, .c (.int .i64 4)]⟩,
    ⟨some 199, none, .conv .u64 (.t 198)⟩,
    ⟨some 200, none, .call 40 [.t 193, .c (.int .u8 127), .t 199]⟩] [0])
   (.seq (.region [⟨some 201, none, .mov (.t 0)⟩,
    ⟨some 202, none, .call 50 [.t 201]⟩] [0])
   (.seq (.region [⟨some 203, none, .mov (.t 0)⟩,
    ⟨some 204, none, .mov (.t 0)⟩,
    ⟨some 205, none, .nilc (.t 204)⟩,
    ⟨some 206, none, .fa 0 (.t 205)⟩,
    ⟨some 207, none, .ld 1 false (.t 206)⟩,
    ⟨some 208, none, .call 20 [.t 207, .c (.int .i64 4)]⟩,
    ⟨some 209, none, .conv .u64 (.t 208)⟩,
    ⟨some 210, none, .call 40 [.t 203, .c (.int .u8 127), .t 209]⟩] [0])
   (.region [⟨some 211, none, .mov (.t 0)⟩,
    ⟨some 212, none, .call 43 [.t 211, .c (.int .i64 64529), .c (.int .u32 0)]⟩] [])))) (.region [⟨some 22, none, .mov (.t 0)⟩,
    ⟨some 23, none, .mov (.t 1)⟩,
    ⟨some 24, none, .call 52 [.t 22, .t 23]⟩] []))))))))))))))))))))))),
  [], 213, 2⟩
def A39 : Ann := ⟨[(0, [0, 1, 4]), (1, [0, 1, 4, 21]), (2, []), (3, [0, 1, 4, 21, 25]), (4, [0, 1, 4, 21, 25]), (5, [0, 1, 4, 5, 6]), (6, [0, 5, 6]), (7, [0, 5, 38]), (8, []), (9, []), (10, [0, 1, 4, 21, 44]), (11, [0, 1, 4, 21, 44]), (12, [0, 4]), (13, [0, 4, 7]), (14, [0, 7, 52]), (15, [0, 7]), (16, []), (17, [0, 1, 4, 21, 56]), (18, [0, 1, 4, 21, 56]), (19, [0, 1, 4]), (20, [0, 4]), (21, [0, 4, 8]), (22, [0, 8, 77]), (23, [0, 8]), (24, []), (25, [0, 1, 21, 103]), (26, [0]), (27, []), (28, [0, 1, 21, 118]), (29, [0]), (30, []), (31, [0, 1, 21, 131]), (32, [0]), (33, []), (34, [0, 1, 21, 154]), (35, [0]), (36, [0]), (37, []), (38, [0, 1, 21, 168]), (39, []), (40, [0, 1, 21, 173]), (41, []), (42, [0, 1, 191]), (43, [0]), (44, [0]), (45, [0]), (46, [])], [(24, [(0, []), (1, []), (2, []), (3, []), (4, []), (5, []), (6, []), (7, []), (8, []), (9, []), (10, [4]), (11, []), (12, []), (13, []), (14, []), (15, []), (16, []), (17, [])], [(2, [1]), (3, [1, 2]), (4, [1, 2, 3]), (7, [6]), (8, [6, 7]), (9, [6, 7, 8]), (10, [6, 7, 8, 9]), (11, [6, 7, 8, 9, 10]), (12, [5, 6, 7, 8, 9, 10, 11]), (13, [5, 6, 7, 8, 9, 10, 11, 12]), (14, [1, 2, 3, 4, 5, 6, 7, 8, 9, 10, 11, 12, 13]), (15, [0, 1, 2, 3, 4, 5, 6, 7, 8, 9, 10, 11, 12, 13, 14]), (16, [0, 1, 2, 3, 4, 5, 6, 7, 8, 9, 10, 11, 12, 13, 14, 15]), (17, [0, 1, 2, 3, 4, 5, 6, 7, 8, 9, 10, 11, 12, 13, 14, 15, 16])]),
  (33, [(0, []), (1, []), (2, []), (3, []), (4, []), (5, []), (6, []), (7, []), (8, []), (9, []), (10, [4]), (11, []), (12, []), (13, []), (14, []), (15, []), (16, []), (17, []), (18, [])], [(2, [1]), (3, [1, 2]), (4, [1, 2, 3]), (7, [6]), (8, [6, 7]), (9, [6, 7, 8]), (10, [6, 7, 8, 9]), (11, [5, 6, 7, 8, 9, 10]), (12, [5, 6, 7, 8, 9, 10, 11]), (13, [5, 6, 7, 8, 9, 10, 11, 12]), (14, [5, 6, 7, 8, 9, 10, 11, 12, 13]), (15, [1, 2, 3, 4, 5, 6, 7, 8, 9, 10, 11, 12, 13, 14]), (16, [0, 1, 2, 3, 4, 5, 6, 7, 8, 9, 10, 11, 12, 13, 14, 15]), (17, [0, 1, 2, 3, 4, 5, 6, 7, 8, 9, 10, 11, 12, 13, 14, 15, 16]), (18, [0, 1, 2, 3, 4, 5, 6, 7, 8, 9, 10, 11, 12, 13, 14, 15, 16, 17])]),
  (41, [(0, []), (1, []), (2, []), (3, []), (4, []), (5, []), (9, []), (10, []), (11, []), (12, []), (6, [12]), (7, []), (8, []), (13, [8]), (14, []), (15, [])], [(3, [2]), (4, [2, 3]), (5, [2, 3, 4]), (6, [2, 3, 4, 5]), (7, [1, 2, 3, 4, 5, 6]), (8, [1, 2, 3, 4, 5, 6, 7]), (10, [9]), (11, [9, 10]), (12, [9, 10, 11]), (13, [2, 3, 4, 5, 6, 9, 10, 11, 12]), (14, [2, 3, 4, 5, 6, 9, 10, 11, 12, 13]), (15, [0, 1, 2, 3, 4, 5, 6, 7, 8, 9, 10, 11, 12, 13, 14])])]⟩
set_option maxRecDepth 100000 in
theorem F39.ok : compF Try.prog A39 Try.f39 = some F39 := by kernel_rfl
theorem F39.fok : FOk Try.prog 39 F39 := fok_of mixed Try.func39 F39.ok

/-- (*cloakroom/cloakroomplay.maker).num -/
def F40 : SFn := ⟨.seq (.region [⟨some 6, none, .mov (.t 1)⟩,
    ⟨some 7, none, .bin .eql (.t 6) (.c (.int .u8 127))⟩] [0, 2, 7])
   (.cond (.t 7) (.region [⟨some 8, none, .mov (.t 0)⟩,
    ⟨some 9, none, .mov (.t 0)⟩,
    ⟨some 10, none, .nilc (.t 9)⟩,
    ⟨some 11, none, .fa 3 (.t 10)⟩,
    ⟨some 12, none, .ld 1 false (.t 11)⟩,
    ⟨some 13, none, .mov (.t 2)⟩,
    ⟨some 14, none, .bin .and (.t 13) (.c (.int .u64 4294967295))⟩,
    ⟨some 15, none, .build [.int .i64 0, .int .u32 0, .int .u32 0, .int .u64 0, .slice none 0 0, .int .i64 0] [(0, 1, .c (.int .i64 65)), (3, 1, .t 14)]⟩,
    ⟨some 16, none, .bslice 1 6 [.int .i64 0, .int .u32 0, .int .u32 0, .int .u64 0, .slice none 0 0, .int .i64 0] [(0, 6, .t 15)]⟩,
    ⟨some 17, none, .app 6 56 (.t 12) (.t 16)⟩,
    ⟨some 18, none, .nilc (.t 8)⟩,
    ⟨some 19, none, .fa 3 (.t 18)⟩,
    ⟨none, none, .st 1 (.t 19) (.t 17)⟩] []) (.region [⟨some 20, none, .mov (.t 0)⟩,
    ⟨some 21, none, .mov (.t 0)⟩,
    ⟨some 22, none, .nilc (.t 21)⟩,
    ⟨some 23, none, .fa 3 (.t 22)⟩,
    ⟨some 24, none, .ld 1 false (.t 23)⟩,
    ⟨some 25, none, .mov (.t 2)⟩,
    ⟨some 26, none, .build [.int .i64 0, .int .u32 0, .int .u32 0, .int .u64 0, .slice none 0 0, .int .i64 0] [(0, 1, .c (.int .i64 66)), (3, 1, .t 25)]⟩,
    ⟨some 27, none, .bslice 1 6 [.int .i64 0, .int .u32 0, .int .u32 0, .int .u64 0, .slice none 0 0, .int .i64 0] [(0, 6, .t 26)]⟩,
    ⟨some 28, none, .app 6 56 (.t 24) (.t 27)⟩,
    ⟨some 29, none, .nilc (.t 20)⟩,
    ⟨some 30, none, .fa 3 (.t 29)⟩,
    ⟨none, none, .st 1 (.t 30) (.t 28)⟩] [])),
  [], 31, 3⟩
def A40 : Ann := ⟨[(0, [0, 2, 7]), (1, []), (2, [])], []⟩
set_option maxRecDepth 100000 in
theorem F40.ok : compF Try.prog A40 Try.f40 = some F40 := by kernel_rfl
theorem F40.fok : FOk Try.prog 40 F40 := fok_of mixed Try.func40 F40.ok

/-- (*cloakroom/cloakroomplay.maker).value -/
def F41 : SFn := ⟨.seq (.region [⟨some 2, none, .mov (.c (.int .u64 0))⟩] [0])
   (.seq (.region [⟨some 3, none, .bslice 14 1 [.int .u64 0] [(0, 1, .c (.int .u64 0)), (1, 1, .c (.int .u64 1)), (2, 1, .c (.int .u64 2)), (3, 1, .c (.int .u64 3)), (4, 1, .c (.int .u64 7)), (5, 1, .c (.int .u64 65535)), (6, 1, .c (.int .u64 65536)), (7, 1, .c (.int .u64 2147483647)), (8, 1, .c (.int .u64 2147483648)), (9, 1, .c (.int .u64 4294967295)), (10, 1, .c (.int .u64 9223372036854775808)), (11, 1, .c (.int .u64 18446744073709551615)), (12, 1, .c (.int .u64 40)), (13, 1, .c (.int .u64 100))]⟩,
    ⟨some 4, none, .mov (.t 0)⟩,
    ⟨some 5, none, .nilc (.t 4)⟩,
    ⟨some 6, none, .fa 0 (.t 5)⟩,
    ⟨some 7, none, .ld 1 false (.t 6)⟩,
    ⟨some 8, none, .call 20 [.t 7, .c (.int .i64 14)]⟩,
    ⟨some 9, none, .iaV 1 (.t 3) (.t 8)⟩,
    ⟨some 10, none, .ld 1 false (.t 9)⟩,
    ⟨some 2, none, .mov (.t 10)⟩] [2])
   (.ret)),
  [.t 2], 11, 1⟩
def A41 : Ann := ⟨[(0, [0]), (1, [2])], []⟩
set_option maxRecDepth 100000 in
theorem F41.ok : compF Try.prog A41 Try.f41 = some F41 := by kernel_rfl
theorem F41.fok : FOk Try.prog 41 F41 := fok_of mixed Try.func41 F41.ok

/-- (*cloakroom/cloakroomplay.maker).local -/
def F42 : SFn := ⟨.seq (.region [⟨some 4, none, .mov (.c (.int .u32 0))⟩,
    ⟨some 5, none, .mov (.c (.bool false))⟩] [0, 1])
   (.seq (.region [⟨some 9, none, .mov (.t 0)⟩,
    ⟨some 10, none, .nilc (.t 9)⟩,
    ⟨some 11, none, .fa 0 (.t 10)⟩,
    ⟨some 12, none, .ld 1 false (.t 11)⟩,
    ⟨some 13, none, .call 20 [.t 12, .c (.int .i64 8)]⟩,
    ⟨some 6, none, .mov (.t 13)⟩] [0, 1, 6])
   (.seq (.seq (.region [⟨some 7, none, .mov (.c (.int .i64 0))⟩] [0, 1, 6, 7])
   (.block 0 (.loop (.seq (.seq (.region [⟨some 14, none, .mov (.t 7)⟩,
    ⟨some 15, none, .mov (.t 0)⟩,
    ⟨some 16, none, .nilc (.t 15)⟩,
    ⟨some 17, none, .fa 2 (.t 16)⟩,
    ⟨some 18, none, .ld 1 false (.t 17)⟩,
    ⟨some 19, none, .lenV (.t 18)⟩,
    ⟨some 20, none, .bin .lss (.t 14) (.t 19)⟩] [0, 1, 6, 7, 20])
   (.cond (.t 20) (.skip) (.exit 0)))
   (.seq (.block 1 (.seq (.region [⟨some 23, none, .mov (.t 7)⟩,
    ⟨some 24, none, .mov (.t 6)⟩,
    ⟨some 25, none, .bin .add (.t 23) (.t 24)⟩,
    ⟨some 26, none, .mov (.t 0)⟩,
    ⟨some 27, none, .nilc (.t 26)⟩,
    ⟨some 28, none, .fa 2 (.t 27)⟩,
    ⟨some 29, none, .ld 1 false (.t 28)⟩,
    ⟨some 30, none, .lenV (.t 29)⟩,
    ⟨some 31, none, .bin .rem (.t 25) (.t 30)⟩,
    ⟨some 8, none, .mov (.t 31)⟩] [0, 1, 6, 7, 8])
   (.seq (.region [⟨some 32, none, .mov (.t 0)⟩,
    ⟨some 33, none, .nilc (.t 32)⟩,
    ⟨some 34, none, .fa 2 (.t 33)⟩,
    ⟨some 35, none, .ld 1 false (.t 34)⟩,
    ⟨some 36, none, .mov (.t 8)⟩,
    ⟨some 37, none, .iaV 1 (.t 35) (.t 36)⟩,
    ⟨some 38, none, .ld 1 false (.t 37)⟩,
    ⟨some 39, none, .mov (.t 1)⟩,
    ⟨some 40, none, .bin .eql (.t 38) (.t 39)⟩,
    ⟨some 41, none, .mov (.t 40)⟩,
    ⟨some 42, some (41, true), .mov (.t 8)⟩,
    ⟨some 43, some (41, true), .mov (.t 0)⟩,
    ⟨some 44, some (41, true), .nilc (.t 43)⟩,
    ⟨some 45, some (41, true), .fa 2 (.t 44)⟩,
    ⟨some 46, some (41, true), .ld 1 false (.t 45)⟩,
    ⟨some 47, some (41, true), .lenV (.t 46)⟩,
    ⟨some 48, some (41, true), .bin .sub (.t 47) (.c (.int .i64 1))⟩,
    ⟨some 49, some (41, true), .bin .neq (.t 42) (.t 48)⟩,
    ⟨some 50, none, .pick (.t 41) (.t 49) (.c (.bool false))⟩] [0, 1, 6, 7, 8, 50])
   (.cond (.t 50) (.seq (.region [⟨some 51, none, .mov (.t 8)⟩,
    ⟨some 52, none, .conv .u32 (.t 51)⟩,
    ⟨some 4, none, .mov (.t 52)⟩,
    ⟨some 5, none, .mov (.c (.bool true))⟩] [4, 5])
   (.ret)) (.skip)))))
   (.region [⟨some 21, none, .mov (.t 7)⟩,
    ⟨some 22, none, .bin .add (.t 21) (.c (.int .i64 1))⟩,
    ⟨some 7, none, .mov (.t 22)⟩] [0, 1, 6, 7]))))))
   (.seq (.region [⟨some 4, none, .mov (.c (.int .u32 0))⟩,
    ⟨some 5, none, .mov (.c (.bool false))⟩] [4, 5])
   (.ret)))),
  [.t 4, .t 5], 53, 2⟩
def A42 : Ann := ⟨[(0, [0, 1]), (1, [0, 1, 6]), (2, [0, 1, 6, 7]), (3, [0, 1, 6, 7, 20]), (4, [0, 1, 6, 7]), (5, [0, 1, 6, 7, 8]), (6, [0, 1, 6, 7, 8, 50]), (7, [4, 5]), (8, [4, 5])], []⟩
set_option maxRecDepth 100000 in
theorem F42.ok : compF Try.prog A42 Try.f42 = some F42 := by kernel_rfl
theorem F42.fok : FOk Try.prog 42 F42 := fok_of mixed Try.func42 F42.ok

/-- (*cloakroom/cloakroomplay.maker).a -/
def F43 : SFn := ⟨.region [⟨some 6, none, .mov (.t 0)⟩,
    ⟨some 7, none, .mov (.t 0)⟩,
    ⟨some 8, none, .nilc (.t 7)⟩,
    ⟨some 9, none, .fa 3 (.t 8)⟩,
    ⟨some 10, none, .ld 1 false (.t 9)⟩,
    ⟨some 11, none, .mov (.t 1)⟩,
    ⟨some 12, none, .mov (.t 2)⟩,
    ⟨some 13, none, .build [.int .i64 0, .int .u32 0, .int .u32 0, .int .u64 0, .slice none 0 0, .int .i64 0] [(0, 1, .t 11), (1, 1, .t 12)]⟩,
    ⟨some 14, none, .bslice 1 6 [.int .i64 0, .int .u32 0, .int .u32 0, .int .u64 0, .slice none 0 0, .int .i64 0] [(0, 6, .t 13)]⟩,
    ⟨some 15, none, .app 6 56 (.t 10) (.t 14)⟩,
    ⟨some 16, none, .nilc (.t 6)⟩,
    ⟨some 17, none, .fa 3 (.t 16)⟩,
    ⟨none, none, .st 1 (.t 17) (.t 15)⟩] [],
  [], 18, 3⟩
def A43 : Ann := ⟨[(0, [])], []⟩
set_option maxRecDepth 100000 in
theorem F43.ok : compF Try.prog A43 Try.f43 = some F43 := by kernel_rfl
theorem F43.fok : FOk Try.prog 43 F43 := fok_of mixed Try.func43 F43.ok

/-- (*cloakroom/cloakroomplay.maker).op -/
def F44 : SFn := ⟨.region [⟨some 4, none, .mov (.t 0)⟩,
    ⟨some 5, none, .mov (.t 0)⟩,
    ⟨some 6, none, .nilc (.t 5)⟩,
    ⟨some 7, none, .fa 3 (.t 6)⟩,
    ⟨some 8, none, .ld 1 false (.t 7)⟩,
    ⟨some 9, none, .mov (.t 1)⟩,
    ⟨some 10, none, .build [.int .i64 0, .int .u32 0, .int .u32 0, .int .u64 0, .slice none 0 0, .int .i64 0] [(0, 1, .t 9)]⟩,
    ⟨some 11, none, .bslice 1 6 [.int .i64 0, .int .u32 0, .int .u32 0, .int .u64 0, .slice none 0 0, .int .i64 0] [(0, 6, .t 10)]⟩,
    ⟨some 12, none, .app 6 56 (.t 8) (.t 11)⟩,
    ⟨some 13, none, .nilc (.t 4)⟩,
    ⟨some 14, none, .fa 3 (.t 13)⟩,
    ⟨none, none, .st 1 (.t 14) (.t 12)⟩] [],
  [], 15, 2⟩
def A44 : Ann := ⟨[(0, [])], []⟩
set_option maxRecDepth 100000 in
theorem F44.ok : compF Try.prog A44 Try.f44 = some F44 := by kernel_rfl
theorem F44.fok : FOk Try.prog 44 F44 := fok_of mixed Try.func44 F44.ok

/-- (*cloakroom/cloakroomplay.maker).block -/
def F45 : SFn := ⟨.seq (.region [⟨some 8, none, .mov (.t 0)⟩,
    ⟨some 9, none, .nilc (.t 8)⟩,
    ⟨some 10, none, .fa 4 (.t 9)⟩,
    ⟨some 11, none, .ld 1 false (.t 10)⟩,
    ⟨some 12, none, .bin .add (.t 11) (.c (.int .i64 1))⟩,
    ⟨some 13, none, .nilc (.t 8)⟩,
    ⟨some 14, none, .fa 4 (.t 13)⟩,
    ⟨none, none, .st 1 (.t 14) (.t 12)⟩] [0, 1, 2, 3])
   (.seq (.region [⟨some 15, none, .mov (.t 0)⟩,
    ⟨some 16, none, .mov (.t 0)⟩,
    ⟨some 17, none, .nilc (.t 16)⟩,
    ⟨some 18, none, .fa 3 (.t 17)⟩,
    ⟨some 19, none, .ld 1 false (.t 18)⟩,
    ⟨some 20, none, .mov (.t 1)⟩,
    ⟨some 21, none, .mov (.t 2)⟩,
    ⟨some 22, none, .conv .i64 (.t 21)⟩,
    ⟨some 23, none, .bin .sub (.t 22) (.c (.int .i64 128))⟩,
    ⟨some 24, none, .build [.int .i64 0, .int .u32 0, .int .u32 0, .int .u64 0, .slice none 0 0, .int .i64 0] [(0, 1, .t 20), (5, 1, .t 23)]⟩,
    ⟨some 25, none, .bslice 1 6 [.int .i64 0, .int .u32 0, .int .u32 0, .int .u64 0, .slice none 0 0, .int .i64 0] [(0, 6, .t 24)]⟩,
    ⟨some 26, none, .app 6 56 (.t 19) (.t 25)⟩,
    ⟨some 27, none, .nilc (.t 15)⟩,
    ⟨some 28, none, .fa 3 (.t 27)⟩,
    ⟨none, none, .st 1 (.t 28) (.t 26)⟩] [0, 1, 2, 3])
   (.seq (.region [⟨some 29, none, .mov (.t 0)⟩,
    ⟨some 30, none, .mov (.t 3)⟩,
    ⟨some 31, none, .bin .sub (.t 30) (.c (.int .i64 1))⟩,
    ⟨some 32, none, .call 21 [.t 29, .c (.int .i64 1), .t 31]⟩] [0, 1, 2, 3])
   (.seq (.region [⟨some 33, none, .mov (.t 0)⟩,
    ⟨some 34, none, .mov (.t 2)⟩,
    ⟨some 35, none, .mov (.t 3)⟩,
    ⟨some 36, none, .bin .sub (.t 35) (.c (.int .i64 1))⟩,
    ⟨some 37, none, .call 22 [.t 33, .t 34, .t 36]⟩] [0, 1, 2, 3])
   (.seq (.seq (.region [⟨some 38, none, .mov (.t 0)⟩,
    ⟨some 39, none, .nilc (.t 38)⟩,
    ⟨some 40, none, .fa 0 (.t 39)⟩,
    ⟨some 41, none, .ld 1 false (.t 40)⟩,
    ⟨some 42, none, .call 20 [.t 41, .c (.int .i64 3)]⟩,
    ⟨some 43, none, .bin .eql (.t 42) (.c (.int .i64 0))⟩] [0, 1, 2, 3, 43])
   (.cond (.t 43) (.seq (.region [⟨some 44, none, .mov (.t 0)⟩,
    ⟨some 45, none, .mov (.t 3)⟩,
    ⟨some 46, none, .bin .sub (.t 45) (.c (.int .i64 1))⟩,
    ⟨some 47, none, .call 22 [.t 44, .c (.int .u8 127), .t 46]⟩] [0, 1, 2, 3])
   (.region [⟨some 48, none, .mov (.t 0)⟩,
    ⟨some 49, none, .call 43 [.t 48, .c (.int .i64 13), .c (.int .u32 0)]⟩] [0, 1, 2, 3])) (.skip)))
   (.seq (.seq (.region [⟨some 50, none, .mov (.t 1)⟩,
    ⟨some 51, none, .bin .eql (.t 50) (.c (.int .i64 4))⟩] [0, 2, 3, 51])
   (.cond (.t 51) (.seq (.region [⟨some 52, none, .mov (.t 0)⟩,
    ⟨some 53, none, .call 44 [.t 52, .c (.int .i64 5)]⟩] [0, 2, 3])
   (.region [⟨some 54, none, .mov (.t 0)⟩,
    ⟨some 55, none, .mov (.t 2)⟩,
    ⟨some 56, none, .mov (.t 3)⟩,
    ⟨some 57, none, .bin .sub (.t 56) (.c (.int .i64 1))⟩,
    ⟨some 58, none, .call 22 [.t 54, .t 55, .t 57]⟩] [0])) (.skip)))
   (.seq (.region [⟨some 59, none, .mov (.t 0)⟩,
    ⟨some 60, none, .call 44 [.t 59, .c (.int .i64 11)]⟩] [0])
   (.region [⟨some 61, none, .mov (.t 0)⟩,
    ⟨some 62, none, .nilc (.t 61)⟩,
    ⟨some 63, none, .fa 4 (.t 62)⟩,
    ⟨some 64, none, .ld 1 false (.t 63)⟩,
    ⟨some 65, none, .bin .sub (.t 64) (.c (.int .i64 1))⟩,
    ⟨some 66, none, .nilc (.t 61)⟩,
    ⟨some 67, none, .fa 4 (.t 66)⟩,
    ⟨none, none, .st 1 (.t 67) (.t 65)⟩] []))))))),
  [], 68, 4⟩
def A45 : Ann := ⟨[(0, [0, 1, 2, 3]), (1, [0, 1, 2, 3]), (2, [0, 1, 2, 3]), (3, [0, 1, 2, 3]), (4, [0, 1, 2, 3, 43]), (5, [0, 1, 2, 3]), (6, [0, 1, 2, 3]), (7, [0, 2, 3, 51]), (8, [0, 2, 3]), (9, [0]), (10, [0]), (11, [])], []⟩
set_option maxRecDepth 100000 in
theorem F45.ok : compF Try.prog A45 Try.f45 = some F45 := by kernel_rfl
theorem F45.fok : FOk Try.prog 45 F45 := fok_of mixed Try.func45 F45.ok

/-- (*cloakroom/cloakroomplay.maker).called -/
def F46 : SFn := ⟨.seq (.seq (.region [⟨some 6, none, .mov (.c (.int .i64 0))⟩] [0, 1, 2, 6])
   (.block 0 (.loop (.seq (.seq (.region [⟨some 9, none, .mov (.t 6)⟩,
    ⟨some 10, none, .mov (.t 0)⟩,
    ⟨some 11, none, .nilc (.t 10)⟩,
    ⟨some 12, none, .fa 1 (.t 11)⟩,
    ⟨some 13, none, .ld 1 false (.t 12)⟩,
    ⟨some 14, none, .nilc (.t 13)⟩,
    ⟨some 15, none, .fa 1 (.t 14)⟩,
    ⟨some 16, none, .ld 1 false (.t 15)⟩,
    ⟨some 17, none, .lenV (.t 16)⟩,
    ⟨some 18, none, .bin .lss (.t 9) (.t 17)⟩] [0, 1, 2, 6, 18])
   (.cond (.t 18) (.skip) (.exit 0)))
   (.seq (.block 1 (.seq (.region [⟨some 21, none, .mov (.t 0)⟩,
    ⟨some 22, none, .nilc (.t 21)⟩,
    ⟨some 23, none, .fa 1 (.t 22)⟩,
    ⟨some 24, none, .ld 1 false (.t 23)⟩,
    ⟨some 25, none, .nilc (.t 24)⟩,
    ⟨some 26, none, .fa 0 (.t 25)⟩,
    ⟨some 27, none, .ld 1 false (.t 26)⟩,
    ⟨some 28, none, .mov (.t 0)⟩,
    ⟨some 29, none, .nilc (.t 28)⟩,
    ⟨some 30, none, .fa 1 (.t 29)⟩,
    ⟨some 31, none, .ld 1 false (.t 30)⟩,
    ⟨some 32, none, .nilc (.t 31)⟩,
    ⟨some 33, none, .fa 1 (.t 32)⟩,
    ⟨some 34, none, .ld 1 false (.t 33)⟩,
    ⟨some 35, none, .mov (.t 6)⟩,
    ⟨some 36, none, .iaV 1 (.t 34) (.t 35)⟩,
    ⟨some 37, none, .ld 1 false (.t 36)⟩,
    ⟨some 38, none, .iaV 2 (.t 27) (.t 37)⟩,
    ⟨some 39, none, .ld 2 true (.t 38)⟩,
    ⟨some 7, none, .new [.slice none 0 0, .slice none 0 0]⟩,
    ⟨none, none, .st 2 (.t 7) (.t 39)⟩] [0, 1, 2, 6, 7])
   (.seq (.seq (.region [⟨some 40, none, .fa 1 (.t 7)⟩,
    ⟨some 41, none, .ld 1 false (.t 40)⟩,
    ⟨some 42, none, .lenV (.t 41)⟩,
    ⟨some 43, none, .bin .neq (.t 42) (.c (.int .i64 1))⟩,
    ⟨some 44, none, .mov (.t 43)⟩,
    ⟨some 45, some (44, false), .fa 1 (.t 7)⟩,
    ⟨some 46, some (44, false), .ld 1 false (.t 45)⟩,
    ⟨some 47, some (44, false), .iaV 1 (.t 46) (.c (.int .i64 0))⟩,
    ⟨some 48, some (44, false), .ld 1 false (.t 47)⟩,
    ⟨some 49, some (44, false), .mov (.t 1)⟩,
    ⟨some 50, some (44, false), .bin .neq (.t 48) (.t 49)⟩,
    ⟨some 51, none, .pick (.t 44) (.c (.bool true)) (.t 50)⟩,
    ⟨some 52, none, .mov (.t 51)⟩,
    ⟨some 53, some (52, false), .mov (.t 6)⟩,
    ⟨some 54, some (52, false), .mov (.t 0)⟩,
    ⟨some 55, some (52, false), .nilc (.t 54)⟩,
    ⟨some 56, some (52, false), .fa 5 (.t 55)⟩,
    ⟨some 57, some (52, false), .ld 1 false (.t 56)⟩,
    ⟨some 58, some (52, false), .bin .geq (.t 53) (.t 57)⟩,
    ⟨some 59, some (52, false), .mov (.t 58)⟩,
    ⟨some 60, some (59, true), .mov (.t 0)⟩,
    ⟨some 61, some (59, true), .nilc (.t 60)⟩,
    ⟨some 62, some (59, true), .fa 0 (.t 61)⟩,
    ⟨some 63, some (59, true), .ld 1 false (.t 62)⟩,
    ⟨some 64, some (59, true), .call 20 [.t 63, .c (.int .i64 6)]⟩,
    ⟨some 65, some (59, true), .bin .gtr (.t 64) (.c (.int .i64 0))⟩,
    ⟨some 66, some (52, false), .pick (.t 59) (.t 65) (.c (.bool false))⟩,
    ⟨some 67, none, .pick (.t 52) (.c (.bool true)) (.t 66)⟩] [0, 1, 2, 6, 7, 67])
   (.cond (.t 67) (.exit 1) (.skip)))
   (.seq (.seq (.region [⟨some 8, none, .mov (.c (.int .i64 0))⟩] [0, 2, 6, 7, 8])
   (.block 2 (.loop (.seq (.seq (.region [⟨some 68, none, .mov (.t 8)⟩,
    ⟨some 69, none, .fa 0 (.t 7)⟩,
    ⟨some 70, none, .ld 1 false (.t 69)⟩,
    ⟨some 71, none, .lenV (.t 70)⟩,
    ⟨some 72, none, .bin .lss (.t 68) (.t 71)⟩] [0, 2, 6, 7, 8, 72])
   (.cond (.t 72) (.skip) (.exit 2)))
   (.seq (.block 3 (.region [⟨some 75, none, .mov (.t 0)⟩,
    ⟨some 76, none, .fa 0 (.t 7)⟩,
    ⟨some 77, none, .ld 1 false (.t 76)⟩,
    ⟨some 78, none, .mov (.t 8)⟩,
    ⟨some 79, none, .iaV 1 (.t 77) (.t 78)⟩,
    ⟨some 80, none, .ld 1 false (.t 79)⟩,
    ⟨some 81, none, .mov (.t 2)⟩,
    ⟨some 82, none, .bin .sub (.t 81) (.c (.int .i64 1))⟩,
    ⟨some 83, none, .call 22 [.t 75, .t 80, .t 82]⟩] [0, 2, 6, 7, 8]))
   (.region [⟨some 73, none, .mov (.t 8)⟩,
    ⟨some 74, none, .bin .add (.t 73) (.c (.int .i64 1))⟩,
    ⟨some 8, none, .mov (.t 74)⟩] [0, 2, 6, 7, 8]))))))
   (.seq (.seq (.region [⟨some 84, none, .mov (.t 0)⟩,
    ⟨some 85, none, .nilc (.t 84)⟩,
    ⟨some 86, none, .fa 0 (.t 85)⟩,
    ⟨some 87, none, .ld 1 false (.t 86)⟩,
    ⟨some 88, none, .call 20 [.t 87, .c (.int .i64 3)]⟩,
    ⟨some 89, none, .bin .eql (.t 88) (.c (.int .i64 0))⟩] [0, 6, 89])
   (.cond (.t 89) (.seq (.region [⟨some 90, none, .mov (.t 0)⟩,
    ⟨some 91, none, .mov (.t 0)⟩,
    ⟨some 92, none, .nilc (.t 91)⟩,
    ⟨some 93, none, .fa 0 (.t 92)⟩,
    ⟨some 94, none, .ld 1 false (.t 93)⟩,
    ⟨some 95, none, .call 20 [.t 94, .c (.int .i64 5)]⟩,
    ⟨some 96, none, .conv .u64 (.t 95)⟩,
    ⟨some 97, none, .call 40 [.t 90, .c (.int .u8 127), .t 96]⟩] [0, 6])
   (.region [⟨some 98, none, .mov (.t 0)⟩,
    ⟨some 99, none, .mov (.t 0)⟩,
    ⟨some 100, none, .nilc (.t 99)⟩,
    ⟨some 101, none, .fa 3 (.t 100)⟩,
    ⟨some 102, none, .ld 1 false (.t 101)⟩,
    ⟨some 103, none, .mov (.t 0)⟩,
    ⟨some 104, none, .nilc (.t 103)⟩,
    ⟨some 105, none, .fa 1 (.t 104)⟩,
    ⟨some 106, none, .ld 1 false (.t 105)⟩,
    ⟨some 107, none, .nilc (.t 106)⟩,
    ⟨some 108, none, .fa 1 (.t 107)⟩,
    ⟨some 109, none, .ld 1 false (.t 108)⟩,
    ⟨some 110, none, .mov (.t 6)⟩,
    ⟨some 111, none, .iaV 1 (.t 109) (.t 110)⟩,
    ⟨some 112, none, .ld 1 false (.t 111)⟩,
    ⟨some 113, none, .build [.int .i64 0, .int .u32 0, .int .u32 0, .int .u64 0, .slice none 0 0, .int .i64 0] [(0, 1, .c (.int .i64 17)), (1, 1, .t 112)]⟩,
    ⟨some 114, none, .bslice 1 6 [.int .i64 0, .int .u32 0, .int .u32 0, .int .u64 0, .slice none 0 0, .int .i64 0] [(0, 6, .t 113)]⟩,
    ⟨some 115, none, .app 6 56 (.t 102) (.t 114)⟩,
    ⟨some 116, none, .nilc (.t 98)⟩,
    ⟨some 117, none, .fa 3 (.t 116)⟩,
    ⟨none, none, .st 1 (.t 117) (.t 115)⟩] [])) (.region [⟨some 118, none, .mov (.t 0)⟩,
    ⟨some 119, none, .mov (.t 6)⟩,
    ⟨some 120, none, .conv .u32 (.t 119)⟩,
    ⟨some 121, none, .call 43 [.t 118, .c (.int .i64 16), .t 120]⟩] [])))
   (.ret))))))
   (.region [⟨some 19, none, .mov (.t 6)⟩,
    ⟨some 20, none, .bin .add (.t 19) (.c (.int .i64 1))⟩,
    ⟨some 6, none, .mov (.t 20)⟩] [0, 1, 2, 6]))))))
   (.region [⟨some 122, none, .mov (.t 0)⟩,
    ⟨some 123, none, .mov (.t 1)⟩,
    ⟨some 124, none, .call 40 [.t 122, .t 123, .c (.int .u64 8)]⟩] []),
  [], 125, 3⟩
def A46 : Ann := ⟨[(0, [0, 1, 2, 6]), (1, [0, 1, 2, 6, 18]), (2, [0, 1, 2, 6]), (3, [0, 1, 2, 6, 7]), (4, [0, 1, 2, 6, 7, 67]), (5, [0, 2, 6, 7, 8]), (6, [0, 2, 6, 7, 8, 72]), (7, [0, 2, 6, 7, 8]), (8, [0, 2, 6, 7, 8]), (9, [0, 6, 89]), (10, [0, 6]), (11, []), (12, []), (13, [])], [(3, [(0, []), (1, []), (2, []), (3, []), (4, []), (5, []), (6, []), (7, []), (8, []), (9, []), (10, []), (11, []), (12, []), (13, []), (14, []), (15, []), (16, []), (17, []), (18, []), (19, []), (20, [])], [(1, [0]), (2, [0, 1]), (3, [0, 1, 2]), (4, [0, 1, 2, 3]), (5, [0, 1, 2, 3, 4]), (6, [0, 1, 2, 3, 4, 5]), (8, [7]), (9, [7, 8]), (10, [7, 8, 9]), (11, [7, 8, 9, 10]), (12, [7, 8, 9, 10, 11]), (13, [7, 8, 9, 10, 11, 12]), (15, [7, 8, 9, 10, 11, 12, 13, 14]), (16, [7, 8, 9, 10, 11, 12, 13, 14, 15]), (17, [0, 1, 2, 3, 4, 5, 6, 7, 8, 9, 10, 11, 12, 13, 14, 15, 16]), (18, [0, 1, 2, 3, 4, 5, 6, 7, 8, 9, 10, 11, 12, 13, 14, 15, 16, 17]), (20, [0, 1, 2, 3, 4, 5, 6, 7, 8, 9, 10, 11, 12, 13, 14, 15, 16, 17, 18, 19])]),
  (11, [(0, []), (1, []), (2, []), (3, []), (4, []), (5, []), (6, []), (7, []), (8, []), (9, []), (10, []), (11, []), (12, []), (13, []), (14, []), (15, []), (16, []), (17, []), (18, []), (19, []), (20, [])], [(2, [1]), (3, [1, 2]), (4, [1, 2, 3]), (6, [5]), (7, [5, 6]), (8, [5, 6, 7]), (9, [5, 6, 7, 8]), (10, [5, 6, 7, 8, 9]), (11, [5, 6, 7, 8, 9, 10]), (13, [5, 6, 7, 8, 9, 10, 11, 12]), (14, [5, 6, 7, 8, 9, 10, 11, 12, 13]), (15, [5, 6, 7, 8, 9, 10, 11, 12, 13, 14]), (16, [5, 6, 7, 8, 9, 10, 11, 12, 13, 14, 15]), (17, [1, 2, 3, 4, 5, 6, 7, 8, 9, 10, 11, 12, 13, 14, 15, 16]), (18, [0, 1, 2, 3, 4, 5, 6, 7, 8, 9, 10, 11, 12, 13, 14, 15, 16, 17]), (19, [0, 1, 2, 3, 4, 5, 6, 7, 8, 9, 10, 11, 12, 13, 14, 15, 16, 17, 18]), (20, [0, 1, 2, 3, 4, 5, 6, 7, 8, 9, 10, 11, 12, 13, 14, 15, 16, 17, 18, 19])])]⟩
set_option maxRecDepth 100000 in
theorem F46.ok : compF Try.prog A46 Try.f46 = some F46 := by kernel_rfl
theorem F46.fok : FOk Try.prog 46 F46 := fok_of mixed Try.func46 F46.ok

/-- (*cloakroom/cloakroomplay.maker).sizes -/
def F47 : SFn := ⟨.seq (.seq (.region [⟨some 6, none, .mov (.t 1)⟩,
    ⟨some 7, none, .bin .neq (.t 6) (.c (.int .u8 127))⟩] [0, 1, 2, 7])
   (.cond (.t 7) (.seq (.region [⟨some 8, none, .mov (.t 0)⟩,
    ⟨some 9, none, .mov (.t 1)⟩,
    ⟨some 10, none, .call 40 [.t 8, .t 9, .c (.int .u64 11)]⟩] [])
   (.ret)) (.skip)))
   (.seq (.region [⟨some 11, none, .mov (.t 0)⟩,
    ⟨some 12, none, .nilc (.t 11)⟩,
    ⟨some 13, none, .fa 0 (.t 12)⟩,
    ⟨some 14, none, .ld 1 false (.t 13)⟩,
    ⟨some 15, none, .call 20 [.t 14, .c (.int .i64 5)]⟩] [0, 2, 15])
   (.block 0 (.seq (.region [⟨some 29, none, .bin .eql (.t 15) (.c (.int .i64 0))⟩,
    ⟨some 28, none, .mov (.t 29)⟩] [0, 2, 15, 28])
   (.cond (.t 28) (.region [⟨some 30, none, .mov (.t 0)⟩,
    ⟨some 31, none, .call 44 [.t 30, .c (.int .i64 63)]⟩] []) (.seq (.region [⟨some 33, none, .bin .eql (.t 15) (.c (.int .i64 1))⟩,
    ⟨some 32, none, .mov (.t 33)⟩] [0, 2, 15, 32])
   (.cond (.t 32) (.seq (.region [⟨some 34, none, .mov (.t 0)⟩,
    ⟨some 35, none, .mov (.t 2)⟩,
    ⟨some 36, none, .bin .sub (.t 35) (.c (.int .i64 1))⟩,
    ⟨some 37, none, .call 22 [.t 34, .c (.int .u8 127), .t 36]⟩] [0])
   (.region [⟨some 38, none, .mov (.t 0)⟩,
    ⟨some 39, none, .call 44 [.t 38, .c (.int .i64 64)]⟩] [])) (.seq (.region [⟨some 41, none, .bin .eql (.t 15) (.c (.int .i64 2))⟩,
    ⟨some 40, none, .mov (.t 41)⟩] [0, 2, 15, 40])
   (.cond (.t 40) (.region [⟨some 42, none, .mov (.t 0)⟩,
    ⟨some 43, none, .call 43 [.t 42, .c (.int .i64 64528), .c (.int .u32 0)]⟩] []) (.seq (.region [⟨some 45, none, .bin .eql (.t 15) (.c (.int .i64 3))⟩,
    ⟨some 44, none, .mov (.t 45)⟩] [0, 2, 44])
   (.cond (.t 44) (.seq (.region [⟨some 46, none, .mov (.t 0)⟩,
    ⟨some 47, none, .mov (.t 2)⟩,
    ⟨some 48, none, .bin .sub (.t 47) (.c (.int .i64 1))⟩,
    ⟨some 49, none, .call 22 [.t 46, .c (.int .u8 127), .t 48]⟩] [0])
   (.seq (.region [⟨some 50, none, .mov (.t 0)⟩,
    ⟨some 51, none, .call 43 [.t 50, .c (.int .i64 37), .c (.int .u32 0)]⟩] [0])
   (.region [⟨some 52, none, .mov (.t 0)⟩,
    ⟨some 53, none, .call 44 [.t 52, .c (.int .i64 209)]⟩] []))) (.seq (.region [⟨some 16, none, .mov (.t 0)⟩,
    ⟨some 17, none, .call 43 [.t 16, .c (.int .i64 208), .c (.int .u32 112)]⟩] [0])
   (.seq (.region [⟨some 18, none, .mov (.t 0)⟩,
    ⟨some 19, none, .mov (.t 0)⟩,
    ⟨some 20, none, .nilc (.t 19)⟩,
    ⟨some 21, none, .fa 0 (.t 20)⟩,
    ⟨some 22, none, .ld 1 false (.t 21)⟩,
    ⟨some 23, none, .call 20 [.t 22, .c (.int .i64 4)]⟩,
    ⟨some 24, none, .conv .u64 (.t 23)⟩,
    ⟨some 25, none, .call 40 [.t 18, .c (.int .u8 127), .t 24]⟩] [0])
   (.region [⟨some 26, none, .mov (.t 0)⟩,
    ⟨some 27, none, .call 43 [.t 26, .c (.int .i64 64527), .c (.int .u32 0)]⟩] []))))))))))))),
  [], 54, 3⟩
def A47 : Ann := ⟨[(0, [0, 1, 2, 7]), (1, []), (2, [0, 2, 15]), (3, [0]), (4, [0]), (5, []), (6, [0, 2, 15, 28]), (7, []), (8, [0, 2, 15, 32]), (9, [0]), (10, []), (11, [0, 2, 15, 40]), (12, []), (13, [0, 2, 44]), (14, [0]), (15, [0]), (16, [])], []⟩
set_option maxRecDepth 100000 in
theorem F47.ok : compF Try.prog A47 Try.f47 = some F47 := by kernel_rfl
theorem F47.fok : FOk Try.prog 47 F47 := fok_of mixed Try.func47 F47.ok

/-- cloakroom/ctrl.Blocks -/
def F48 : SFn := ⟨.seq (.region [⟨some 2, none, .mov (.c (.map none))⟩,
    ⟨some 3, none, .mov (.c (.bool false))⟩] [0])
   (.seq (.region [⟨some 7, none, .mov (.t 0)⟩,
    ⟨some 8, none, .call 53 [.t 7]⟩,
    ⟨some 6, none, .mov (.t 8)⟩,
    ⟨some 9, none, .ext (.t 6) 0⟩,
    ⟨some 10, none, .ext (.t 6) 1⟩,
    ⟨some 4, none, .mov (.t 9)⟩,
    ⟨some 5, none, .mov (.t 10)⟩] [4, 5])
   (.seq (.seq (.region [⟨some 11, none, .mov (.t 5)⟩,
    ⟨some 12, none, .un .not (.t 11)⟩] [4, 12])
   (.cond (.t 12) (.seq (.region [⟨some 2, none, .mov (.c (.map none))⟩,
    ⟨some 3, none, .mov (.c (.bool false))⟩] [2, 3])
   (.ret)) (.skip)))
   (.seq (.region [⟨some 13, none, .mov (.t 4)⟩,
    ⟨some 14, none, .nilc (.t 13)⟩,
    ⟨some 15, none, .fa 2 (.t 14)⟩,
    ⟨some 16, none, .ld 1 false (.t 15)⟩,
    ⟨some 2, none, .mov (.t 16)⟩,
    ⟨some 3, none, .mov (.c (.bool true))⟩] [2, 3])
   (.ret)))),
  [.t 2, .t 3], 17, 1⟩
def A48 : Ann := ⟨[(0, [0]), (1, [4, 5]), (2, [4, 12]), (3, [2, 3]), (4, [2, 3])], []⟩
set_option maxRecDepth 100000 in
theorem F48.ok : compF Try.prog A48 Try.f48 = some F48 := by kernel_rfl
theorem F48.fok : FOk Try.prog 48 F48 := fok_of mixed Try.func48 F48.ok

/-- (*cloakroom/cloakroomplay.maker).three -/
def F49 : SFn := ⟨.seq (.region [⟨some 4, none, .mov (.c (.int .i64 0))⟩] [0, 1, 4])
   (.block 0 (.loop (.seq (.seq (.region [⟨some 5, none, .mov (.t 4)⟩,
    ⟨some 6, none, .bin .lss (.t 5) (.c (.int .i64 3))⟩] [0, 1, 4, 6])
   (.cond (.t 6) (.skip) (.exit 0)))
   (.seq (.block 1 (.seq (.region [⟨some 9, none, .mov (.t 0)⟩,
    ⟨some 10, none, .nilc (.t 9)⟩,
    ⟨some 11, none, .fa 0 (.t 10)⟩,
    ⟨some 12, none, .ld 1 false (.t 11)⟩,
    ⟨some 13, none, .call 20 [.t 12, .c (.int .i64 3)]⟩,
    ⟨some 14, none, .bin .eql (.t 13) (.c (.int .i64 0))⟩] [0, 1, 4, 14])
   (.cond (.t 14) (.region [⟨some 15, none, .mov (.t 0)⟩,
    ⟨some 16, none, .mov (.t 1)⟩,
    ⟨some 17, none, .bin .sub (.t 16) (.c (.int .i64 1))⟩,
    ⟨some 18, none, .call 22 [.t 15, .c (.int .u8 127), .t 17]⟩] [0, 1, 4]) (.region [⟨some 19, none, .mov (.t 0)⟩,
    ⟨some 20, none, .mov (.t 0)⟩,
    ⟨some 21, none, .nilc (.t 20)⟩,
    ⟨some 22, none, .fa 0 (.t 21)⟩,
    ⟨some 23, none, .ld 1 false (.t 22)⟩,
    ⟨some 24, none, .call 20 [.t 23, .c (.int .i64 9)]⟩,
    ⟨some 25, none, .conv .u64 (.t 24)⟩,
    ⟨some 26, none, .call 40 [.t 19, .c (.int .u8 127), .t 25]⟩] [0, 1, 4]))))
   (.region [⟨some 7, none, .mov (.t 4)⟩,
    ⟨some 8, none, .bin .add (.t 7) (.c (.int .i64 1))⟩,
    ⟨some 4, none, .mov (.t 8)⟩] [0, 1, 4]))))),
  [], 27, 2⟩
def A49 : Ann := ⟨[(0, [0, 1, 4]), (1, [0, 1, 4, 6]), (2, [0, 1, 4]), (3, [0, 1, 4, 14]), (4, [0, 1, 4]), (5, [0, 1, 4])], []⟩
set_option maxRecDepth 100000 in
theorem F49.ok : compF Try.prog A49 Try.f49 = some F49 := by kernel_rfl
theorem F49.fok : FOk Try.prog 49 F49 := fok_of mixed Try.func49 F49.ok

/-- (*cloakroom/cloakroomplay.maker).ref -/
def F50 : SFn := ⟨.seq (.region [⟨some 2, none, .mov (.t 0)⟩,
    ⟨some 3, none, .nilc (.t 2)⟩,
    ⟨some 4, none, .fa 0 (.t 3)⟩,
    ⟨some 5, none, .ld 1 false (.t 4)⟩,
    ⟨some 6, none, .call 20 [.t 5, .c (.int .i64 3)]⟩,
    ⟨some 7, none, .bin .eql (.t 6) (.c (.int .i64 0))⟩] [0, 7])
   (.cond (.t 7) (.region [⟨some 8, none, .mov (.t 0)⟩,
    ⟨some 9, none, .call 43 [.t 8, .c (.int .i64 208), .c (.int .u32 112)]⟩] []) (.region [⟨some 10, none, .mov (.t 0)⟩,
    ⟨some 11, none, .mov (.t 0)⟩,
    ⟨some 12, none, .nilc (.t 11)⟩,
    ⟨some 13, none, .fa 0 (.t 12)⟩,
    ⟨some 14, none, .ld 1 false (.t 13)⟩,
    ⟨some 15, none, .mov (.t 0)⟩,
    ⟨some 16, none, .nilc (.t 15)⟩,
    ⟨some 17, none, .fa 1 (.t 16)⟩,
    ⟨some 18, none, .ld 1 false (.t 17)⟩,
    ⟨some 19, none, .nilc (.t 18)⟩,
    ⟨some 20, none, .fa 1 (.t 19)⟩,
    ⟨some 21, none, .ld 1 false (.t 20)⟩,
    ⟨some 22, none, .lenV (.t 21)⟩,
    ⟨some 23, none, .call 20 [.t 14, .t 22]⟩,
    ⟨some 24, none, .conv .u32 (.t 23)⟩,
    ⟨some 25, none, .call 43 [.t 10, .c (.int .i64 210), .t 24]⟩] [])),
  [], 26, 1⟩
def A50 : Ann := ⟨[(0, [0, 7]), (1, []), (2, [])], [(2, [(0, []), (1, []), (2, []), (3, []), (4, []), (5, []), (6, []), (7, []), (8, []), (9, []), (10, []), (11, []), (12, []), (13, []), (14, []), (15, [])], [(2, [1]), (3, [1, 2]), (4, [1, 2, 3]), (6, [5]), (7, [5, 6]), (8, [5, 6, 7]), (9, [5, 6, 7, 8]), (10, [5, 6, 7, 8, 9]), (11, [5, 6, 7, 8, 9, 10]), (12, [5, 6, 7, 8, 9, 10, 11]), (13, [1, 2, 3, 4, 5, 6, 7, 8, 9, 10, 11, 12]), (14, [1, 2, 3, 4, 5, 6, 7, 8, 9, 10, 11, 12, 13]), (15, [0, 1, 2, 3, 4, 5, 6, 7, 8, 9, 10, 11, 12, 13, 14])])]⟩
set_option maxRecDepth 100000 in
theorem F50.ok : compF Try.prog A50 Try.f50 = some F50 := by kernel_rfl
theorem F50.fok : FOk Try.prog 50 F50 := fok_of mixed Try.func50 F50.ok

/-- (*cloakroom/cloakroomplay.maker).loop -/
def F51 : SFn := ⟨.seq (.region [⟨some 5, none, .mov (.t 0)⟩,
    ⟨some 6, none, .nilc (.t 5)⟩,
    ⟨some 7, none, .fa 2 (.t 6)⟩,
    ⟨some 8, none, .ld 1 false (.t 7)⟩,
    ⟨some 9, none, .lenV (.t 8)⟩,
    ⟨some 10, none, .bin .sub (.t 9) (.c (.int .i64 1))⟩,
    ⟨some 11, none, .conv .u32 (.t 10)⟩,
    ⟨some 4, none, .mov (.t 11)⟩] [0, 1, 4])
   (.seq (.seq (.region [⟨some 12, none, .mov (.t 0)⟩,
    ⟨some 13, none, .nilc (.t 12)⟩,
    ⟨some 14, none, .fa 4 (.t 13)⟩,
    ⟨some 15, none, .ld 1 false (.t 14)⟩,
    ⟨some 16, none, .bin .gtr (.t 15) (.c (.int .i64 0))⟩] [0, 1, 4, 16])
   (.cond (.t 16) (.seq (.region [⟨some 17, none, .mov (.t 0)⟩,
    ⟨some 18, none, .call 44 [.t 17, .c (.int .i64 1)]⟩] [])
   (.ret)) (.skip)))
   (.seq (.region [⟨some 19, none, .mov (.t 0)⟩,
    ⟨some 20, none, .mov (.t 0)⟩,
    ⟨some 21, none, .nilc (.t 20)⟩,
    ⟨some 22, none, .fa 4 (.t 21)⟩,
    ⟨some 23, none, .ld 1 false (.t 22)⟩,
    ⟨some 24, none, .bin .add (.t 23) (.c (.int .i64 2))⟩,
    ⟨some 25, none, .nilc (.t 19)⟩,
    ⟨some 26, none, .fa 4 (.t 25)⟩,
    ⟨none, none, .st 1 (.t 26) (.t 24)⟩] [0, 1, 4])
   (.seq (.region [⟨some 27, none, .mov (.t 0)⟩,
    ⟨some 28, none, .mov (.t 0)⟩,
    ⟨some 29, none, .nilc (.t 28)⟩,
    ⟨some 30, none, .fa 0 (.t 29)⟩,
    ⟨some 31, none, .ld 1 false (.t 30)⟩,
    ⟨some 32, none, .call 20 [.t 31, .c (.int .i64 5)]⟩,
    ⟨some 33, none, .conv .u64 (.t 32)⟩,
    ⟨some 34, none, .call 40 [.t 27, .c (.int .u8 127), .t 33]⟩] [0, 1, 4])
   (.seq (.region [⟨some 35, none, .mov (.t 0)⟩,
    ⟨some 36, none, .mov (.t 4)⟩,
    ⟨some 37, none, .call 43 [.t 35, .c (.int .i64 33), .t 36]⟩] [0, 1, 4])
   (.seq (.region [⟨some 38, none, .mov (.t 0)⟩,
    ⟨some 39, none, .mov (.t 0)⟩,
    ⟨some 40, none, .nilc (.t 39)⟩,
    ⟨some 41, none, .fa 3 (.t 40)⟩,
    ⟨some 42, none, .ld 1 false (.t 41)⟩,
    ⟨some 43, none, .build [.int .i64 0, .int .u32 0, .int .u32 0, .int .u64 0, .slice none 0 0, .int .i64 0] [(0, 1, .c (.int .i64 2)), (5, 1, .c (.int .i64 (-64)))]⟩,
    ⟨some 44, none, .build [.int .i64 0, .int .u32 0, .int .u32 0, .int .u64 0, .slice none 0 0, .int .i64 0] [(0, 1, .c (.int .i64 3)), (5, 1, .c (.int .i64 (-64)))]⟩,
    ⟨some 45, none, .bslice 2 6 [.int .i64 0, .int .u32 0, .int .u32 0, .int .u64 0, .slice none 0 0, .int .i64 0] [(0, 6, .t 43), (6, 6, .t 44)]⟩,
    ⟨some 46, none, .app 6 56 (.t 42) (.t 45)⟩,
    ⟨some 47, none, .nilc (.t 38)⟩,
    ⟨some 48, none, .fa 3 (.t 47)⟩,
    ⟨none, none, .st 1 (.t 48) (.t 46)⟩] [0, 1, 4])
   (.seq (.region [⟨some 49, none, .mov (.t 0)⟩,
    ⟨some 50, none, .mov (.t 4)⟩,
    ⟨some 51, none, .call 43 [.t 49, .c (.int .i64 32), .t 50]⟩] [0, 1, 4])
   (.seq (.region [⟨some 52, none, .mov (.t 0)⟩,
    ⟨some 53, none, .call 44 [.t 52, .c (.int .i64 69)]⟩] [0, 1, 4])
   (.seq (.region [⟨some 54, none, .mov (.t 0)⟩,
    ⟨some 55, none, .call 43 [.t 54, .c (.int .i64 13), .c (.int .u32 1)]⟩] [0, 1, 4])
   (.seq (.region [⟨some 56, none, .mov (.t 0)⟩,
    ⟨some 57, none, .mov (.t 4)⟩,
    ⟨some 58, none, .call 43 [.t 56, .c (.int .i64 32), .t 57]⟩] [0, 1, 4])
   (.seq (.region [⟨some 59, none, .mov (.t 0)⟩,
    ⟨some 60, none, .call 40 [.t 59, .c (.int .u8 127), .c (.int .u64 1)]⟩] [0, 1, 4])
   (.seq (.region [⟨some 61, none, .mov (.t 0)⟩,
    ⟨some 62, none, .call 44 [.t 61, .c (.int .i64 107)]⟩] [0, 1, 4])
   (.seq (.region [⟨some 63, none, .mov (.t 0)⟩,
    ⟨some 64, none, .mov (.t 4)⟩,
    ⟨some 65, none, .call 43 [.t 63, .c (.int .i64 33), .t 64]⟩] [0, 1])
   (.seq (.region [⟨some 66, none, .mov (.t 0)⟩,
    ⟨some 67, none, .mov (.t 0)⟩,
    ⟨some 68, none, .nilc (.t 67)⟩,
    ⟨some 69, none, .fa 0 (.t 68)⟩,
    ⟨some 70, none, .ld 1 false (.t 69)⟩,
    ⟨some 71, none, .call 20 [.t 70, .c (.int .i64 2)]⟩,
    ⟨some 72, none, .bin .add (.c (.int .i64 1)) (.t 71)⟩,
    ⟨some 73, none, .mov (.t 1)⟩,
    ⟨some 74, none, .bin .sub (.t 73) (.c (.int .i64 1))⟩,
    ⟨some 75, none, .call 21 [.t 66, .t 72, .t 74]⟩] [0])
   (.seq (.region [⟨some 76, none, .mov (.t 0)⟩,
    ⟨some 77, none, .call 43 [.t 76, .c (.int .i64 12), .c (.int .u32 0)]⟩] [0])
   (.seq (.region [⟨some 78, none, .mov (.t 0)⟩,
    ⟨some 79, none, .call 44 [.t 78, .c (.int .i64 11)]⟩] [0])
   (.seq (.region [⟨some 80, none, .mov (.t 0)⟩,
    ⟨some 81, none, .call 44 [.t 80, .c (.int .i64 11)]⟩] [0])
   (.region [⟨some 82, none, .mov (.t 0)⟩,
    ⟨some 83, none, .mov (.t 0)⟩,
    ⟨some 84, none, .nilc (.t 83)⟩,
    ⟨some 85, none, .fa 4 (.t 84)⟩,
    ⟨some 86, none, .ld 1 false (.t 85)⟩,
    ⟨some 87, none, .bin .sub (.t 86) (.c (.int .i64 2))⟩,
    ⟨some 88, none, .nilc (.t 82)⟩,
    ⟨some 89, none, .fa 4 (.t 88)⟩,
    ⟨none, none, .st 1 (.t 89) (.t 87)⟩] []))))))))))))))))),
  [], 90, 2⟩
def A51 : Ann := ⟨[(0, [0, 1, 4]), (1, [0, 1, 4, 16]), (2, []), (3, [0, 1, 4]), (4, [0, 1, 4]), (5, [0, 1, 4]), (6, [0, 1, 4]), (7, [0, 1, 4]), (8, [0, 1, 4]), (9, [0, 1, 4]), (10, [0, 1, 4]), (11, [0, 1, 4]), (12, [0, 1, 4]), (13, [0, 1]), (14, [0]), (15, [0]), (16, [0]), (17, [0]), (18, [])], []⟩
set_option maxRecDepth 100000 in
theorem F51.ok : compF Try.prog A51 Try.f51 = some F51 := by kernel_rfl
theorem F51.fok : FOk Try.prog 51 F51 := fok_of mixed Try.func51 F51.ok

/-- (*cloakroom/cloakroomplay.maker).jumps -/
def F52 : SFn := ⟨.seq (.seq (.region [⟨some 4, none, .mov (.t 0)⟩,
    ⟨some 5, none, .nilc (.t 4)⟩,
    ⟨some 6, none, .fa 4 (.t 5)⟩,
    ⟨some 7, none, .ld 1 false (.t 6)⟩,
    ⟨some 8, none, .bin .gtr (.t 7) (.c (.int .i64 12))⟩] [0, 1, 8])
   (.cond (.t 8) (.seq (.region [⟨some 9, none, .mov (.t 0)⟩,
    ⟨some 10, none, .call 44 [.t 9, .c (.int .i64 1)]⟩] [])
   (.ret)) (.skip)))
   (.seq (.region [⟨some 11, none, .mov (.t 0)⟩,
    ⟨some 12, none, .nilc (.t 11)⟩,
    ⟨some 13, none, .fa 4 (.t 12)⟩,
    ⟨some 14, none, .ld 1 false (.t 13)⟩,
    ⟨some 15, none, .bin .add (.t 14) (.c (.int .i64 1))⟩,
    ⟨some 16, none, .nilc (.t 11)⟩,
    ⟨some 17, none, .fa 4 (.t 16)⟩,
    ⟨none, none, .st 1 (.t 17) (.t 15)⟩] [0, 1])
   (.seq (.region [⟨some 18, none, .mov (.t 0)⟩,
    ⟨some 19, none, .mov (.t 0)⟩,
    ⟨some 20, none, .nilc (.t 19)⟩,
    ⟨some 21, none, .fa 3 (.t 20)⟩,
    ⟨some 22, none, .ld 1 false (.t 21)⟩,
    ⟨some 23, none, .build [.int .i64 0, .int .u32 0, .int .u32 0, .int .u64 0, .slice none 0 0, .int .i64 0] [(0, 1, .c (.int .i64 2)), (5, 1, .c (.int .i64 (-64)))]⟩,
    ⟨some 24, none, .bslice 1 6 [.int .i64 0, .int .u32 0, .int .u32 0, .int .u64 0, .slice none 0 0, .int .i64 0] [(0, 6, .t 23)]⟩,
    ⟨some 25, none, .app 6 56 (.t 22) (.t 24)⟩,
    ⟨some 26, none, .nilc (.t 18)⟩,
    ⟨some 27, none, .fa 3 (.t 26)⟩,
    ⟨none, none, .st 1 (.t 27) (.t 25)⟩] [0, 1])
   (.seq (.seq (.region [⟨some 28, none, .mov (.t 0)⟩,
    ⟨some 29, none, .nilc (.t 28)⟩,
    ⟨some 30, none, .fa 0 (.t 29)⟩,
    ⟨some 31, none, .ld 1 false (.t 30)⟩,
    ⟨some 32, none, .call 20 [.t 31, .c (.int .i64 5)]⟩] [0, 1, 32])
   (.block 0 (.seq (.region [⟨some 44, none, .bin .eql (.t 32) (.c (.int .i64 0))⟩,
    ⟨some 43, none, .mov (.t 44)⟩] [0, 1, 32, 43])
   (.cond (.t 43) (.seq (.region [⟨some 45, none, .mov (.t 0)⟩,
    ⟨some 46, none, .mov (.t 1)⟩,
    ⟨some 47, none, .bin .sub (.t 46) (.c (.int .i64 1))⟩,
    ⟨some 48, none, .call 22 [.t 45, .c (.int .u8 127), .t 47]⟩] [0])
   (.region [⟨some 49, none, .mov (.t 0)⟩,
    ⟨some 50, none, .mov (.t 0)⟩,
    ⟨some 51, none, .nilc (.t 50)⟩,
    ⟨some 52, none, .fa 3 (.t 51)⟩,
    ⟨some 53, none, .ld 1 false (.t 52)⟩,
    ⟨some 54, none, .bslice 2 1 [.int .u32 0] [(0, 1, .c (.int .u32 0)), (1, 1, .c (.int .u32 0))]⟩,
    ⟨some 55, none, .build [.int .i64 0, .int .u32 0, .int .u32 0, .int .u64 0, .slice none 0 0, .int .i64 0] [(0, 1, .c (.int .i64 14)), (1, 1, .c (.int .u32 0)), (4, 1, .t 54)]⟩,
    ⟨some 56, none, .bslice 1 6 [.int .i64 0, .int .u32 0, .int .u32 0, .int .u64 0, .slice none 0 0, .int .i64 0] [(0, 6, .t 55)]⟩,
    ⟨some 57, none, .app 6 56 (.t 53) (.t 56)⟩,
    ⟨some 58, none, .nilc (.t 49)⟩,
    ⟨some 59, none, .fa 3 (.t 58)⟩,
    ⟨none, none, .st 1 (.t 59) (.t 57)⟩] [0])) (.seq (.region [⟨some 61, none, .bin .eql (.t 32) (.c (.int .i64 1))⟩,
    ⟨some 60, none, .mov (.t 61)⟩] [0, 1, 32, 60])
   (.cond (.t 60) (.seq (.region [⟨some 62, none, .mov (.t 0)⟩,
    ⟨some 63, none, .call 43 [.t 62, .c (.int .i64 12), .c (.int .u32 0)]⟩] [0, 1])
   (.region [⟨some 64, none, .mov (.t 0)⟩,
    ⟨some 65, none, .mov (.t 1)⟩,
    ⟨some 66, none, .bin .sub (.t 65) (.c (.int .i64 1))⟩,
    ⟨some 67, none, .call 21 [.t 64, .c (.int .i64 1), .t 66]⟩] [0])) (.seq (.region [⟨some 69, none, .bin .eql (.t 32) (.c (.int .i64 2))⟩,
    ⟨some 68, none, .mov (.t 69)⟩] [0, 1, 68])
   (.cond (.t 68) (.seq (.region [⟨some 70, none, .mov (.t 0)⟩,
    ⟨some 71, none, .mov (.t 1)⟩,
    ⟨some 72, none, .bin .sub (.t 71) (.c (.int .i64 1))⟩,
    ⟨some 73, none, .call 22 [.t 70, .c (.int .u8 127), .t 72]⟩] [0])
   (.seq (.region [⟨some 74, none, .mov (.t 0)⟩,
    ⟨some 75, none, .mov (.t 0)⟩,
    ⟨some 76, none, .nilc (.t 75)⟩,
    ⟨some 77, none, .fa 3 (.t 76)⟩,
    ⟨some 78, none, .ld 1 false (.t 77)⟩,
    ⟨some 79, none, .build [.int .i64 0, .int .u32 0, .int .u32 0, .int .u64 0, .slice none 0 0, .int .i64 0] [(0, 1, .c (.int .i64 4)), (5, 1, .c (.int .i64 (-64)))]⟩,
    ⟨some 80, none, .bslice 1 6 [.int .i64 0, .int .u32 0, .int .u32 0, .int .u64 0, .slice none 0 0, .int .i64 0] [(0, 6, .t 79)]⟩,
    ⟨some 81, none, .app 6 56 (.t 78) (.t 80)⟩,
    ⟨some 82, none, .nilc (.t 74)⟩,
    ⟨some 83, none, .fa 3 (.t 82)⟩,
    ⟨none, none, .st 1 (.t 83) (.t 81)⟩] [0])
   (.seq (.region [⟨some 84, none, .mov (.t 0)⟩,
    ⟨some 85, none, .bslice 3 1 [.int .i64 0] [(0, 1, .c (.int .i64 0)), (1, 1, .c (.int .i64 1)), (2, 1, .c (.int .i64 15))]⟩,
    ⟨some 86, none, .mov (.t 0)⟩,
    ⟨some 87, none, .nilc (.t 86)⟩,
    ⟨some 88, none, .fa 0 (.t 87)⟩,
    ⟨some 89, none, .ld 1 false (.t 88)⟩,
    ⟨some 90, none, .call 20 [.t 89, .c (.int .i64 2)]⟩,
    ⟨some 91, none, .iaV 1 (.t 85) (.t 90)⟩,
    ⟨some 92, none, .ld 1 false (.t 91)⟩,
    ⟨some 93, none, .call 44 [.t 84, .t 92]⟩] [0])
   (.region [⟨some 94, none, .mov (.t 0)⟩,
    ⟨some 95, none, .call 44 [.t 94, .c (.int .i64 11)]⟩] [0])))) (.seq (.region [⟨some 33, none, .mov (.t 0)⟩,
    ⟨some 34, none, .mov (.t 1)⟩,
    ⟨some 35, none, .bin .sub (.t 34) (.c (.int .i64 1))⟩,
    ⟨some 36, none, .call 22 [.t 33, .c (.int .u8 127), .t 35]⟩] [0, 1])
   (.seq (.region [⟨some 37, none, .mov (.t 0)⟩,
    ⟨some 38, none, .call 43 [.t 37, .c (.int .i64 13), .c (.int .u32 0)]⟩] [0, 1])
   (.region [⟨some 39, none, .mov (.t 0)⟩,
    ⟨some 40, none, .mov (.t 1)⟩,
    ⟨some 41, none, .bin .sub (.t 40) (.c (.int .i64 1))⟩,
    ⟨some 42, none, .call 21 [.t 39, .c (.int .i64 1), .t 41]⟩] [0])))))))))))
   (.seq (.region [⟨some 96, none, .mov (.t 0)⟩,
    ⟨some 97, none, .call 44 [.t 96, .c (.int .i64 11)]⟩] [0])
   (.region [⟨some 98, none, .mov (.t 0)⟩,
    ⟨some 99, none, .nilc (.t 98)⟩,
    ⟨some 100, none, .fa 4 (.t 99)⟩,
    ⟨some 101, none, .ld 1 false (.t 100)⟩,
    ⟨some 102, none, .bin .sub (.t 101) (.c (.int .i64 1))⟩,
    ⟨some 103, none, .nilc (.t 98)⟩,
    ⟨some 104, none, .fa 4 (.t 103)⟩,
    ⟨none, none, .st 1 (.t 104) (.t 102)⟩] []))))),
  [], 105, 2⟩
def A52 : Ann := ⟨[(0, [0, 1, 8]), (1, []), (2, [0, 1]), (3, [0, 1]), (4, [0, 1, 32]), (5, [0, 1]), (6, [0, 1]), (7, [0]), (8, [0, 1, 32, 43]), (9, [0]), (10, [0]), (11, [0, 1, 32, 60]), (12, [0, 1]), (13, [0]), (14, [0, 1, 68]), (15, [0]), (16, [0]), (17, [0]), (18, [0]), (19, [0]), (20, [])], []⟩
set_option maxRecDepth 100000 in
theorem F52.ok : compF Try.prog A52 Try.f52 = some F52 := by kernel_rfl
theorem F52.fok : FOk Try.prog 52 F52 := fok_of mixed Try.func52 F52.ok

/-- cloakroom/ctrl.walk -/
def F53 : SFn := ⟨.seq (.region [⟨some 2, none, .mov (.c (.pointer none))⟩,
    ⟨some 3, none, .mov (.c (.bool false))⟩] [0])
   (.seq (.region [⟨some 9, none, .mov (.t 0)⟩,
    ⟨some 10, none, .mkMap⟩,
    ⟨some 11, none, .build [.slice none 0 0, .slice none 0 0, .map none, .int .i64 0] [(1, 1, .t 9), (2, 1, .t 10)]⟩,
    ⟨some 12, none, .box (.t 11)⟩,
    ⟨some 4, none, .mov (.t 12)⟩] [0, 4])
   (.seq (.seq (.region [⟨some 13, none, .mov (.t 0)⟩,
    ⟨some 14, none, .lenV (.t 13)⟩,
    ⟨some 15, none, .mov (.c (.int .i64 0))⟩] [0, 4, 14, 15])
   (.block 0 (.loop (.seq (.region [⟨some 16, none, .bin .lss (.t 15) (.t 14)⟩] [0, 4, 14, 15, 16])
   (.seq (.cond (.t 16) (.skip) (.exit 0))
   (.seq (.block 1 (.seq (.region [⟨some 17, none, .mov (.t 15)⟩,
    ⟨some 5, none, .mov (.t 17)⟩] [0, 4, 5, 14, 15])
   (.seq (.region [⟨some 18, none, .mov (.t 4)⟩,
    ⟨some 19, none, .mov (.t 5)⟩,
    ⟨some 20, none, .call 54 [.t 18, .t 19]⟩,
    ⟨some 21, none, .un .not (.t 20)⟩] [0, 4, 14, 15, 21])
   (.cond (.t 21) (.seq (.region [⟨some 2, none, .mov (.c (.pointer none))⟩,
    ⟨some 3, none, .mov (.c (.bool false))⟩] [2, 3])
   (.ret)) (.skip)))))
   (.region [⟨some 22, none, .bin .add (.t 15) (.c (.int .i64 1))⟩,
    ⟨some 15, none, .mov (.t 22)⟩] [0, 4, 14, 15])))))))
   (.seq (.seq (.region [⟨some 23, none, .mov (.t 0)⟩,
    ⟨some 24, none, .lenV (.t 23)⟩,
    ⟨some 25, none, .bin .eql (.t 24) (.c (.int .i64 0))⟩,
    ⟨some 26, none, .mov (.t 25)⟩,
    ⟨some 27, some (26, false), .mov (.t 4)⟩,
    ⟨some 28, some (26, false), .nilc (.t 27)⟩,
    ⟨some 29, some (26, false), .fa 0 (.t 28)⟩,
    ⟨some 30, some (26, false), .ld 1 false (.t 29)⟩,
    ⟨some 31, some (26, false), .lenV (.t 30)⟩,
    ⟨some 32, some (26, false), .bin .gtr (.t 31) (.c (.int .i64 0))⟩,
    ⟨some 33, none, .pick (.t 26) (.c (.bool true)) (.t 32)⟩,
    ⟨some 34, none, .mov (.t 33)⟩,
    ⟨some 35, some (34, false), .mov (.t 0)⟩,
    ⟨some 36, some (34, false), .mov (.t 0)⟩,
    ⟨some 37, some (34, false), .lenV (.t 36)⟩,
    ⟨some 38, some (34, false), .bin .sub (.t 37) (.c (.int .i64 1))⟩,
    ⟨some 39, some (34, false), .iaV 6 (.t 35) (.t 38)⟩,
    ⟨some 40, some (34, false), .fa 0 (.t 39)⟩,
    ⟨some 41, some (34, false), .ld 1 false (.t 40)⟩,
    ⟨some 42, some (34, false), .bin .neq (.t 41) (.c (.int .i64 11))⟩,
    ⟨some 43, none, .pick (.t 34) (.c (.bool true)) (.t 42)⟩] [0, 4, 43])
   (.cond (.t 43) (.seq (.region [⟨some 2, none, .mov (.c (.pointer none))⟩,
    ⟨some 3, none, .mov (.c (.bool false))⟩] [2, 3])
   (.ret)) (.skip)))
   (.seq (.region [⟨some 6, none, .mov (.c (.int .i64 0))⟩] [0, 4, 6])
   (.seq (.seq (.region [⟨some 44, none, .mov (.t 0)⟩,
    ⟨some 45, none, .lenV (.t 44)⟩,
    ⟨some 46, none, .mov (.c (.int .i64 0))⟩] [4, 6, 44, 45, 46])
   (.block 2 (.loop (.seq (.region [⟨some 47, none, .bin .lss (.t 46) (.t 45)⟩] [4, 6, 44, 45, 46, 47])
   (.seq (.cond (.t 47) (.skip) (.exit 2))
   (.seq (.block 3 (.seq (.region [⟨some 48, none, .iaV 6 (.t 44) (.t 46)⟩,
    ⟨some 49, none, .ld 6 true (.t 48)⟩,
    ⟨some 8, none, .new [.int .i64 0, .int .u32 0, .int .u32 0, .int .u64 0, .slice none 0 0, .int .i64 0]⟩,
    ⟨none, none, .st 6 (.t 8) (.t 49)⟩] [4, 6, 8, 44, 45, 46])
   (.seq (.region [⟨some 50, none, .fa 0 (.t 8)⟩,
    ⟨some 51, none, .ld 1 false (.t 50)⟩,
    ⟨some 52, none, .bin .eql (.t 51) (.c (.int .i64 11))⟩] [4, 6, 44, 45, 46, 52])
   (.cond (.t 52) (.region [⟨some 53, none, .mov (.t 6)⟩,
    ⟨some 54, none, .bin .add (.t 53) (.c (.int .i64 1))⟩,
    ⟨some 6, none, .mov (.t 54)⟩] [4, 6, 44, 45, 46]) (.skip)))))
   (.region [⟨some 55, none, .bin .add (.t 46) (.c (.int .i64 1))⟩,
    ⟨some 46, none, .mov (.t 55)⟩] [4, 6, 44, 45, 46])))))))
   (.seq (.region [⟨some 56, none, .mov (.t 4)⟩,
    ⟨some 57, none, .mov (.t 6)⟩,
    ⟨some 58, none, .mov (.t 4)⟩,
    ⟨some 59, none, .nilc (.t 58)⟩,
    ⟨some 60, none, .fa 2 (.t 59)⟩,
    ⟨some 61, none, .ld 1 false (.t 60)⟩,
    ⟨some 62, none, .lenM (.t 61)⟩,
    ⟨some 63, none, .bin .add (.t 62) (.c (.int .i64 1))⟩,
    ⟨some 64, none, .bin .eql (.t 57) (.t 63)⟩,
    ⟨some 2, none, .mov (.t 56)⟩,
    ⟨some 3, none, .mov (.t 64)⟩] [2, 3])
   (.ret))))))),
  [.t 2, .t 3], 65, 1⟩
def A53 : Ann := ⟨[(0, [0]), (1, [0, 4]), (2, [0, 4, 14, 15]), (3, [0, 4, 14, 15, 16]), (4, [0, 4, 5, 14, 15]), (5, [0, 4, 14, 15, 21]), (6, [2, 3]), (7, [0, 4, 14, 15]), (8, [0, 4, 43]), (9, [2, 3]), (10, [0, 4, 6]), (11, [4, 6, 44, 45, 46]), (12, [4, 6, 44, 45, 46, 47]), (13, [4, 6, 8, 44, 45, 46]), (14, [4, 6, 44, 45, 46, 52]), (15, [4, 6, 44, 45, 46]), (16, [4, 6, 44, 45, 46]), (17, [2, 3])], []⟩
set_option maxRecDepth 100000 in
theorem F53.ok : compF Try.prog A53 Try.f53 = some F53 := by kernel_rfl
theorem F53.fok : FOk Try.prog 53 F53 := fok_of mixed Try.func53 F53.ok

/-- (*cloakroom/ctrl.walker).one -/
def F54 : SFn := ⟨.seq (.region [⟨some 4, none, .mov (.c (.bool false))⟩] [0, 1])
   (.seq (.seq (.region [⟨some 5, none, .mov (.t 0)⟩,
    ⟨some 6, none, .nilc (.t 5)⟩,
    ⟨some 7, none, .fa 1 (.t 6)⟩,
    ⟨some 8, none, .ld 1 false (.t 7)⟩,
    ⟨some 9, none, .mov (.t 1)⟩,
    ⟨some 10, none, .iaV 6 (.t 8) (.t 9)⟩,
    ⟨some 11, none, .fa 0 (.t 10)⟩,
    ⟨some 12, none, .ld 1 false (.t 11)⟩] [0, 1, 12])
   (.block 0 (.seq (.seq (.region [⟨some 14, none, .bin .eql (.t 12) (.c (.int .i64 2))⟩,
    ⟨some 13, none, .mov (.t 14)⟩] [0, 1, 12, 13])
   (.cond (.t 13) (.skip) (.seq (.region [⟨some 15, none, .bin .eql (.t 12) (.c (.int .i64 3))⟩,
    ⟨some 13, none, .mov (.t 15)⟩] [0, 1, 12, 13])
   (.cond (.t 13) (.skip) (.region [⟨some 16, none, .bin .eql (.t 12) (.c (.int .i64 4))⟩,
    ⟨some 13, none, .mov (.t 16)⟩] [0, 1, 12, 13])))))
   (.cond (.t 13) (.seq (.region [⟨some 17, none, .mov (.t 0)⟩,
    ⟨some 18, none, .nilc (.t 17)⟩,
    ⟨some 19, none, .fa 0 (.t 18)⟩,
    ⟨some 20, none, .mov (.t 1)⟩,
    ⟨some 21, none, .call 55 [.t 19, .t 20]⟩] [0, 1])
   (.seq (.region [⟨some 22, none, .mov (.t 0)⟩,
    ⟨some 23, none, .nilc (.t 22)⟩,
    ⟨some 24, none, .fa 2 (.t 23)⟩,
    ⟨some 25, none, .ld 1 false (.t 24)⟩,
    ⟨some 26, none, .mov (.t 1)⟩,
    ⟨some 27, none, .build [.int .i64 0, .int .i64 0] [(0, 1, .c (.int .i64 (-1)))]⟩,
    ⟨none, none, .mput false (.t 25) (.t 26) (.t 27)⟩] [0])
   (.region [⟨some 28, none, .mov (.t 0)⟩,
    ⟨some 29, none, .mov (.t 0)⟩,
    ⟨some 30, none, .nilc (.t 29)⟩,
    ⟨some 31, none, .fa 3 (.t 30)⟩,
    ⟨some 32, none, .ld 1 false (.t 31)⟩,
    ⟨some 33, none, .mov (.t 0)⟩,
    ⟨some 34, none, .nilc (.t 33)⟩,
    ⟨some 35, none, .fa 0 (.t 34)⟩,
    ⟨some 36, none, .ld 1 false (.t 35)⟩,
    ⟨some 37, none, .lenV (.t 36)⟩,
    ⟨some 38, none, .mx (.t 32) (.t 37)⟩,
    ⟨some 39, none, .nilc (.t 28)⟩,
    ⟨some 40, none, .fa 3 (.t 39)⟩,
    ⟨none, none, .st 1 (.t 40) (.t 38)⟩] []))) (.seq (.region [⟨some 42, none, .bin .eql (.t 12) (.c (.int .i64 5))⟩,
    ⟨some 41, none, .mov (.t 42)⟩] [0, 1, 12, 41])
   (.cond (.t 41) (.seq (.region [⟨some 43, none, .mov (.t 0)⟩,
    ⟨some 44, none, .mov (.t 1)⟩,
    ⟨some 45, none, .call 56 [.t 43, .t 44]⟩,
    ⟨some 4, none, .mov (.t 45)⟩] [4])
   (.ret)) (.seq (.region [⟨some 47, none, .bin .eql (.t 12) (.c (.int .i64 11))⟩,
    ⟨some 46, none, .mov (.t 47)⟩] [0, 1, 46])
   (.cond (.t 46) (.seq (.region [⟨some 48, none, .mov (.t 0)⟩,
    ⟨some 49, none, .mov (.t 1)⟩,
    ⟨some 50, none, .call 57 [.t 48, .t 49]⟩,
    ⟨some 4, none, .mov (.t 50)⟩] [4])
   (.ret)) (.skip)))))))))
   (.seq (.region [⟨some 4, none, .mov (.c (.bool true))⟩] [4])
   (.ret))),
  [.t 4], 51, 2⟩
def A54 : Ann := ⟨[(0, [0, 1]), (1, [0, 1, 12]), (2, [0, 1, 12, 13]), (3, [0, 1, 12, 13]), (4, [0, 1, 12, 13]), (5, [0, 1]), (6, [0]), (7, []), (8, [0, 1, 12, 41]), (9, [4]), (10, [0, 1, 46]), (11, [4]), (12, [4])], [(7, [(0, []), (1, []), (2, []), (3, []), (4, []), (5, []), (6, []), (7, []), (8, []), (9, []), (10, []), (11, []), (12, []), (13, [])], [(2, [1]), (3, [1, 2]), (4, [1, 2, 3]), (6, [5]), (7, [5, 6]), (8, [5, 6, 7]), (9, [5, 6, 7, 8]), (10, [1, 2, 3, 4, 5, 6, 7, 8, 9]), (11, [0, 1, 2, 3, 4, 5, 6, 7, 8, 9, 10]), (12, [0, 1, 2, 3, 4, 5, 6, 7, 8, 9, 10, 11]), (13, [0, 1, 2, 3, 4, 5, 6, 7, 8, 9, 10, 11, 12])])]⟩
set_option maxRecDepth 100000 in
theorem F54.ok : compF Try.prog A54 Try.f54 = some F54 := by kernel_rfl
theorem F54.fok : FOk Try.prog 54 F54 := fok_of mixed Try.func54 F54.ok

/-- (*cloakroom/ctrl.stack).push -/
def F55 : SFn := ⟨.region [⟨some 4, none, .mov (.t 0)⟩,
    ⟨some 5, none, .mov (.t 0)⟩,
    ⟨some 6, none, .nilc (.t 5)⟩,
    ⟨some 7, none, .ld 1 false (.t 6)⟩,
    ⟨some 8, none, .mov (.t 1)⟩,
    ⟨some 9, none, .bslice 1 1 [.int .i64 0] [(0, 1, .t 8)]⟩,
    ⟨some 10, none, .app 1 8 (.t 7) (.t 9)⟩,
    ⟨some 11, none, .nilc (.t 4)⟩,
    ⟨none, none, .st 1 (.t 11) (.t 10)⟩] [],
  [], 12, 2⟩
def A55 : Ann := ⟨[(0, [])], []⟩
set_option maxRecDepth 100000 in
theorem F55.ok : compF Try.prog A55 Try.f55 = some F55 := by kernel_rfl
theorem F55.fok : FOk Try.prog 55 F55 := fok_of mixed Try.func55 F55.ok

/-- (*cloakroom/ctrl.walker).half -/
def F56 : SFn := ⟨.seq (.region [⟨some 4, none, .mov (.c (.bool false))⟩] [0, 1])
   (.seq (.region [⟨some 8, none, .mov (.t 0)⟩,
    ⟨some 9, none, .nilc (.t 8)⟩,
    ⟨some 10, none, .fa 0 (.t 9)⟩,
    ⟨some 11, none, .call 58 [.t 10]⟩,
    ⟨some 7, none, .mov (.t 11)⟩,
    ⟨some 12, none, .ext (.t 7) 0⟩,
    ⟨some 13, none, .ext (.t 7) 1⟩,
    ⟨some 5, none, .mov (.t 12)⟩,
    ⟨some 6, none, .mov (.t 13)⟩] [0, 1, 5, 6])
   (.seq (.seq (.region [⟨some 14, none, .mov (.t 6)⟩,
    ⟨some 15, none, .un .not (.t 14)⟩,
    ⟨some 16, none, .mov (.t 15)⟩,
    ⟨some 17, some (16, false), .mov (.t 0)⟩,
    ⟨some 18, some (16, false), .nilc (.t 17)⟩,
    ⟨some 19, some (16, false), .fa 1 (.t 18)⟩,
    ⟨some 20, some (16, false), .ld 1 false (.t 19)⟩,
    ⟨some 21, some (16, false), .mov (.t 5)⟩,
    ⟨some 22, some (16, false), .iaV 6 (.t 20) (.t 21)⟩,
    ⟨some 23, some (16, false), .fa 0 (.t 22)⟩,
    ⟨some 24, some (16, false), .ld 1 false (.t 23)⟩,
    ⟨some 25, some (16, false), .bin .neq (.t 24) (.c (.int .i64 4))⟩,
    ⟨some 26, none, .pick (.t 16) (.c (.bool true)) (.t 25)⟩,
    ⟨some 27, none, .mov (.t 26)⟩,
    ⟨some 28, some (27, false), .mov (.t 0)⟩,
    ⟨some 29, some (27, false), .nilc (.t 28)⟩,
    ⟨some 30, some (27, false), .fa 2 (.t 29)⟩,
    ⟨some 31, some (27, false), .ld 1 false (.t 30)⟩,
    ⟨some 32, some (27, false), .mov (.t 5)⟩,
    ⟨some 33, some (27, false), .look false (.agg ⟨[.int .i64 0, .int .i64 0]⟩) false (.t 31) (.t 32)⟩,
    ⟨some 34, some (27, false), .fld 0 1 false (.t 33)⟩,
    ⟨some 35, some (27, false), .bin .neq (.t 34) (.c (.int .i64 (-1)))⟩,
    ⟨some 36, none, .pick (.t 27) (.c (.bool true)) (.t 35)⟩] [0, 1, 5, 36])
   (.cond (.t 36) (.seq (.region [⟨some 4, none, .mov (.c (.bool false))⟩] [4])
   (.ret)) (.skip)))
   (.seq (.region [⟨some 37, none, .mov (.t 0)⟩,
    ⟨some 38, none, .nilc (.t 37)⟩,
    ⟨some 39, none, .fa 2 (.t 38)⟩,
    ⟨some 40, none, .ld 1 false (.t 39)⟩,
    ⟨some 41, none, .mov (.t 5)⟩,
    ⟨some 42, none, .mov (.t 1)⟩,
    ⟨some 43, none, .build [.int .i64 0, .int .i64 0] [(0, 1, .t 42)]⟩,
    ⟨none, none, .mput false (.t 40) (.t 41) (.t 43)⟩] [])
   (.seq (.region [⟨some 4, none, .mov (.c (.bool true))⟩] [4])
   (.ret))))),
  [.t 4], 44, 2⟩
def A56 : Ann := ⟨[(0, [0, 1]), (1, [0, 1, 5, 6]), (2, [0, 1, 5, 36]), (3, [4]), (4, []), (5, [4])], []⟩
set_option maxRecDepth 100000 in
theorem F56.ok : compF Try.prog A56 Try.f56 = some F56 := by kernel_rfl
theorem F56.fok : FOk Try.prog 56 F56 := fok_of mixed Try.func56 F56.ok

/-- (*cloakroom/ctrl.walker).closes -/
def F57 : SFn := ⟨.seq (.region [⟨some 4, none, .mov (.c (.bool false))⟩] [0, 1])
   (.seq (.region [⟨some 8, none, .mov (.t 0)⟩,
    ⟨some 9, none, .nilc (.t 8)⟩,
    ⟨some 10, none, .fa 0 (.t 9)⟩,
    ⟨some 11, none, .call 59 [.t 10]⟩,
    ⟨some 7, none, .mov (.t 11)⟩,
    ⟨some 12, none, .ext (.t 7) 0⟩,
    ⟨some 13, none, .ext (.t 7) 1⟩,
    ⟨some 5, none, .mov (.t 12)⟩,
    ⟨some 6, none, .mov (.t 13)⟩] [0, 1, 5, 6])
   (.seq (.seq (.region [⟨some 14, none, .mov (.t 6)⟩,
    ⟨some 15, none, .un .not (.t 14)⟩] [0, 1, 5, 15])
   (.cond (.t 15) (.seq (.region [⟨some 16, none, .mov (.t 1)⟩,
    ⟨some 17, none, .mov (.t 0)⟩,
    ⟨some 18, none, .nilc (.t 17)⟩,
    ⟨some 19, none, .fa 1 (.t 18)⟩,
    ⟨some 20, none, .ld 1 false (.t 19)⟩,
    ⟨some 21, none, .lenV (.t 20)⟩,
    ⟨some 22, none, .bin .sub (.t 21) (.c (.int .i64 1))⟩,
    ⟨some 23, none, .bin .eql (.t 16) (.t 22)⟩,
    ⟨some 4, none, .mov (.t 23)⟩] [4])
   (.ret)) (.skip)))
   (.seq (.region [⟨some 24, none, .mov (.t 0)⟩,
    ⟨some 25, none, .nilc (.t 24)⟩,
    ⟨some 26, none, .fa 2 (.t 25)⟩,
    ⟨some 27, none, .ld 1 false (.t 26)⟩,
    ⟨some 28, none, .mov (.t 5)⟩,
    ⟨some 29, none, .mov (.t 0)⟩,
    ⟨some 30, none, .nilc (.t 29)⟩,
    ⟨some 31, none, .fa 2 (.t 30)⟩,
    ⟨some 32, none, .ld 1 false (.t 31)⟩,
    ⟨some 33, none, .mov (.t 5)⟩,
    ⟨some 34, none, .look false (.agg ⟨[.int .i64 0, .int .i64 0]⟩) false (.t 32) (.t 33)⟩,
    ⟨some 35, none, .fld 0 1 false (.t 34)⟩,
    ⟨some 36, none, .mov (.t 1)⟩,
    ⟨some 37, none, .build [.int .i64 0, .int .i64 0] [(0, 1, .t 35), (1, 1, .t 36)]⟩,
    ⟨none, none, .mput false (.t 27) (.t 28) (.t 37)⟩] [])
   (.seq (.region [⟨some 4, none, .mov (.c (.bool true))⟩] [4])
   (.ret))))),
  [.t 4], 38, 2⟩
def A57 : Ann := ⟨[(0, [0, 1]), (1, [0, 1, 5, 6]), (2, [0, 1, 5, 15]), (3, [4]), (4, []), (5, [4])], [(4, [(0, []), (1, []), (2, []), (3, []), (4, []), (5, []), (6, []), (7, []), (8, []), (9, []), (10, []), (11, []), (12, []), (13, []), (14, [])], [(1, [0]), (2, [0, 1]), (3, [0, 1, 2]), (6, [5]), (7, [5, 6]), (8, [5, 6, 7]), (10, [5, 6, 7, 8, 9]), (11, [5, 6, 7, 8, 9, 10]), (13, [5, 6, 7, 8, 9, 10, 11, 12]), (14, [0, 1, 2, 3, 4, 5, 6, 7, 8, 9, 10, 11, 12, 13])])]⟩
set_option maxRecDepth 100000 in
theorem F57.ok : compF Try.prog A57 Try.f57 = some F57 := by kernel_rfl
theorem F57.fok : FOk Try.prog 57 F57 := fok_of mixed Try.func57 F57.ok

/-- (*cloakroom/ctrl.stack).top -/
def F58 : SFn := ⟨.seq (.region [⟨some 2, none, .mov (.c (.int .i64 0))⟩,
    ⟨some 3, none, .mov (.c (.bool false))⟩] [0])
   (.seq (.seq (.region [⟨some 4, none, .mov (.t 0)⟩,
    ⟨some 5, none, .nilc (.t 4)⟩,
    ⟨some 6, none, .ld 1 false (.t 5)⟩,
    ⟨some 7, none, .lenV (.t 6)⟩,
    ⟨some 8, none, .bin .eql (.t 7) (.c (.int .i64 0))⟩] [0, 8])
   (.cond (.t 8) (.seq (.region [⟨some 2, none, .mov (.c (.int .i64 0))⟩,
    ⟨some 3, none, .mov (.c (.bool false))⟩] [2, 3])
   (.ret)) (.skip)))
   (.seq (.region [⟨some 9, none, .mov (.t 0)⟩,
    ⟨some 10, none, .nilc (.t 9)⟩,
    ⟨some 11, none, .ld 1 false (.t 10)⟩,
    ⟨some 12, none, .mov (.t 0)⟩,
    ⟨some 13, none, .nilc (.t 12)⟩,
    ⟨some 14, none, .ld 1 false (.t 13)⟩,
    ⟨some 15, none, .lenV (.t 14)⟩,
    ⟨some 16, none, .bin .sub (.t 15) (.c (.int .i64 1))⟩,
    ⟨some 17, none, .iaV 1 (.t 11) (.t 16)⟩,
    ⟨some 18, none, .ld 1 false (.t 17)⟩,
    ⟨some 2, none, .mov (.t 18)⟩,
    ⟨some 3, none, .mov (.c (.bool true))⟩] [2, 3])
   (.ret))),
  [.t 2, .t 3], 19, 1⟩
def A58 : Ann := ⟨[(0, [0]), (1, [0, 8]), (2, [2, 3]), (3, [2, 3])], [(3, [(0, []), (1, []), (2, []), (3, []), (4, []), (5, []), (6, []), (7, []), (8, []), (9, []), (10, []), (11, [])], [(1, [0]), (2, [0, 1]), (4, [3]), (5, [3, 4]), (6, [3, 4, 5]), (7, [3, 4, 5, 6]), (8, [0, 1, 2, 3, 4, 5, 6, 7]), (9, [0, 1, 2, 3, 4, 5, 6, 7, 8]), (10, [0, 1, 2, 3, 4, 5, 6, 7, 8, 9]), (11, [0, 1, 2, 3, 4, 5, 6, 7, 8, 9, 10])])]⟩
set_option maxRecDepth 100000 in
theorem F58.ok : compF Try.prog A58 Try.f58 = some F58 := by kernel_rfl
theorem F58.fok : FOk Try.prog 58 F58 := fok_of mixed Try.func58 F58.ok

/-- (*cloakroom/ctrl.stack).pop -/
def F59 : SFn := ⟨.seq (.region [⟨some 2, none, .mov (.c (.int .i64 0))⟩,
    ⟨some 3, none, .mov (.c (.bool false))⟩] [0])
   (.seq (.region [⟨some 5, none, .mov (.t 0)⟩,
    ⟨some 6, none, .nilc (.t 5)⟩,
    ⟨some 7, none, .ld 1 false (.t 6)⟩,
    ⟨some 8, none, .lenV (.t 7)⟩,
    ⟨some 9, none, .bin .sub (.t 8) (.c (.int .i64 1))⟩,
    ⟨some 4, none, .mov (.t 9)⟩] [0, 4])
   (.seq (.seq (.region [⟨some 10, none, .mov (.t 4)⟩,
    ⟨some 11, none, .bin .lss (.t 10) (.c (.int .i64 0))⟩] [0, 4, 11])
   (.cond (.t 11) (.seq (.region [⟨some 2, none, .mov (.c (.int .i64 0))⟩,
    ⟨some 3, none, .mov (.c (.bool false))⟩] [2, 3])
   (.ret)) (.skip)))
   (.seq (.region [⟨some 12, none, .mov (.t 0)⟩,
    ⟨some 13, none, .nilc (.t 12)⟩,
    ⟨some 14, none, .ld 1 false (.t 13)⟩,
    ⟨some 15, none, .mov (.t 4)⟩,
    ⟨some 16, none, .iaV 1 (.t 14) (.t 15)⟩,
    ⟨some 17, none, .ld 1 false (.t 16)⟩,
    ⟨some 2, none, .mov (.t 17)⟩] [0, 2, 4])
   (.seq (.region [⟨some 18, none, .mov (.t 0)⟩,
    ⟨some 19, none, .mov (.t 0)⟩,
    ⟨some 20, none, .nilc (.t 19)⟩,
    ⟨some 21, none, .ld 1 false (.t 20)⟩,
    ⟨some 22, none, .mov (.t 4)⟩,
    ⟨some 23, none, .slV 1 (.t 21) none (some (.t 22)) none⟩,
    ⟨some 24, none, .nilc (.t 18)⟩,
    ⟨none, none, .st 1 (.t 24) (.t 23)⟩] [2])
   (.seq (.region [⟨some 25, none, .mov (.t 2)⟩,
    ⟨some 2, none, .mov (.t 25)⟩,
    ⟨some 3, none, .mov (.c (.bool true))⟩] [2, 3])
   (.ret)))))),
  [.t 2, .t 3], 26, 1⟩
def A59 : Ann := ⟨[(0, [0]), (1, [0, 4]), (2, [0, 4, 11]), (3, [2, 3]), (4, [0, 2, 4]), (5, [2]), (6, [2, 3])], []⟩
set_option maxRecDepth 100000 in
theorem F59.ok : compF Try.prog A59 Try.f59 = some F59 := by kernel_rfl
theorem F59.fok : FOk Try.prog 59 F59 := fok_of mixed Try.func59 F59.ok
end Go.Dx.SYtpogcjdenefhlaa
