/- ValEach: what its runs are. -/
import Derived.Test.YtokfafjbdbdplaaDxVT
import Derived.Test.YtokfafjbdbdplaaDx34
namespace Go.Dx.SYtokfafjbdbdplaa
open Go.Proofs
set_option linter.unusedVariables false
noncomputable def erun (k : Nat) (out : Bool) (v : Value) (h : Heap) : Bool := tells F9.res (codeR (fnR T 400) 400 (SCode.rest 4 F9.code) [(1, v), (2, .bool out), (7, .int .i64 k)] h)
end Go.Dx.SYtokfafjbdbdplaa
