/- SessDead: what is told, run by the kernel, for so many requests ahead and so many bytes behind (any bytes). -/
import Derived.Test.YtokfafjbdbdplaaDxST
import Derived.Test.YtokfafjbdbdplaaDx34
namespace Go.Dx.SYtokfafjbdbdplaa
open Go.Proofs
set_option linter.unusedVariables false
noncomputable def sdrun (k : Nat) (v : Value) (h : Heap) : Bool := tells F4.res (codeR (fnR T 600) 600 (SCode.rest 4 F4.code) [(1, v), (5, .int .i64 (k : Int))] h)
end Go.Dx.SYtokfafjbdbdplaa
