/- The run of ValForms by the kernel. -/
import Derived.Test.YtokfafjbdbdplaaDxBT
import Derived.Test.YtokfafjbdbdplaaDx20
namespace Go.Dx.SYtokfafjbdbdplaa
open Go.Proofs
set_option maxRecDepth 100000 in
theorem valForms_true : isTrue (fnR T 1000 11 [] Heap.empty) = true := by kernel_rfl
theorem valForms_fn : Fn Try.prog 11 [] Heap.empty fun v _ => v = .bool true := fn_of_true T.ok valForms_true
end Go.Dx.SYtokfafjbdbdplaa
