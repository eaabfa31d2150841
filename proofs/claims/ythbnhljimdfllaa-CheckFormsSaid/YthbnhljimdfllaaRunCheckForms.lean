/- The run of CheckForms by the kernel. -/
import Derived.Test.YthbnhljimdfllaaDxBT
import Derived.Test.YthbnhljimdfllaaDx20
namespace Go.Dx.SYthbnhljimdfllaa
open Go.Proofs
set_option maxRecDepth 100000 in
theorem checkForms_true : isTrue (fnR T 1000 3 [] Heap.empty) = true := by kernel_rfl
theorem checkForms_fn : Fn Try.prog 3 [] Heap.empty fun v _ => v = .bool true := fn_of_true T.ok checkForms_true
end Go.Dx.SYthbnhljimdfllaa
