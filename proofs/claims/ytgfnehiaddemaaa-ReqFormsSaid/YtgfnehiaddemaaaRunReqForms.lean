/- The run of ReqForms by the kernel. -/
import Derived.Test.YtgfnehiaddemaaaDxBT
import Derived.Test.YtgfnehiaddemaaaDx20
namespace Go.Dx.SYtgfnehiaddemaaa
open Go.Proofs
set_option maxRecDepth 100000 in
theorem reqForms_true : isTrue (fnR T 1000 9 [] Heap.empty) = true := by kernel_rfl
theorem reqForms_fn : Fn Try.prog 9 [] Heap.empty fun v _ => v = .bool true := fn_of_true T.ok reqForms_true
end Go.Dx.SYtgfnehiaddemaaa
