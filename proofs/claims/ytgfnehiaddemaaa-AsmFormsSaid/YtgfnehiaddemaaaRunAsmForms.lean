/- The run of AsmForms by the kernel. -/
import Derived.Test.YtgfnehiaddemaaaDxDT
import Derived.Test.YtgfnehiaddemaaaDx20
namespace Go.Dx.SYtgfnehiaddemaaa
open Go.Proofs
set_option maxRecDepth 100000 in
theorem asmForms_true : isTrue (fnR T 3000 12 [] Heap.empty) = true := by kernel_rfl
theorem asmForms_fn : Fn Try.prog 12 [] Heap.empty fun v _ => v = .bool true := fn_of_true T.ok asmForms_true
end Go.Dx.SYtgfnehiaddemaaa
