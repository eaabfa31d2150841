/- The run of CtrlForms by the kernel. -/
import Derived.Test.YtfhdeagbgdnkaaaDxAT
import Derived.Test.YtfhdeagbgdnkaaaDx20
namespace Go.Dx.SYtfhdeagbgdnkaaa
open Go.Proofs
set_option maxRecDepth 100000 in
theorem ctrlForms_true : isTrue (fnR T 200 10 [] Heap.empty) = true := by kernel_rfl
theorem ctrlForms_fn : Fn Try.prog 10 [] Heap.empty fun v _ => v = .bool true := fn_of_true T.ok ctrlForms_true
end Go.Dx.SYtfhdeagbgdnkaaa
