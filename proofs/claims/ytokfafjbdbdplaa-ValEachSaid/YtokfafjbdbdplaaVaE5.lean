/- ValEach: runs by the kernel, part 5. -/
import Derived.Test.YtokfafjbdbdplaaVaE
namespace Go.Dx.SYtokfafjbdbdplaa
open Go.Proofs
set_option linter.unusedVariables false
set_option maxRecDepth 100000 in
theorem ve_50_true : lsts 3 (erun 119 true) = true := by kernel_rfl
set_option maxRecDepth 100000 in
theorem ve_50_false : lsts 3 (erun 119 false) = true := by kernel_rfl
set_option maxRecDepth 100000 in
theorem ve_51_true : lsts 3 (erun 120 true) = true := by kernel_rfl
set_option maxRecDepth 100000 in
theorem ve_51_false : lsts 3 (erun 120 false) = true := by kernel_rfl
set_option maxRecDepth 100000 in
theorem ve_52_true : lsts 3 (erun 121 true) = true := by kernel_rfl
set_option maxRecDepth 100000 in
theorem ve_52_false : lsts 3 (erun 121 false) = true := by kernel_rfl
set_option maxRecDepth 100000 in
theorem ve_53_true : lsts 3 (erun 122 true) = true := by kernel_rfl
set_option maxRecDepth 100000 in
theorem ve_53_false : lsts 3 (erun 122 false) = true := by kernel_rfl
set_option maxRecDepth 100000 in
theorem ve_54_true : lsts 3 (erun 123 true) = true := by kernel_rfl
set_option maxRecDepth 100000 in
theorem ve_54_false : lsts 3 (erun 123 false) = true := by kernel_rfl
set_option maxRecDepth 100000 in
theorem ve_55_true : lsts 3 (erun 124 true) = true := by kernel_rfl
set_option maxRecDepth 100000 in
theorem ve_55_false : lsts 3 (erun 124 false) = true := by kernel_rfl
set_option maxRecDepth 100000 in
theorem ve_56_true : lsts 3 (erun 125 true) = true := by kernel_rfl
set_option maxRecDepth 100000 in
theorem ve_56_false : lsts 3 (erun 125 false) = true := by kernel_rfl
set_option maxRecDepth 100000 in
theorem ve_57_true : lsts 3 (erun 126 true) = true := by kernel_rfl
set_option maxRecDepth 100000 in
theorem ve_57_false : lsts 3 (erun 126 false) = true := by kernel_rfl
set_option maxRecDepth 100000 in
theorem ve_58_true : lsts 3 (erun 127 true) = true := by kernel_rfl
set_option maxRecDepth 100000 in
theorem ve_58_false : lsts 3 (erun 127 false) = true := by kernel_rfl
set_option maxRecDepth 100000 in
theorem ve_59_true : lsts 3 (erun 128 true) = true := by kernel_rfl
set_option maxRecDepth 100000 in
theorem ve_59_false : lsts 3 (erun 128 false) = true := by kernel_rfl
end Go.Dx.SYtokfafjbdbdplaa
