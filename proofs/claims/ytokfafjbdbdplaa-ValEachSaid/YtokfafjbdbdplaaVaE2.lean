/- ValEach: runs by the kernel, part 2. -/
import Derived.Test.YtokfafjbdbdplaaVaE
namespace Go.Dx.SYtokfafjbdbdplaa
open Go.Proofs
set_option linter.unusedVariables false
set_option maxRecDepth 100000 in
theorem ve_20_true : lsts 3 (erun 89 true) = true := by kernel_rfl
set_option maxRecDepth 100000 in
theorem ve_20_false : lsts 3 (erun 89 false) = true := by kernel_rfl
set_option maxRecDepth 100000 in
theorem ve_21_true : lsts 3 (erun 90 true) = true := by kernel_rfl
set_option maxRecDepth 100000 in
theorem ve_21_false : lsts 3 (erun 90 false) = true := by kernel_rfl
set_option maxRecDepth 100000 in
theorem ve_22_true : lsts 3 (erun 91 true) = true := by kernel_rfl
set_option maxRecDepth 100000 in
theorem ve_22_false : lsts 3 (erun 91 false) = true := by kernel_rfl
set_option maxRecDepth 100000 in
theorem ve_23_true : lsts 3 (erun 92 true) = true := by kernel_rfl
set_option maxRecDepth 100000 in
theorem ve_23_false : lsts 3 (erun 92 false) = true := by kernel_rfl
set_option maxRecDepth 100000 in
theorem ve_24_true : lsts 3 (erun 93 true) = true := by kernel_rfl
set_option maxRecDepth 100000 in
theorem ve_24_false : lsts 3 (erun 93 false) = true := by kernel_rfl
set_option maxRecDepth 100000 in
theorem ve_25_true : lsts 3 (erun 94 true) = true := by kernel_rfl
set_option maxRecDepth 100000 in
theorem ve_25_false : lsts 3 (erun 94 false) = true := by kernel_rfl
set_option maxRecDepth 100000 in
theorem ve_26_true : lsts 3 (erun 95 true) = true := by kernel_rfl
set_option maxRecDepth 100000 in
theorem ve_26_false : lsts 3 (erun 95 false) = true := by kernel_rfl
set_option maxRecDepth 100000 in
theorem ve_27_true : lsts 3 (erun 96 true) = true := by kernel_rfl
set_option maxRecDepth 100000 in
theorem ve_27_false : lsts 3 (erun 96 false) = true := by kernel_rfl
set_option maxRecDepth 100000 in
theorem ve_28_true : lsts 3 (erun 97 true) = true := by kernel_rfl
set_option maxRecDepth 100000 in
theorem ve_28_false : lsts 3 (erun 97 false) = true := by kernel_rfl
set_option maxRecDepth 100000 in
theorem ve_29_true : lsts 3 (erun 98 true) = true := by kernel_rfl
set_option maxRecDepth 100000 in
theorem ve_29_false : lsts 3 (erun 98 false) = true := by kernel_rfl
end Go.Dx.SYtokfafjbdbdplaa
