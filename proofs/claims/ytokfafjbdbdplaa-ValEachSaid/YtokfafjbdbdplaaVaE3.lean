/- ValEach: runs by the kernel, part 3. -/
import Derived.Test.YtokfafjbdbdplaaVaE
namespace Go.Dx.SYtokfafjbdbdplaa
open Go.Proofs
set_option linter.unusedVariables false
set_option maxRecDepth 100000 in
theorem ve_30_true : lsts 3 (erun 99 true) = true := by kernel_rfl
set_option maxRecDepth 100000 in
theorem ve_30_false : lsts 3 (erun 99 false) = true := by kernel_rfl
set_option maxRecDepth 100000 in
theorem ve_31_true : lsts 3 (erun 100 true) = true := by kernel_rfl
set_option maxRecDepth 100000 in
theorem ve_31_false : lsts 3 (erun 100 false) = true := by kernel_rfl
set_option maxRecDepth 100000 in
theorem ve_32_true : lsts 3 (erun 101 true) = true := by kernel_rfl
set_option maxRecDepth 100000 in
theorem ve_32_false : lsts 3 (erun 101 false) = true := by kernel_rfl
set_option maxRecDepth 100000 in
theorem ve_33_true : lsts 3 (erun 102 true) = true := by kernel_rfl
set_option maxRecDepth 100000 in
theorem ve_33_false : lsts 3 (erun 102 false) = true := by kernel_rfl
set_option maxRecDepth 100000 in
theorem ve_34_true : lsts 3 (erun 103 true) = true := by kernel_rfl
set_option maxRecDepth 100000 in
theorem ve_34_false : lsts 3 (erun 103 false) = true := by kernel_rfl
set_option maxRecDepth 100000 in
theorem ve_35_true : lsts 3 (erun 104 true) = true := by kernel_rfl
set_option maxRecDepth 100000 in
theorem ve_35_false : lsts 3 (erun 104 false) = true := by kernel_rfl
set_option maxRecDepth 100000 in
theorem ve_36_true : lsts 3 (erun 105 true) = true := by kernel_rfl
set_option maxRecDepth 100000 in
theorem ve_36_false : lsts 3 (erun 105 false) = true := by kernel_rfl
set_option maxRecDepth 100000 in
theorem ve_37_true : lsts 3 (erun 106 true) = true := by kernel_rfl
set_option maxRecDepth 100000 in
theorem ve_37_false : lsts 3 (erun 106 false) = true := by kernel_rfl
set_option maxRecDepth 100000 in
theorem ve_38_true : lsts 3 (erun 107 true) = true := by kernel_rfl
set_option maxRecDepth 100000 in
theorem ve_38_false : lsts 3 (erun 107 false) = true := by kernel_rfl
set_option maxRecDepth 100000 in
theorem ve_39_true : lsts 3 (erun 108 true) = true := by kernel_rfl
set_option maxRecDepth 100000 in
theorem ve_39_false : lsts 3 (erun 108 false) = true := by kernel_rfl
end Go.Dx.SYtokfafjbdbdplaa
