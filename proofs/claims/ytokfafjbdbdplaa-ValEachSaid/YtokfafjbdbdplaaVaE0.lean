/- ValEach: runs by the kernel, part 0. -/
import Derived.Test.YtokfafjbdbdplaaVaE
namespace Go.Dx.SYtokfafjbdbdplaa
open Go.Proofs
set_option linter.unusedVariables false
set_option maxRecDepth 100000 in
theorem ve_0_true : lsts 3 (erun 69 true) = true := by kernel_rfl
set_option maxRecDepth 100000 in
theorem ve_0_false : lsts 3 (erun 69 false) = true := by kernel_rfl
set_option maxRecDepth 100000 in
theorem ve_1_true : lsts 3 (erun 70 true) = true := by kernel_rfl
set_option maxRecDepth 100000 in
theorem ve_1_false : lsts 3 (erun 70 false) = true := by kernel_rfl
set_option maxRecDepth 100000 in
theorem ve_2_true : lsts 3 (erun 71 true) = true := by kernel_rfl
set_option maxRecDepth 100000 in
theorem ve_2_false : lsts 3 (erun 71 false) = true := by kernel_rfl
set_option maxRecDepth 100000 in
theorem ve_3_true : lsts 3 (erun 72 true) = true := by kernel_rfl
set_option maxRecDepth 100000 in
theorem ve_3_false : lsts 3 (erun 72 false) = true := by kernel_rfl
set_option maxRecDepth 100000 in
theorem ve_4_true : lsts 3 (erun 73 true) = true := by kernel_rfl
set_option maxRecDepth 100000 in
theorem ve_4_false : lsts 3 (erun 73 false) = true := by kernel_rfl
set_option maxRecDepth 100000 in
theorem ve_5_true : lsts 3 (erun 74 true) = true := by kernel_rfl
set_option maxRecDepth 100000 in
theorem ve_5_false : lsts 3 (erun 74 false) = true := by kernel_rfl
set_option maxRecDepth 100000 in
theorem ve_6_true : lsts 3 (erun 75 true) = true := by kernel_rfl
set_option maxRecDepth 100000 in
theorem ve_6_false : lsts 3 (erun 75 false) = true := by kernel_rfl
set_option maxRecDepth 100000 in
theorem ve_7_true : lsts 3 (erun 76 true) = true := by kernel_rfl
set_option maxRecDepth 100000 in
theorem ve_7_false : lsts 3 (erun 76 false) = true := by kernel_rfl
set_option maxRecDepth 100000 in
theorem ve_8_true : lsts 3 (erun 77 true) = true := by kernel_rfl
set_option maxRecDepth 100000 in
theorem ve_8_false : lsts 3 (erun 77 false) = true := by kernel_rfl
set_option maxRecDepth 100000 in
theorem ve_9_true : lsts 3 (erun 78 true) = true := by kernel_rfl
set_option maxRecDepth 100000 in
theorem ve_9_false : lsts 3 (erun 78 false) = true := by kernel_rfl
end Go.Dx.SYtokfafjbdbdplaa
