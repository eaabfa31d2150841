/- ValEach: runs by the kernel, part 6. -/
import Derived.Test.YtokfafjbdbdplaaVaE
namespace Go.Dx.SYtokfafjbdbdplaa
open Go.Proofs
set_option linter.unusedVariables false
set_option maxRecDepth 100000 in
theorem ve_60_true : lsts 3 (erun 129 true) = true := by kernel_rfl
set_option maxRecDepth 100000 in
theorem ve_60_false : lsts 3 (erun 129 false) = true := by kernel_rfl
set_option maxRecDepth 100000 in
theorem ve_61_true : lsts 3 (erun 130 true) = true := by kernel_rfl
set_option maxRecDepth 100000 in
theorem ve_61_false : lsts 3 (erun 130 false) = true := by kernel_rfl
set_option maxRecDepth 100000 in
theorem ve_62_true : lsts 3 (erun 131 true) = true := by kernel_rfl
set_option maxRecDepth 100000 in
theorem ve_62_false : lsts 3 (erun 131 false) = true := by kernel_rfl
set_option maxRecDepth 100000 in
theorem ve_63_true : lsts 3 (erun 132 true) = true := by kernel_rfl
set_option maxRecDepth 100000 in
theorem ve_63_false : lsts 3 (erun 132 false) = true := by kernel_rfl
set_option maxRecDepth 100000 in
theorem ve_64_true : lsts 3 (erun 133 true) = true := by kernel_rfl
set_option maxRecDepth 100000 in
theorem ve_64_false : lsts 3 (erun 133 false) = true := by kernel_rfl
set_option maxRecDepth 100000 in
theorem ve_65_true : lsts 3 (erun 134 true) = true := by kernel_rfl
set_option maxRecDepth 100000 in
theorem ve_65_false : lsts 3 (erun 134 false) = true := by kernel_rfl
set_option maxRecDepth 100000 in
theorem ve_66_true : lsts 3 (erun 135 true) = true := by kernel_rfl
set_option maxRecDepth 100000 in
theorem ve_66_false : lsts 3 (erun 135 false) = true := by kernel_rfl
set_option maxRecDepth 100000 in
theorem ve_67_true : lsts 3 (erun 136 true) = true := by kernel_rfl
set_option maxRecDepth 100000 in
theorem ve_67_false : lsts 3 (erun 136 false) = true := by kernel_rfl
set_option maxRecDepth 100000 in
theorem ve_68_true : lsts 3 (erun 137 true) = true := by kernel_rfl
set_option maxRecDepth 100000 in
theorem ve_68_false : lsts 3 (erun 137 false) = true := by kernel_rfl
set_option maxRecDepth 100000 in
theorem ve_69_true : lsts 3 (erun 138 true) = true := by kernel_rfl
set_option maxRecDepth 100000 in
theorem ve_69_false : lsts 3 (erun 138 false) = true := by kernel_rfl
end Go.Dx.SYtokfafjbdbdplaa
