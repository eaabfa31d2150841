/- ValEach: runs by the kernel, part 4. -/
import Derived.Test.YtokfafjbdbdplaaVaE
namespace Go.Dx.SYtokfafjbdbdplaa
open Go.Proofs
set_option linter.unusedVariables false
set_option maxRecDepth 100000 in
theorem ve_40_true : lsts 3 (erun 109 true) = true := by kernel_rfl
set_option maxRecDepth 100000 in
theorem ve_40_false : lsts 3 (erun 109 false) = true := by kernel_rfl
set_option maxRecDepth 100000 in
theorem ve_41_true : lsts 3 (erun 110 true) = true := by kernel_rfl
set_option maxRecDepth 100000 in
theorem ve_41_false : lsts 3 (erun 110 false) = true := by kernel_rfl
set_option maxRecDepth 100000 in
theorem ve_42_true : lsts 3 (erun 111 true) = true := by kernel_rfl
set_option maxRecDepth 100000 in
theorem ve_42_false : lsts 3 (erun 111 false) = true := by kernel_rfl
set_option maxRecDepth 100000 in
theorem ve_43_true : lsts 3 (erun 112 true) = true := by kernel_rfl
set_option maxRecDepth 100000 in
theorem ve_43_false : lsts 3 (erun 112 false) = true := by kernel_rfl
set_option maxRecDepth 100000 in
theorem ve_44_true : lsts 3 (erun 113 true) = true := by kernel_rfl
set_option maxRecDepth 100000 in
theorem ve_44_false : lsts 3 (erun 113 false) = true := by kernel_rfl
set_option maxRecDepth 100000 in
theorem ve_45_true : lsts 3 (erun 114 true) = true := by kernel_rfl
set_option maxRecDepth 100000 in
theorem ve_45_false : lsts 3 (erun 114 false) = true := by kernel_rfl
set_option maxRecDepth 100000 in
theorem ve_46_true : lsts 3 (erun 115 true) = true := by kernel_rfl
set_option maxRecDepth 100000 in
theorem ve_46_false : lsts 3 (erun 115 false) = true := by kernel_rfl
set_option maxRecDepth 100000 in
theorem ve_47_true : lsts 3 (erun 116 true) = true := by kernel_rfl
set_option maxRecDepth 100000 in
theorem ve_47_false : lsts 3 (erun 116 false) = true := by kernel_rfl
set_option maxRecDepth 100000 in
theorem ve_48_true : lsts 3 (erun 117 true) = true := by kernel_rfl
set_option maxRecDepth 100000 in
theorem ve_48_false : lsts 3 (erun 117 false) = true := by kernel_rfl
set_option maxRecDepth 100000 in
theorem ve_49_true : lsts 3 (erun 118 true) = true := by kernel_rfl
set_option maxRecDepth 100000 in
theorem ve_49_false : lsts 3 (erun 118 false) = true := by kernel_rfl
end Go.Dx.SYtokfafjbdbdplaa
