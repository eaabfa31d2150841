/- ValEach: runs by the kernel, part 1. -/
import Derived.Test.YtokfafjbdbdplaaVaE
namespace Go.Dx.SYtokfafjbdbdplaa
open Go.Proofs
set_option linter.unusedVariables false
set_option maxRecDepth 100000 in
theorem ve_10_true : lsts 3 (erun 79 true) = true := by kernel_rfl
set_option maxRecDepth 100000 in
theorem ve_10_false : lsts 3 (erun 79 false) = true := by kernel_rfl
set_option maxRecDepth 100000 in
theorem ve_11_true : lsts 3 (erun 80 true) = true := by kernel_rfl
set_option maxRecDepth 100000 in
theorem ve_11_false : lsts 3 (erun 80 false) = true := by kernel_rfl
set_option maxRecDepth 100000 in
theorem ve_12_true : lsts 3 (erun 81 true) = true := by kernel_rfl
set_option maxRecDepth 100000 in
theorem ve_12_false : lsts 3 (erun 81 false) = true := by kernel_rfl
set_option maxRecDepth 100000 in
theorem ve_13_true : lsts 3 (erun 82 true) = true := by kernel_rfl
set_option maxRecDepth 100000 in
theorem ve_13_false : lsts 3 (erun 82 false) = true := by kernel_rfl
set_option maxRecDepth 100000 in
theorem ve_14_true : lsts 3 (erun 83 true) = true := by kernel_rfl
set_option maxRecDepth 100000 in
theorem ve_14_false : lsts 3 (erun 83 false) = true := by kernel_rfl
set_option maxRecDepth 100000 in
theorem ve_15_true : lsts 3 (erun 84 true) = true := by kernel_rfl
set_option maxRecDepth 100000 in
theorem ve_15_false : lsts 3 (erun 84 false) = true := by kernel_rfl
set_option maxRecDepth 100000 in
theorem ve_16_true : lsts 3 (erun 85 true) = true := by kernel_rfl
set_option maxRecDepth 100000 in
theorem ve_16_false : lsts 3 (erun 85 false) = true := by kernel_rfl
set_option maxRecDepth 100000 in
theorem ve_17_true : lsts 3 (erun 86 true) = true := by kernel_rfl
set_option maxRecDepth 100000 in
theorem ve_17_false : lsts 3 (erun 86 false) = true := by kernel_rfl
set_option maxRecDepth 100000 in
theorem ve_18_true : lsts 3 (erun 87 true) = true := by kernel_rfl
set_option maxRecDepth 100000 in
theorem ve_18_false : lsts 3 (erun 87 false) = true := by kernel_rfl
set_option maxRecDepth 100000 in
theorem ve_19_true : lsts 3 (erun 88 true) = true := by kernel_rfl
set_option maxRecDepth 100000 in
theorem ve_19_false : lsts 3 (erun 88 false) = true := by kernel_rfl
end Go.Dx.SYtokfafjbdbdplaa
