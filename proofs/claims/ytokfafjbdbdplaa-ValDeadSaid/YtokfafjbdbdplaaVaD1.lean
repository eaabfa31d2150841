/- ValDead: runs by the kernel, part 1. -/
import Derived.Test.YtokfafjbdbdplaaVaD
namespace Go.Dx.SYtokfafjbdbdplaa
open Go.Proofs
set_option linter.unusedVariables false
set_option maxRecDepth 100000 in
theorem vd_1_1_n : dn 1 1 = true := by kernel_rfl
set_option maxRecDepth 100000 in
theorem vd_1_1_true : allL 3 (fun l => dl 1 1 (.bool true :: l)) = true := by kernel_rfl
set_option maxRecDepth 100000 in
theorem vd_1_1_false : allL 3 (fun l => dl 1 1 (.bool false :: l)) = true := by kernel_rfl
set_option maxRecDepth 100000 in
theorem vd_2_1_n : dn 2 1 = true := by kernel_rfl
set_option maxRecDepth 100000 in
theorem vd_2_1_true : allL 3 (fun l => dl 2 1 (.bool true :: l)) = true := by kernel_rfl
set_option maxRecDepth 100000 in
theorem vd_2_1_false : allL 3 (fun l => dl 2 1 (.bool false :: l)) = true := by kernel_rfl
set_option maxRecDepth 100000 in
theorem vd_0_2_n : dn 0 2 = true := by kernel_rfl
set_option maxRecDepth 100000 in
theorem vd_0_2_true : allL 3 (fun l => dl 0 2 (.bool true :: l)) = true := by kernel_rfl
set_option maxRecDepth 100000 in
theorem vd_0_2_false : allL 3 (fun l => dl 0 2 (.bool false :: l)) = true := by kernel_rfl
set_option maxRecDepth 100000 in
theorem vd_1_2_n : dn 1 2 = true := by kernel_rfl
set_option maxRecDepth 100000 in
theorem vd_1_2_true : allL 3 (fun l => dl 1 2 (.bool true :: l)) = true := by kernel_rfl
set_option maxRecDepth 100000 in
theorem vd_1_2_false : allL 3 (fun l => dl 1 2 (.bool false :: l)) = true := by kernel_rfl
end Go.Dx.SYtokfafjbdbdplaa
