/- ValDead: runs by the kernel, part 0. -/
import Derived.Test.YtokfafjbdbdplaaVaD
namespace Go.Dx.SYtokfafjbdbdplaa
open Go.Proofs
set_option linter.unusedVariables false
set_option maxRecDepth 100000 in
theorem vd_0_0_n : dn 0 0 = true := by kernel_rfl
set_option maxRecDepth 100000 in
theorem vd_0_0_true : allL 3 (fun l => dl 0 0 (.bool true :: l)) = true := by kernel_rfl
set_option maxRecDepth 100000 in
theorem vd_0_0_false : allL 3 (fun l => dl 0 0 (.bool false :: l)) = true := by kernel_rfl
set_option maxRecDepth 100000 in
theorem vd_1_0_n : dn 1 0 = true := by kernel_rfl
set_option maxRecDepth 100000 in
theorem vd_1_0_true : allL 3 (fun l => dl 1 0 (.bool true :: l)) = true := by kernel_rfl
set_option maxRecDepth 100000 in
theorem vd_1_0_false : allL 3 (fun l => dl 1 0 (.bool false :: l)) = true := by kernel_rfl
set_option maxRecDepth 100000 in
theorem vd_2_0_n : dn 2 0 = true := by kernel_rfl
set_option maxRecDepth 100000 in
theorem vd_2_0_true : allL 3 (fun l => dl 2 0 (.bool true :: l)) = true := by kernel_rfl
set_option maxRecDepth 100000 in
theorem vd_2_0_false : allL 3 (fun l => dl 2 0 (.bool false :: l)) = true := by kernel_rfl
set_option maxRecDepth 100000 in
theorem vd_0_1_n : dn 0 1 = true := by kernel_rfl
set_option maxRecDepth 100000 in
theorem vd_0_1_true : allL 3 (fun l => dl 0 1 (.bool true :: l)) = true := by kernel_rfl
set_option maxRecDepth 100000 in
theorem vd_0_1_false : allL 3 (fun l => dl 0 1 (.bool false :: l)) = true := by kernel_rfl
end Go.Dx.SYtokfafjbdbdplaa
