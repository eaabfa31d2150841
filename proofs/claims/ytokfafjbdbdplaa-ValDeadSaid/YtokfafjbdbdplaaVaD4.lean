/- ValDead: runs by the kernel, part 4. -/
import Derived.Test.YtokfafjbdbdplaaVaD
namespace Go.Dx.SYtokfafjbdbdplaa
open Go.Proofs
set_option linter.unusedVariables false
set_option maxRecDepth 100000 in
theorem vd_1_5_n : dn 1 5 = true := by kernel_rfl
set_option maxRecDepth 100000 in
theorem vd_1_5_true : allL 3 (fun l => dl 1 5 (.bool true :: l)) = true := by kernel_rfl
set_option maxRecDepth 100000 in
theorem vd_1_5_false : allL 3 (fun l => dl 1 5 (.bool false :: l)) = true := by kernel_rfl
set_option maxRecDepth 100000 in
theorem vd_2_5_n : dn 2 5 = true := by kernel_rfl
set_option maxRecDepth 100000 in
theorem vd_2_5_true : allL 3 (fun l => dl 2 5 (.bool true :: l)) = true := by kernel_rfl
set_option maxRecDepth 100000 in
theorem vd_2_5_false : allL 3 (fun l => dl 2 5 (.bool false :: l)) = true := by kernel_rfl
set_option maxRecDepth 100000 in
theorem vd_0_6_n : dn 0 6 = true := by kernel_rfl
set_option maxRecDepth 100000 in
theorem vd_0_6_true : allL 3 (fun l => dl 0 6 (.bool true :: l)) = true := by kernel_rfl
set_option maxRecDepth 100000 in
theorem vd_0_6_false : allL 3 (fun l => dl 0 6 (.bool false :: l)) = true := by kernel_rfl
set_option maxRecDepth 100000 in
theorem vd_1_6_n : dn 1 6 = true := by kernel_rfl
set_option maxRecDepth 100000 in
theorem vd_1_6_true : allL 3 (fun l => dl 1 6 (.bool true :: l)) = true := by kernel_rfl
set_option maxRecDepth 100000 in
theorem vd_1_6_false : allL 3 (fun l => dl 1 6 (.bool false :: l)) = true := by kernel_rfl
end Go.Dx.SYtokfafjbdbdplaa
