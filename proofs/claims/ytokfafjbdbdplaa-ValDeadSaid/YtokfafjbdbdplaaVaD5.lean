/- ValDead: runs by the kernel, part 5. -/
import Derived.Test.YtokfafjbdbdplaaVaD
namespace Go.Dx.SYtokfafjbdbdplaa
open Go.Proofs
set_option linter.unusedVariables false
set_option maxRecDepth 100000 in
theorem vd_2_6_n : dn 2 6 = true := by kernel_rfl
set_option maxRecDepth 100000 in
theorem vd_2_6_true : allL 3 (fun l => dl 2 6 (.bool true :: l)) = true := by kernel_rfl
set_option maxRecDepth 100000 in
theorem vd_2_6_false : allL 3 (fun l => dl 2 6 (.bool false :: l)) = true := by kernel_rfl
set_option maxRecDepth 100000 in
theorem vd_0_7_n : dn 0 7 = true := by kernel_rfl
set_option maxRecDepth 100000 in
theorem vd_0_7_true : allL 3 (fun l => dl 0 7 (.bool true :: l)) = true := by kernel_rfl
set_option maxRecDepth 100000 in
theorem vd_0_7_false : allL 3 (fun l => dl 0 7 (.bool false :: l)) = true := by kernel_rfl
set_option maxRecDepth 100000 in
theorem vd_1_7_n : dn 1 7 = true := by kernel_rfl
set_option maxRecDepth 100000 in
theorem vd_1_7_true : allL 3 (fun l => dl 1 7 (.bool true :: l)) = true := by kernel_rfl
set_option maxRecDepth 100000 in
theorem vd_1_7_false : allL 3 (fun l => dl 1 7 (.bool false :: l)) = true := by kernel_rfl
set_option maxRecDepth 100000 in
theorem vd_2_7_n : dn 2 7 = true := by kernel_rfl
set_option maxRecDepth 100000 in
theorem vd_2_7_true : allL 3 (fun l => dl 2 7 (.bool true :: l)) = true := by kernel_rfl
set_option maxRecDepth 100000 in
theorem vd_2_7_false : allL 3 (fun l => dl 2 7 (.bool false :: l)) = true := by kernel_rfl
end Go.Dx.SYtokfafjbdbdplaa
