/- ValDead: runs by the kernel, part 2. -/
import Derived.Test.YtokfafjbdbdplaaVaD
namespace Go.Dx.SYtokfafjbdbdplaa
open Go.Proofs
set_option linter.unusedVariables false
set_option maxRecDepth 100000 in
theorem vd_2_2_n : dn 2 2 = true := by kernel_rfl
set_option maxRecDepth 100000 in
theorem vd_2_2_true : allL 3 (fun l => dl 2 2 (.bool true :: l)) = true := by kernel_rfl
set_option maxRecDepth 100000 in
theorem vd_2_2_false : allL 3 (fun l => dl 2 2 (.bool false :: l)) = true := by kernel_rfl
set_option maxRecDepth 100000 in
theorem vd_0_3_n : dn 0 3 = true := by kernel_rfl
set_option maxRecDepth 100000 in
theorem vd_0_3_true : allL 3 (fun l => dl 0 3 (.bool true :: l)) = true := by kernel_rfl
set_option maxRecDepth 100000 in
theorem vd_0_3_false : allL 3 (fun l => dl 0 3 (.bool false :: l)) = true := by kernel_rfl
set_option maxRecDepth 100000 in
theorem vd_1_3_n : dn 1 3 = true := by kernel_rfl
set_option maxRecDepth 100000 in
theorem vd_1_3_true : allL 3 (fun l => dl 1 3 (.bool true :: l)) = true := by kernel_rfl
set_option maxRecDepth 100000 in
theorem vd_1_3_false : allL 3 (fun l => dl 1 3 (.bool false :: l)) = true := by kernel_rfl
set_option maxRecDepth 100000 in
theorem vd_2_3_n : dn 2 3 = true := by kernel_rfl
set_option maxRecDepth 100000 in
theorem vd_2_3_true : allL 3 (fun l => dl 2 3 (.bool true :: l)) = true := by kernel_rfl
set_option maxRecDepth 100000 in
theorem vd_2_3_false : allL 3 (fun l => dl 2 3 (.bool false :: l)) = true := by kernel_rfl
end Go.Dx.SYtokfafjbdbdplaa
