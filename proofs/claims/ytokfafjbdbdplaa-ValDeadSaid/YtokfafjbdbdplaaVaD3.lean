/- ValDead: runs by the kernel, part 3. -/
import Derived.Test.YtokfafjbdbdplaaVaD
namespace Go.Dx.SYtokfafjbdbdplaa
open Go.Proofs
set_option linter.unusedVariables false
set_option maxRecDepth 100000 in
theorem vd_0_4_n : dn 0 4 = true := by kernel_rfl
set_option maxRecDepth 100000 in
theorem vd_0_4_true : allL 3 (fun l => dl 0 4 (.bool true :: l)) = true := by kernel_rfl
set_option maxRecDepth 100000 in
theorem vd_0_4_false : allL 3 (fun l => dl 0 4 (.bool false :: l)) = true := by kernel_rfl
set_option maxRecDepth 100000 in
theorem vd_1_4_n : dn 1 4 = true := by kernel_rfl
set_option maxRecDepth 100000 in
theorem vd_1_4_true : allL 3 (fun l => dl 1 4 (.bool true :: l)) = true := by kernel_rfl
set_option maxRecDepth 100000 in
theorem vd_1_4_false : allL 3 (fun l => dl 1 4 (.bool false :: l)) = true := by kernel_rfl
set_option maxRecDepth 100000 in
theorem vd_2_4_n : dn 2 4 = true := by kernel_rfl
set_option maxRecDepth 100000 in
theorem vd_2_4_true : allL 3 (fun l => dl 2 4 (.bool true :: l)) = true := by kernel_rfl
set_option maxRecDepth 100000 in
theorem vd_2_4_false : allL 3 (fun l => dl 2 4 (.bool false :: l)) = true := by kernel_rfl
set_option maxRecDepth 100000 in
theorem vd_0_5_n : dn 0 5 = true := by kernel_rfl
set_option maxRecDepth 100000 in
theorem vd_0_5_true : allL 3 (fun l => dl 0 5 (.bool true :: l)) = true := by kernel_rfl
set_option maxRecDepth 100000 in
theorem vd_0_5_false : allL 3 (fun l => dl 0 5 (.bool false :: l)) = true := by kernel_rfl
end Go.Dx.SYtokfafjbdbdplaa
