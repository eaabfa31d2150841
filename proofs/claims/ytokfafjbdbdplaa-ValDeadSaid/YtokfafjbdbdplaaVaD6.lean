/- ValDead: all runs. -/
import Derived.Test.YtokfafjbdbdplaaVaD0
import Derived.Test.YtokfafjbdbdplaaVaD1
import Derived.Test.YtokfafjbdbdplaaVaD2
import Derived.Test.YtokfafjbdbdplaaVaD3
import Derived.Test.YtokfafjbdbdplaaVaD4
import Derived.Test.YtokfafjbdbdplaaVaD5
namespace Go.Dx.SYtokfafjbdbdplaa
open Go.Proofs
set_option linter.unusedVariables false
theorem vd_all : ∀ (w d : Nat), w < 3 → d < 8 → lsts 4 (drun w d) = true
  | 0, 0, _, _ => dl_all vd_0_0_n vd_0_0_true vd_0_0_false
  | 1, 0, _, _ => dl_all vd_1_0_n vd_1_0_true vd_1_0_false
  | 2, 0, _, _ => dl_all vd_2_0_n vd_2_0_true vd_2_0_false
  | 0, 1, _, _ => dl_all vd_0_1_n vd_0_1_true vd_0_1_false
  | 1, 1, _, _ => dl_all vd_1_1_n vd_1_1_true vd_1_1_false
  | 2, 1, _, _ => dl_all vd_2_1_n vd_2_1_true vd_2_1_false
  | 0, 2, _, _ => dl_all vd_0_2_n vd_0_2_true vd_0_2_false
  | 1, 2, _, _ => dl_all vd_1_2_n vd_1_2_true vd_1_2_false
  | 2, 2, _, _ => dl_all vd_2_2_n vd_2_2_true vd_2_2_false
  | 0, 3, _, _ => dl_all vd_0_3_n vd_0_3_true vd_0_3_false
  | 1, 3, _, _ => dl_all vd_1_3_n vd_1_3_true vd_1_3_false
  | 2, 3, _, _ => dl_all vd_2_3_n vd_2_3_true vd_2_3_false
  | 0, 4, _, _ => dl_all vd_0_4_n vd_0_4_true vd_0_4_false
  | 1, 4, _, _ => dl_all vd_1_4_n vd_1_4_true vd_1_4_false
  | 2, 4, _, _ => dl_all vd_2_4_n vd_2_4_true vd_2_4_false
  | 0, 5, _, _ => dl_all vd_0_5_n vd_0_5_true vd_0_5_false
  | 1, 5, _, _ => dl_all vd_1_5_n vd_1_5_true vd_1_5_false
  | 2, 5, _, _ => dl_all vd_2_5_n vd_2_5_true vd_2_5_false
  | 0, 6, _, _ => dl_all vd_0_6_n vd_0_6_true vd_0_6_false
  | 1, 6, _, _ => dl_all vd_1_6_n vd_1_6_true vd_1_6_false
  | 2, 6, _, _ => dl_all vd_2_6_n vd_2_6_true vd_2_6_false
  | 0, 7, _, _ => dl_all vd_0_7_n vd_0_7_true vd_0_7_false
  | 1, 7, _, _ => dl_all vd_1_7_n vd_1_7_true vd_1_7_false
  | 2, 7, _, _ => dl_all vd_2_7_n vd_2_7_true vd_2_7_false
  | w + 3, _, h, _ => absurd h (by omega)
  | _, d + 8, _, h => absurd h (by omega)
end Go.Dx.SYtokfafjbdbdplaa
