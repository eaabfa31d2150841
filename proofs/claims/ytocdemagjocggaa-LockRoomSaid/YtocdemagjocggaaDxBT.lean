/- The table of readings, printed by a program of the prover's own. -/
import Derived.Test.YtocdemagjocggaaDxBF0
namespace Go.Dx.SYtocdemagjocggaa
open Go.Proofs
def T : List (Nat × SFn) := [(7, F7), (22, F22), (23, F23), (24, F24), (25, F25), (26, F26), (27, F27), (52, F52), (53, F53), (54, F54), (55, F55), (56, F56), (70, F70), (71, F71)]
theorem T.ok : ∀ f F, lookN T f = some F → FOk Try.prog f F :=
  table_ok_cons F7.fok (table_ok_cons F22.fok (table_ok_cons F23.fok (table_ok_cons F24.fok (table_ok_cons F25.fok (table_ok_cons F26.fok (table_ok_cons F27.fok (table_ok_cons F52.fok (table_ok_cons F53.fok (table_ok_cons F54.fok (table_ok_cons F55.fok (table_ok_cons F56.fok (table_ok_cons F70.fok (table_ok_cons F71.fok (table_ok_nil))))))))))))))
end Go.Dx.SYtocdemagjocggaa
