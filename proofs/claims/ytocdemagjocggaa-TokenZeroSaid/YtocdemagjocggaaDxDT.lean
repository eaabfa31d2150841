/- The table of readings, printed by a program of the prover's own. -/
import Derived.Test.YtocdemagjocggaaDxDF0
namespace Go.Dx.SYtocdemagjocggaa
open Go.Proofs
def T : List (Nat × SFn) := [(13, F13), (36, F36), (37, F37), (38, F38), (39, F39), (40, F40), (41, F41), (42, F42), (56, F56), (57, F57), (59, F59), (60, F60), (61, F61), (62, F62), (63, F63), (64, F64), (65, F65), (72, F72), (73, F73)]
theorem T.ok : ∀ f F, lookN T f = some F → FOk Try.prog f F :=
  table_ok_cons F13.fok (table_ok_cons F36.fok (table_ok_cons F37.fok (table_ok_cons F38.fok (table_ok_cons F39.fok (table_ok_cons F40.fok (table_ok_cons F41.fok (table_ok_cons F42.fok (table_ok_cons F56.fok (table_ok_cons F57.fok (table_ok_cons F59.fok (table_ok_cons F60.fok (table_ok_cons F61.fok (table_ok_cons F62.fok (table_ok_cons F63.fok (table_ok_cons F64.fok (table_ok_cons F65.fok (table_ok_cons F72.fok (table_ok_cons F73.fok (table_ok_nil)))))))))))))))))))
end Go.Dx.SYtocdemagjocggaa
