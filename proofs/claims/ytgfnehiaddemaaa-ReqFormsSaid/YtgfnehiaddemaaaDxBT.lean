/- The table of readings, printed by a program of the prover's own. -/
import Derived.Test.YtgfnehiaddemaaaDxBF0
namespace Go.Dx.SYtgfnehiaddemaaa
open Go.Proofs
def T : List (Nat × SFn) := [(9, F9), (25, F25), (27, F27), (32, F32), (34, F34), (37, F37), (38, F38), (55, F55), (61, F61), (63, F63), (64, F64), (73, F73), (74, F74), (75, F75), (79, F79), (80, F80), (81, F81), (82, F82), (83, F83), (125, F125), (126, F126), (128, F128), (129, F129), (130, F130), (144, F144), (145, F145), (146, F146), (151, F151)]
theorem T.ok : ∀ f F, lookN T f = some F → FOk Try.prog f F :=
  table_ok_cons F9.fok (table_ok_cons F25.fok (table_ok_cons F27.fok (table_ok_cons F32.fok (table_ok_cons F34.fok (table_ok_cons F37.fok (table_ok_cons F38.fok (table_ok_cons F55.fok (table_ok_cons F61.fok (table_ok_cons F63.fok (table_ok_cons F64.fok (table_ok_cons F73.fok (table_ok_cons F74.fok (table_ok_cons F75.fok (table_ok_cons F79.fok (table_ok_cons F80.fok (table_ok_cons F81.fok (table_ok_cons F82.fok (table_ok_cons F83.fok (table_ok_cons F125.fok (table_ok_cons F126.fok (table_ok_cons F128.fok (table_ok_cons F129.fok (table_ok_cons F130.fok (table_ok_cons F144.fok (table_ok_cons F145.fok (table_ok_cons F146.fok (table_ok_cons F151.fok (table_ok_nil))))))))))))))))))))))))))))
end Go.Dx.SYtgfnehiaddemaaa
