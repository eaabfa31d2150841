/- A deterministic reading of the model's code: a number that is only compared with constants may be another one that lies alike. -/
import Derived.Test.YtpkefdoleieloaaCsz35
namespace Go.Dx
set_option linter.unusedVariables false
set_option linter.unusedSimpArgs false
structure RelC (K : IntKind) (x y : Int) (M : List Nat) (e e' : Env) : Prop where
  r : ∀ s,e'.get s = e.get s ∨ (s ∈ M ∧ e.get s = some (.int K x) ∧ e'.get s = some (.int K y))
variable {K : IntKind} {x y : Int} {Cs : List Int} {G : List Nat}
end Go.Dx
