/- A deterministic reading of the model's code: tables, one function after the other. -/
import Derived.Test.YtpkefdoleieloaaCsz18
namespace Go.Dx
set_option linter.unusedVariables false
set_option linter.unusedSimpArgs false
variable {P : Program}
theorem table_ok_nil : ∀ f F,Ve ([] : List (Nat × SFn)) f = some F → FOk P f F := fun f F h => by simp [Ve] at h
theorem table_ok_cons {k : Nat} {G : SFn} {T : List (Nat × SFn)} (hG : FOk P k G) (hT : ∀ f F,Ve T f = some F → FOk P f F) :
    ∀ f F,Ve ((k,G) :: T) f = some F → FOk P f F := by
  intro f F h
  simp only [Ve,Ww] at h
  by_cases hk : k = f
  · subst hk; simp at h; subst h; exact hG
  · simp [hk] at h; exact hT f F h
end Go.Dx
