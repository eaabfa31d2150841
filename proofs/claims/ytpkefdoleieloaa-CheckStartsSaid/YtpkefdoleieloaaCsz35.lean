/- A deterministic reading of the model's code: a number of which only the rest is looked at may be another one with that rest. -/
import Derived.Test.YtpkefdoleieloaaCsz34
namespace Go.Dx
set_option linter.unusedVariables false
set_option linter.unusedSimpArgs false
structure RelM (K : IntKind) (x y : Int) (M : List Nat) (e e' : Env) : Prop where
  out : ∀ s,s ∉ M → e'.get s = e.get s
  inn : ∀ s,s ∈ M → (e.get s = some (.int K x) ∧ e'.get s = some (.int K y)) ∨ (e.get s = none ∧ e'.get s = none)
theorem get_put (e : Env) (d : Option Nat) (v : Value) (s : Nat) : (e.put d v).get s = if d = some s then some v else e.get s := by
  cases d with
  | none => simp [Env.put]
  | some k =>
    by_cases h : k = s
    · subst h; simp [Env.put,Env.get]
    · have : k.beq s = false := by rw [Ww]; simp [h]
      simp [Env.put,Env.get,this,h]
theorem get_keep (e : Env) (s : Nat) : ∀ keep : List Nat,(e.keep keep).get s = if s ∈ keep then e.get s else none
  | [] => rfl
  | t :: r => by
    have ih := get_keep e s r
    simp only [Env.keep]
    by_cases h : t = s
    · subst h
      cases hg : e.get t with
      | none => simp only [hg] at ih ⊢; rw [ih]; simp
      | some v => simp [Env.get]
    · have hb : t.beq s = false := by rw [Ww]; simp [h]
      have hm : s ∈ t :: r ↔ s ∈ r := by simp [Ne.symm h]
      cases hg : e.get t with
      | none => simp only [hm]; exact ih
      | some v => simp only [Env.get,hb,cond_false,hm]; exact ih
variable {K : IntKind} {m x y : Int}
end Go.Dx
