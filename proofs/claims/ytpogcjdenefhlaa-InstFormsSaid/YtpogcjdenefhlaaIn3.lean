/- InstForms: the rest of it run from the empty heap. -/
import Derived.Test.YtpogcjdenefhlaaIn2
namespace Go.Dx.SYtpogcjdenefhlaa
open Go.Proofs
set_option linter.unusedVariables false
set_option linter.unusedSimpArgs false
set_option maxRecDepth 100000 in
theorem forms_run : tells F5.res (codeR (fnR T 400) 400 (SCode.rest 2 F5.code) [(20, .bool false)] Heap.empty) = true := by kernel_rfl
theorem instForms_fn : Fn Try.prog 5 [] Heap.empty fun v _ => v = .bool true := by
  refine fnK F5.fok rfl ?_
  refine K_reg (Wops_run rfl rfl (K_fin [] rfl (?_)))
  refine K_ss (K_reg (Wops_call rfl C6 ?_))
  rintro _ _ ⟨rfl, rfl⟩
  refine Wops_run rfl rfl (K_fin [(20, _)] rfl ?_)
  refine K_scond rfl (fun hc => by cases hc) (fun _ => ?_)
  refine K_sskip ?_
  exact W_tells (n := 400) (c := SCode.rest 2 F5.code) T.ok forms_run fun _ => rfl
end Go.Dx.SYtpogcjdenefhlaa
