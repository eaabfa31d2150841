/- OpForms: of what kind forty-four instructions are. A closed statement. No condition. -/
import Derived.Test.YtfhdeagbgdnkaaaPOpFormsx5
namespace Go.Proofs.Ytfhdeagbgdnkaaa.Pure
open Go.RowKit Go.Proofs.Ytfhdeagbgdnkaaa.POpForms Go.Proofs.YtfhdeagbgdnkaaaW.PrintWords Go.Proofs.YtfhdeagbgdnkaaaW.PrintLast

/-- YOURS: ∃ k, cloakroomlaw5_OpForms.f k  = some true
What it reaches (each with k first where it has rounds; `.mono`: more rounds tell the same; `.l0`, ..: its loops, with `.mono_l`): op_Width.f, op_none.f, op_float.f, op_Kind.f, op_Names.f, cloakroomlaw5_begun.f, cloakroomlaw5_OpForms.f -/
theorem OpForms : cloakroomlaw5_OpForms.Pure := by
  exact ⟨700, by kernel_rfl⟩

end Go.Proofs.Ytfhdeagbgdnkaaa.Pure
