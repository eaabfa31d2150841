/- LockLeaves: its arguments. -/
import Derived.Test.YtocdemagjocggaaLk4
namespace Go.Dx.SYtocdemagjocggaa
open Go.Proofs
set_option maxRecDepth 100000 in
theorem lockLeaves_fn {L : List (List Value)} {vs : List Value} (hG : FlatG Try.prog 0 [23] vs L) : Fn Try.prog 8 vs (flatH L) fun v _ => v = .bool true := by
  obtain ⟨a, n, c, l, r, k2, L2, L3, rfl, s, hl, _, _, hF⟩ := flat_slice (P := Try.prog) (k := 0) (t := 23) (ts := []) (L0 := []) (L := L) (L' := L) Try.underlying23 rfl rfl hG
  obtain rfl := flat_nil hF
  obtain ⟨xs, rfl, hw⟩ := scal_ints Try.underlying5 hl
  exact C8 s (fun x hx => wf_u8 (hw x hx))
end Go.Dx.SYtocdemagjocggaa
