/- ClockAll: its arguments. -/
import Derived.Test.YtfhdeagbgdnkaaaCk9
namespace Go.Dx.SYtfhdeagbgdnkaaa
open Go.Proofs
set_option linter.unusedVariables false
set_option linter.unusedSimpArgs false
theorem cells33 : Try.prog.cellsOf 33 = 1 := by kernel_rfl
set_option maxRecDepth 100000 in
theorem clockAll_fn {b : Base} {N : Nat} {vs : List Value} (h0 : 0 < N) (hd : ∀ id l, b id = some l → id < N) (hb : b 0 = none) (hG : ArgsG Try.prog b 4 [76] vs) : Fn Try.prog 14 vs (heapIn b N) fun v _ => v = .bool true := by
  obtain ⟨v, r, rfl, g, hr⟩ := ArgsG_cons hG
  obtain rfl := ArgsG_nil hr
  obtain ⟨a, n, c, l, hv, s, hR, hn, hl⟩ := GV_slice h0 hd hb Try.underlying76 (GA_slice Try.underlying76 g)
  obtain rfl : v = .slice a n c := by simpa using hv
  rw [cells81] at s hR
  refine C14 s fun i hi => ?_
  obtain ⟨cc, hc1, hc2, hc3⟩ := hR.get i hi
  obtain ⟨c1, r1, rfl, l1, g1, c2, r2, rfl, l2, g2, c3, r3, rfl, l3, g3, c4, r4, rfl, l4, g4, rfl⟩ := GV_struct Try.underlying81 hc2
  obtain ⟨k, rfl, hk⟩ := GV_int Try.underlying3 g1
  obtain ⟨id, rfl, hid⟩ := GV_int Try.underlying33 g2
  obtain ⟨tk, rfl, htk⟩ := GV_int Try.underlying33 g3
  obtain ⟨a1, n1, c1', xs, rfl, s1, _, _⟩ := GV_ints h0 hd hb Try.underlying66 Try.underlying33 cells33 g4
  exact ⟨k, id, tk, a1, n1, c1', xs, by rw [hc3 0 (by omega)]; rfl, by rw [hc3 1 (by omega)]; rfl, by rw [hc3 2 (by omega)]; rfl, by rw [hc3 3 (by omega)]; rfl, s1, (wf_u64 htk).1⟩
end Go.Dx.SYtfhdeagbgdnkaaa
