/- LockAll: its arguments. -/
import Derived.Test.YtocdemagjocggaaLk6
import Derived.Test.YtocdemagjocggaaDx30
namespace Go.Dx.SYtocdemagjocggaa
open Go.Proofs
theorem cells60 : Try.prog.cellsOf 60 = 2 := by kernel_rfl
theorem cells3 : Try.prog.cellsOf 3 = 1 := by kernel_rfl
theorem cells40 : Try.prog.cellsOf 40 = 1 := by kernel_rfl
theorem cells43 : Try.prog.cellsOf 43 = 1 := by kernel_rfl
set_option maxRecDepth 100000 in
theorem lockAll_fn {b : Base} {N : Nat} {vs : List Value} (h0 : 0 < N) (hd : ∀ id l, b id = some l → id < N) (hb : b 0 = none) (hG : ArgsG Try.prog b 4 [55] vs) : Fn Try.prog 10 vs (heapIn b N) fun v _ => v = .bool true := by
  obtain ⟨v, r, rfl, g, hr⟩ := ArgsG_cons hG
  obtain rfl := ArgsG_nil hr
  obtain ⟨a, n, c, l, hv, s, hR, hn, hl⟩ := GV_slice h0 hd hb Try.underlying55 (GA_slice Try.underlying55 g)
  obtain rfl : v = .slice a n c := by simpa using hv
  rw [cells60] at s hR
  refine C10 s hl fun i hi => ?_
  obtain ⟨cc, hc1, hc2, hc3⟩ := hR.get i hi
  obtain ⟨c1, r1, rfl, l1, g1, c2, r2, rfl, l2, g2, rfl⟩ := GV_struct Try.underlying60 hc2
  obtain ⟨k, rfl, hk⟩ := GV_int Try.underlying3 g1
  obtain ⟨a1, n1, c1', xs, rfl, s1, _, _⟩ := GV_ints h0 hd hb Try.underlying40 Try.underlying43 cells43 g2
  exact ⟨k, a1, n1, c1', xs, by rw [hc3 0 (by omega)]; rfl, by rw [hc3 1 (by omega)]; rfl, s1⟩
end Go.Dx.SYtocdemagjocggaa
