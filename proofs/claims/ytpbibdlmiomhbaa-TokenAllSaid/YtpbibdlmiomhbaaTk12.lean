/- TokenAll: its arguments. -/
import Derived.Test.YtpbibdlmiomhbaaTk11
import Derived.Test.YtpbibdlmiomhbaaDx30
namespace Go.Dx.SYtpbibdlmiomhbaa
open Go.Proofs
theorem cells83 : Try.prog.cellsOf 83 = 3 := by kernel_rfl
set_option maxRecDepth 100000 in
theorem tokenAll_fn {b : Base} {N : Nat} {vs : List Value} (h0 : 0 < N) (hd : ∀ id l, b id = some l → id < N) (hb : b 0 = none) (hG : ArgsG Try.prog b 4 [77] vs) : Fn Try.prog 14 vs (heapIn b N) fun v _ => v = .bool true := by
  obtain ⟨v, r, rfl, g, hr⟩ := ArgsG_cons hG
  obtain rfl := ArgsG_nil hr
  obtain ⟨a, n, c, l, hv, s, hR, hn, hl⟩ := GV_slice h0 hd hb Try.underlying77 (GA_slice Try.underlying77 g)
  obtain rfl : v = .slice a n c := by simpa using hv
  rw [cells83] at s hR
  refine C14 s hl fun i hi => ?_
  obtain ⟨cc, hc1, hc2, hc3⟩ := hR.get i hi
  obtain ⟨c1, r1, rfl, l1, g1, c2, r2, rfl, l2, g2, c3, r3, rfl, l3, g3, rfl⟩ := GV_struct Try.underlying83 hc2
  obtain ⟨k, rfl, hk⟩ := GV_int Try.underlying3 g1
  obtain ⟨t, rfl, ht⟩ := GV_int Try.underlying47 g2
  obtain ⟨m, rfl, hm⟩ := GV_int Try.underlying5 g3
  refine ⟨k, t, m, (wf_i64 hk).1, (wf_i64 hk).2, (wf_u8 hm).1, (wf_u8 hm).2, ?_⟩
  apply List.ext_getElem?
  intro j
  by_cases hj : j < 3
  · rw [List.getElem?_take_of_lt hj, List.getElem?_drop, hc3 j hj]; rfl
  · rw [List.getElem?_eq_none (by simp; omega), List.getElem?_eq_none (by simp; omega)]
end Go.Dx.SYtpbibdlmiomhbaa
