/- ReqOne: its arguments. -/
import Derived.Test.YtkppbmhpcjjceaaRq10
import Derived.Test.YtkppbmhpcjjceaaDx30
namespace Go.Dx.SYtkppbmhpcjjceaa
open Go.Proofs
set_option linter.unusedVariables false

theorem strOf_of (s : ByteArray) : ∃ xs : List Nat, strOf xs = s ∧ ∀ x ∈ xs, x < 256 := by
  obtain ⟨⟨l⟩⟩ := s
  refine ⟨l.map UInt8.toNat, ?_, ?_⟩
  · unfold strOf
    congr 2
    unfold bytesOf
    rw [List.map_map, List.map_map]
    have : ∀ l : List UInt8, l.map ((fun x => UInt8.ofNat x.toNat) ∘ (fun (x : Nat) => (x : Int)) ∘ UInt8.toNat) = l := fun l => by
      induction l with
      | nil => rfl
      | cons b l ih => rw [List.map_cons, ih]; simp
    exact this l
  · intro x hx
    obtain ⟨b, _, rfl⟩ := List.mem_map.1 hx
    exact UInt8.toNat_lt b
theorem cells5 : Try.prog.cellsOf 5 = 1 := by kernel_rfl
set_option maxRecDepth 100000 in
theorem open_req {b : Base} {N : Nat} {v : Value} (h0 : 0 < N) (hd : ∀ id l, b id = some l → id < N) (hb : b 0 = none) (g : GA Try.prog b 4 26 v) :
    ∃ kd r ba bn bc aa an ac, v = .agg ⟨RqI kd r ba bn bc aa an ac⟩ ∧ Inn (heapIn b N) kd r ba bn bc aa an ac ∧ (∀ i, Blk ba i → i < (heapIn b N).next) ∧ (∀ i, Blk aa i → i < (heapIn b N).next) := by
  unfold GA at g
  rw [Try.underlying26] at g
  obtain ⟨cs, rfl, g⟩ := g
  obtain ⟨c1, r1, rfl, l1, f1, c2, r2, rfl, l2, f2, c3, r3, rfl, l3, f3, c4, r4, rfl, l4, f4, c5, r5, rfl, l5, f5, c6, r6, rfl, l6, f6, c7, r7, rfl, l7, f7, c8, r8, rfl, l8, f8, rfl⟩ := GV_struct Try.underlying26 g
  obtain ⟨kd, rfl, hkd⟩ := GV_int Try.underlying3 f1
  obtain ⟨tok, rfl, htok⟩ := GV_int Try.underlying22 f2
  obtain ⟨han, rfl, hhan⟩ := GV_int Try.underlying22 f3
  obtain ⟨s, rfl, hs⟩ := GV_string Try.underlying9 f4
  obtain ⟨ba, bn, bc, xs, rfl, sb, hbn, hxs⟩ := GV_ints h0 hd hb Try.underlying23 Try.underlying5 cells5 f5
  obtain ⟨aa, an, ac, ys, rfl, sa, han', hys⟩ := GV_ints h0 hd hb Try.underlying24 Try.underlying22 cells22 f6
  obtain ⟨tic, rfl, htic⟩ := GV_int Try.underlying22 f7
  obtain ⟨oth, rfl, hoth⟩ := GV_int Try.underlying22 f8
  have w1 := wf_u64 htok
  have w2 := wf_u64 hhan
  have w3 := wf_u64 htic
  have w4 := wf_u64 hoth
  obtain ⟨t, rfl⟩ : ∃ t : Nat, tok = t := ⟨tok.toNat, by omega⟩
  obtain ⟨u, rfl⟩ : ∃ u : Nat, han = u := ⟨han.toNat, by omega⟩
  obtain ⟨c, rfl⟩ : ∃ u : Nat, tic = u := ⟨tic.toNat, by omega⟩
  obtain ⟨o, rfl⟩ : ∃ u : Nat, oth = u := ⟨oth.toNat, by omega⟩
  obtain ⟨nm, rfl, hnm⟩ := strOf_of s
  have s1 := sb.sl
  rw [ints_nat fun x hx => (wf_u8 (hxs x hx)).1] at s1
  have s2 := sa.sl
  rw [ints_nat fun x hx => (wf_u64 (hys x hx)).1] at s2
  have hbb : ∀ v ∈ xs.map Int.toNat, v < 256 := by
    intro v hv
    obtain ⟨x, hx, rfl⟩ := List.mem_map.1 hv
    have := wf_u8 (hxs x hx); omega
  have hab : ∀ v ∈ ys.map Int.toNat, v < M64 := by
    intro v hv
    obtain ⟨x, hx, rfl⟩ := List.mem_map.1 hv
    have := wf_u64 (hys x hx); show x.toNat < 18446744073709551616; omega
  exact ⟨kd, ⟨kd.toNat, t, u, nm, xs.map Int.toNat, ys.map Int.toNat, c, o⟩, ba, bn, bc, aa, an, ac, rfl, ⟨rfl, by show t < 18446744073709551616; omega, by show u < 18446744073709551616; omega, hnm, hbb, hab, by show c < 18446744073709551616; omega, by show o < 18446744073709551616; omega, s1, s2⟩, sb.lt, sa.lt⟩
set_option maxRecDepth 100000 in
theorem reqOne_fn {b : Base} {N : Nat} {vs : List Value} (h0 : 0 < N) (hd : ∀ id l, b id = some l → id < N) (hb : b 0 = none) (hG : ArgsG Try.prog b 4 [26, 26] vs) : Fn Try.prog 7 vs (heapIn b N) fun v _ => v = .bool true := by
  obtain ⟨v, r, rfl, g, hr⟩ := ArgsG_cons hG
  obtain ⟨v2, r2, rfl, g2, hr2⟩ := ArgsG_cons hr
  obtain rfl := ArgsG_nil hr2
  obtain ⟨kd, r, ba, bn, bc, aa, an, ac, rfl, I, _⟩ := open_req h0 hd hb g
  obtain ⟨kd', q, ba', bn', bc', aa', an', ac', rfl, J, _⟩ := open_req h0 hd hb g2
  exact C7 I J
end Go.Dx.SYtkppbmhpcjjceaa
