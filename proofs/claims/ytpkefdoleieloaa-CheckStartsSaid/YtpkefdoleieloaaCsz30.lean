/- A deterministic reading of the model's code: arguments of slices within slices, and structs. -/
import Derived.Test.YtpkefdoleieloaaCsz29
namespace Go.Dx
set_option linter.unusedVariables false
set_option linter.unusedSimpArgs false
section
variable {P : Program} {b : Qw} {N d : Nat} {t e : TypeId} {cs : List Value}
end
end Go.Dx
namespace Go.Dx
set_option linter.unusedVariables false
set_option linter.unusedSimpArgs false
section
variable {P : Program} {d : Option Nat} {r : List SOp} {e : Env} {h : Heap} {Q : Env → Heap → Prop}
theorem Ge {x y : Arg} {k : IntKind} {a b : Int} (hx : x.ev e = some (.int k a)) (hy : y.ev e = some (.int k b)) (hb : b ≠ 0) (hq : Xd P r (e.put d (.int k (a.tmod b))) h Q) : Xd P (⟨d,none,.bin .rem x y⟩ :: r) e h Q := by
  refine Wa (v := .int k (a.tmod b)) (h' := h) rfl ?_ hq
  have hv : binV .rem (.int k a) (.int k b) = some (.int k (a.tmod b)) := by simp [binV,intV,hb]
  simp only [SO.run,hx,hy,hv,Option.map_some]
theorem Wops_idxG {n c t1 : Nat} {g : Nat × Bool} {d2 : Option Nat} {x i : Arg} {a : Option Addr} {l : List Value} {k : IntKind} {j : Int} {u : Value} (hx : x.ev e = some (.slice a n c)) (hi : i.ev e = some (.int k j)) (s : SlA h 1 a n c l) (hj : 0 ≤ j ∧ j < n) (hu : l[j.toNat]? = some u)
    (hg : ∀ p,SOp.wanted ⟨d2,some g,.ld 1 false (.t t1)⟩ (Env.put e (some t1) p) = some true)
    (hq : ∀ p,Xd P r (Env.put (Env.put e (some t1) p) d2 u) h Q) : Xd P (⟨some t1,.none,.iaV 1 x i⟩ :: ⟨d2,some g,.ld 1 false (.t t1)⟩ :: r) e h Q := by
  refine Gf hx hi s hj fun id off vs ez ro _ h1 h2 h3 => ?_
  refine Wh (hg _) ?_
  refine We (v := u) (off := off + j.toNat * 1) (id := id) (by simp [Arg.ev,Env.put,Env.get]) h1 ?_ (hq _)
  rw [Nat.mul_one,h3 _ (by omega)]; exact hu
end
end Go.Dx
