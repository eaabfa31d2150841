/- A deterministic reading of the model's code: parts of an element of several cells. -/
import Derived.Test.YtpkefdoleieloaaCsz36
namespace Go.Dx
set_option linter.unusedVariables false
set_option linter.unusedSimpArgs false
section
variable {α : Type} {enc : α → List Value} {sz : Nat}
theorem win_at (hs : ∀ x,(enc x).length = sz) {vs : List Value} {off n : Nat} {ys : List α} (h : (vs.drop off).take (n * sz) = en enc ys) (hn : ys.length = n) {i r : Nat} (hi : i < ys.length) (hr : r < sz) : vs[off + i * sz + r]? = (enc ys[i])[r]? := by
  rw [← en_at hs ys i r hi hr,← h,List.getElem?_take_of_lt (win_lt (by omega) hr),List.getElem?_drop,Nat.add_assoc]
theorem win_part (hs : ∀ x,(enc x).length = sz) {vs : List Value} {off n : Nat} {ys : List α} (h : (vs.drop off).take (n * sz) = en enc ys) (hn : ys.length = n) (hl : off + n * sz ≤ vs.length) {i r : Nat} {x : α} {l : List Value} (hi : i < ys.length) (hr : r + l.length ≤ sz) (hx : enc x = putL (enc ys[i]) r l) :
    ((putL vs (off + i * sz + r) l).drop off).take (n * sz) = en enc (ys.set i x) := by
  have hb := Nat.mul_le_mul_right sz (show i + 1 ≤ n by omega)
  rw [Nat.add_mul] at hb
  rw [← win_set hs h hn hl hi (x := x)]
  apply List.ext_getElem?
  intro m
  by_cases hm : m < n * sz
  · rw [List.getElem?_take_of_lt hm,List.getElem?_take_of_lt hm,List.getElem?_drop,List.getElem?_drop,Qd _ _ _ _ (by omega),Qd _ _ _ _ (by rw [hs]; omega),hs]
    by_cases h1 : off + i * sz + r ≤ off + m ∧ off + m < off + i * sz + r + l.length
    · rw [if_pos h1,if_pos (by omega),hx,Qd _ _ _ _ (by rw [hs]; omega),if_pos (by omega)]
      congr 1; omega
    · rw [if_neg h1]
      by_cases h2 : off + i * sz ≤ off + m ∧ off + m < off + i * sz + sz
      · rw [if_pos h2,hx,Qd _ _ _ _ (by rw [hs]; omega),if_neg (by omega)]
        rw [show off + m = off + i * sz + (off + m - (off + i * sz)) by omega,win_at hs h hn hi (by omega)]
        congr 1; omega
      · rw [if_neg h2]
  · rw [List.getElem?_eq_none (by simp; omega),List.getElem?_eq_none (by simp; omega)]
end
/-! ### Results that lie in the heap -/
theorem ldV_agg {h : Heap} {id off n ez : Nat} {vs l : List Value} {ro : Bool} (g : At h id (.cells vs ez ro)) (hl : off + n ≤ vs.length) (hv : (vs.drop off).take n = l) : ldV h n true (.pointer (some ⟨id,off,none⟩)) = some (.agg ⟨l⟩) := by
  simp only [ldV,rd_mk g hl,hv,Option.map_some]
theorem res_c {e : Env} {h : Heap} {k id off n ez : Nat} {vs l : List Value} {ro : Bool} (hp : e.get k = some (.pointer (some ⟨id,off,none⟩))) (g : At h id (.cells vs ez ro)) (hl : off + n ≤ vs.length) (hv : (vs.drop off).take n = l) : Res.ev e h (.c k n true) = some (.agg ⟨l⟩) := by
  simp only [Res.ev,hp,ldV_agg g hl hv]
theorem Uf {e : Env} {h : Heap} {r : Res} {rs : List Res} {v : Value} {vs : List Value} (hr : r.ev e h = some v) (hs : Un e h rs = some vs) : Un e h (r :: rs) = some (v :: vs) := by
  simp only [Un,hr,hs]
/-! ### Slices within their own block -/
section
variable {P : Program} {d : Option Nat} {r : List SOp} {e : Env} {h : Heap} {Q : Env → Heap → Prop}
end
end Go.Dx
