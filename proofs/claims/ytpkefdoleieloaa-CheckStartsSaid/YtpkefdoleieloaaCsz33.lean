/- A deterministic reading of the model's code: slices of elements of several cells. -/
import Derived.Test.YtpkefdoleieloaaCsz32
namespace Go.Dx
set_option linter.unusedVariables false
set_option linter.unusedSimpArgs false
section
variable {α : Type} {enc : α → List Value} {sz : Nat}
def en (enc : α → List Value) (xs : List α) : List Value := xs.flatMap enc
theorem en_app (xs ys : List α) : en enc (xs ++ ys) = en enc xs ++ en enc ys := by simp [en]
theorem Vh (hs : ∀ x,(enc x).length = sz) : ∀ xs : List α,(en enc xs).length = xs.length * sz
  | [] => by simp [en]
  | x :: xs => by
    show (enc x ++ en enc xs).length = _
    rw [List.length_append,hs,Vh hs xs,List.length_cons,Nat.add_mul]; omega
theorem en_cell (hc : ∀ x,(enc x).all isCell = true) (xs : List α) : (en enc xs).all isCell = true := by
  rw [List.all_eq_true]
  intro v hv
  obtain ⟨x,hx,hv⟩ := List.mem_flatMap.1 hv
  exact List.all_eq_true.1 (hc x) v hv
theorem en_at (hs : ∀ x,(enc x).length = sz) : ∀ (xs : List α) (j r : Nat) (hj : j < xs.length),r < sz → (en enc xs)[j * sz + r]? = (enc xs[j])[r]?
  | [],j,r,hj,_ => by simp at hj
  | x :: xs,0,r,hj,hr => by
    show (enc x ++ en enc xs)[0 * sz + r]? = (enc x)[r]?
    rw [Nat.zero_mul,Nat.zero_add,List.getElem?_append_left (by rw [hs]; exact hr)]
  | x :: xs,j + 1,r,hj,hr => by
    show (enc x ++ en enc xs)[(j + 1) * sz + r]? = _
    rw [List.getElem?_append_right (by rw [hs,Nat.add_mul]; omega),hs,show (j + 1) * sz + r - sz = j * sz + r by rw [Nat.add_mul]; omega]
    exact en_at hs xs j r (by simpa using hj) hr
theorem en_take (hs : ∀ x,(enc x).length = sz) {xs : List α} {i : Nat} (hi : i ≤ xs.length) : (en enc xs).take (i * sz) = en enc (xs.take i) := by
  conv => lhs; rw [← List.take_append_drop i xs,en_app]
  exact List.take_left' (by rw [Vh hs,List.length_take,Nat.min_eq_left hi])
theorem win_lt {j r n : Nat} (hj : j < n) (hr : r < sz) : j * sz + r < n * sz := by
  have := Nat.mul_le_mul_right sz (show j + 1 ≤ n by omega)
  rw [Nat.add_mul] at this; omega
theorem win_row (hs : ∀ x,(enc x).length = sz) {vs : List Value} {off n : Nat} {ys : List α} (h : (vs.drop off).take (n * sz) = en enc ys) (hn : ys.length = n) {j : Nat} (hj : j < ys.length) : (vs.drop (off + j * sz)).take sz = enc ys[j] := by
  apply List.ext_getElem?
  intro r
  by_cases hr : r < sz
  · rw [List.getElem?_take_of_lt hr,List.getElem?_drop,← en_at hs ys j r hj hr,← h,List.getElem?_take_of_lt (win_lt (by omega) hr),List.getElem?_drop,Nat.add_assoc]
  · rw [List.getElem?_eq_none (by simp; omega),List.getElem?_eq_none (by rw [hs]; omega)]
theorem win_set (hs : ∀ x,(enc x).length = sz) {vs : List Value} {off n : Nat} {ys : List α} (h : (vs.drop off).take (n * sz) = en enc ys) (hn : ys.length = n) (hl : off + n * sz ≤ vs.length) {i : Nat} {x : α} (hi : i < ys.length) :
    ((putL vs (off + i * sz) (enc x)).drop off).take (n * sz) = en enc (ys.set i x) := by
  apply List.ext_getElem?
  intro m
  by_cases hm : m < n * sz
  · have hz : 0 < sz := by
      rcases Nat.eq_zero_or_pos sz with e | e
      · subst e; omega
      · exact e
    obtain ⟨q,r,hr,rfl⟩ : ∃ q r,r < sz ∧ m = q * sz + r := ⟨m / sz,m % sz,Nat.mod_lt _ hz,by rw [Nat.mul_comm]; exact (Nat.div_add_mod m sz).symm⟩
    have hq : q < n := by
      apply Classical.byContradiction
      intro e
      have := Nat.mul_le_mul_right sz (show n ≤ q by omega)
      omega
    have hb := Nat.mul_le_mul_right sz (show i + 1 ≤ n by omega)
    rw [Nat.add_mul] at hb
    rw [List.getElem?_take_of_lt hm,List.getElem?_drop,Qd _ _ _ _ (by rw [hs]; omega),hs,en_at hs _ q r (by simp; omega) hr]
    by_cases hqi : q = i
    · subst hqi
      rw [if_pos (by omega),List.getElem_set_self]; congr 1; omega
    · rw [if_neg ?_,List.getElem_set_ne (by omega),← en_at hs ys q r (by omega) hr,← h,List.getElem?_take_of_lt hm,List.getElem?_drop]
      rcases Nat.lt_or_gt_of_ne hqi with e | e
      · have := Nat.mul_le_mul_right sz (show q + 1 ≤ i by omega)
        rw [Nat.add_mul] at this; omega
      · have := Nat.mul_le_mul_right sz (show i + 1 ≤ q by omega)
        rw [Nat.add_mul] at this; omega
  · rw [List.getElem?_eq_none (by simp; omega),List.getElem?_eq_none (by rw [Vh hs]; simp; rw [hn]; omega)]
theorem Wops_elA {P : Program} {r : List SOp} {e : Env} {h : Heap} {Q : Env → Heap → Prop} {n c t1 : Nat} {d2 : Option Nat} {x i : Arg} {a : Option Addr} {xs : List α} {k : IntKind} {j : Nat} (hs : ∀ x,(enc x).length = sz) (hx : x.ev e = some (.slice a n c)) (hi : i.ev e = some (.int k j)) (s : SlA h sz a n c (en enc xs)) (hn : xs.length = n) (hj : j < xs.length)
    (hq : ∀ p,Xd P r (Env.put (Env.put e (some t1) p) d2 (.agg ⟨enc xs[j]⟩)) h Q) : Xd P (⟨some t1,.none,.iaV sz x i⟩ :: ⟨d2,.none,.ld sz true (.t t1)⟩ :: r) e h Q := by
  refine Gf hx hi s ⟨by omega,by omega⟩ fun id off vs ez ro _ h1 h2 h3 => ?_
  have hb := Nat.mul_le_mul_right sz (show j + 1 ≤ n by omega)
  rw [Nat.add_mul] at hb
  have hw : (vs.drop off).take (n * sz) = en enc xs := by
    apply List.ext_getElem?
    intro m
    by_cases hm : m < n * sz
    · rw [List.getElem?_take_of_lt hm,List.getElem?_drop,h3 m hm]
    · rw [List.getElem?_eq_none (by simp; omega),List.getElem?_eq_none (by rw [Vh hs,hn]; omega)]
  refine Xj (id := id) (off := off + (j : Int).toNat * sz) (l := enc xs[j]) (by simp [Arg.ev,Env.put,Env.get]) h1 ?_ ?_ (hq _)
  · rw [Int.toNat_natCast]; omega
  · rw [Int.toNat_natCast]; exact win_row hs hw hn hj
end
end Go.Dx
