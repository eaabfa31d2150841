/- A deterministic reading of the model's code: slices of elements of several cells. -/
import Derived.Test.YtpkefdoleieloaaDx32
namespace Go.Dx
set_option linter.unusedVariables false
set_option linter.unusedSimpArgs false

section
variable {α : Type} {enc : α → List Value} {sz : Nat}
/-- The cells of elements. -/
def en (enc : α → List Value) (xs : List α) : List Value := xs.flatMap enc
theorem en_app (xs ys : List α) : en enc (xs ++ ys) = en enc xs ++ en enc ys := by simp [en]
theorem en_length (hs : ∀ x, (enc x).length = sz) : ∀ xs : List α, (en enc xs).length = xs.length * sz
  | [] => by simp [en]
  | x :: xs => by
    show (enc x ++ en enc xs).length = _
    rw [List.length_append, hs, en_length hs xs, List.length_cons, Nat.add_mul]; omega
theorem en_cell (hc : ∀ x, (enc x).all isCell = true) (xs : List α) : (en enc xs).all isCell = true := by
  rw [List.all_eq_true]
  intro v hv
  obtain ⟨x, hx, hv⟩ := List.mem_flatMap.1 hv
  exact List.all_eq_true.1 (hc x) v hv
theorem en_at (hs : ∀ x, (enc x).length = sz) : ∀ (xs : List α) (j r : Nat) (hj : j < xs.length), r < sz → (en enc xs)[j * sz + r]? = (enc xs[j])[r]?
  | [], j, r, hj, _ => by simp at hj
  | x :: xs, 0, r, hj, hr => by
    show (enc x ++ en enc xs)[0 * sz + r]? = (enc x)[r]?
    rw [Nat.zero_mul, Nat.zero_add, List.getElem?_append_left (by rw [hs]; exact hr)]
  | x :: xs, j + 1, r, hj, hr => by
    show (enc x ++ en enc xs)[(j + 1) * sz + r]? = _
    rw [List.getElem?_append_right (by rw [hs, Nat.add_mul]; omega), hs, show (j + 1) * sz + r - sz = j * sz + r by rw [Nat.add_mul]; omega]
    exact en_at hs xs j r (by simpa using hj) hr
theorem en_take (hs : ∀ x, (enc x).length = sz) {xs : List α} {i : Nat} (hi : i ≤ xs.length) : (en enc xs).take (i * sz) = en enc (xs.take i) := by
  conv => lhs; rw [← List.take_append_drop i xs, en_app]
  exact List.take_left' (by rw [en_length hs, List.length_take, Nat.min_eq_left hi])
theorem win_lt {j r n : Nat} (hj : j < n) (hr : r < sz) : j * sz + r < n * sz := by
  have := Nat.mul_le_mul_right sz (show j + 1 ≤ n by omega)
  rw [Nat.add_mul] at this; omega
theorem win_row (hs : ∀ x, (enc x).length = sz) {vs : List Value} {off n : Nat} {ys : List α} (h : (vs.drop off).take (n * sz) = en enc ys) (hn : ys.length = n) {j : Nat} (hj : j < ys.length) : (vs.drop (off + j * sz)).take sz = enc ys[j] := by
  apply List.ext_getElem?
  intro r
  by_cases hr : r < sz
  · rw [List.getElem?_take_of_lt hr, List.getElem?_drop, ← en_at hs ys j r hj hr, ← h, List.getElem?_take_of_lt (win_lt (by omega) hr), List.getElem?_drop, Nat.add_assoc]
  · rw [List.getElem?_eq_none (by simp; omega), List.getElem?_eq_none (by rw [hs]; omega)]
theorem win_set (hs : ∀ x, (enc x).length = sz) {vs : List Value} {off n : Nat} {ys : List α} (h : (vs.drop off).take (n * sz) = en enc ys) (hn : ys.length = n) (hl : off + n * sz ≤ vs.length) {i : Nat} {x : α} (hi : i < ys.length) :
    ((putL vs (off + i * sz) (enc x)).drop off).take (n * sz) = en enc (ys.set i x) := by
  apply List.ext_getElem?
  intro m
  by_cases hm : m < n * sz
  · have hz : 0 < sz := by
      rcases Nat.eq_zero_or_pos sz with e | e
      · subst e; omega
      · exact e
    obtain ⟨q, r, hr, rfl⟩ : ∃ q r, r < sz ∧ m = q * sz + r := ⟨m / sz, m % sz, Nat.mod_lt _ hz, by rw [Nat.mul_comm]; exact (Nat.div_add_mod m sz).symm⟩
    have hq : q < n := by
      apply Classical.byContradiction
      intro e
      have := Nat.mul_le_mul_right sz (show n ≤ q by omega)
      omega
    have hb := Nat.mul_le_mul_right sz (show i + 1 ≤ n by omega)
    rw [Nat.add_mul] at hb
    rw [List.getElem?_take_of_lt hm, List.getElem?_drop, putL_get _ _ _ _ (by rw [hs]; omega), hs, en_at hs _ q r (by simp; omega) hr]
    by_cases hqi : q = i
    · subst hqi
      rw [if_pos (by omega), List.getElem_set_self]; congr 1; omega
    · rw [if_neg ?_, List.getElem_set_ne (by omega), ← en_at hs ys q r (by omega) hr, ← h, List.getElem?_take_of_lt hm, List.getElem?_drop]
      rcases Nat.lt_or_gt_of_ne hqi with e | e
      · have := Nat.mul_le_mul_right sz (show q + 1 ≤ i by omega)
        rw [Nat.add_mul] at this; omega
      · have := Nat.mul_le_mul_right sz (show i + 1 ≤ q by omega)
        rw [Nat.add_mul] at this; omega
  · rw [List.getElem?_eq_none (by simp; omega), List.getElem?_eq_none (by rw [en_length hs]; simp; rw [hn]; omega)]

/-- x[i], all its cells. -/
theorem Wops_elA {P : Program} {r : List SOp} {e : Env} {h : Heap} {Q : Env → Heap → Prop} {n c t1 : Nat} {d2 : Option Nat} {x i : Arg} {a : Option Addr} {xs : List α} {k : IntKind} {j : Nat} (hs : ∀ x, (enc x).length = sz) (hx : x.ev e = some (.slice a n c)) (hi : i.ev e = some (.int k j)) (s : SlA h sz a n c (en enc xs)) (hn : xs.length = n) (hj : j < xs.length)
    (hq : ∀ p, Wops P r (Env.put (Env.put e (some t1) p) d2 (.agg ⟨enc xs[j]⟩)) h Q) : Wops P (⟨some t1, .none, .iaV sz x i⟩ :: ⟨d2, .none, .ld sz true (.t t1)⟩ :: r) e h Q := by
  refine Wops_iaS hx hi s ⟨by omega, by omega⟩ fun id off vs ez ro _ h1 h2 h3 => ?_
  have hb := Nat.mul_le_mul_right sz (show j + 1 ≤ n by omega)
  rw [Nat.add_mul] at hb
  have hw : (vs.drop off).take (n * sz) = en enc xs := by
    apply List.ext_getElem?
    intro m
    by_cases hm : m < n * sz
    · rw [List.getElem?_take_of_lt hm, List.getElem?_drop, h3 m hm]
    · rw [List.getElem?_eq_none (by simp; omega), List.getElem?_eq_none (by rw [en_length hs, hn]; omega)]
  refine Wops_ldA (id := id) (off := off + (j : Int).toNat * sz) (l := enc xs[j]) (by simp [Arg.ev, Env.put, Env.get]) h1 ?_ ?_ (hq _)
  · rw [Int.toNat_natCast]; omega
  · rw [Int.toNat_natCast]; exact win_row hs hw hn hj

/-- The first that fits. -/
def ixG (p : α → Bool) (xs : List α) : Int := if xs.findIdx p < xs.length then xs.findIdx p else -1
theorem ixG_at {p : α → Bool} {xs : List α} {i : Nat} (hi : i < xs.length) (hp : p xs[i] = true) (hall : ∀ j (hj : j < i) (hl : j < xs.length), p xs[j] = false) : ixG p xs = i := by
  have : xs.findIdx p = i := (List.findIdx_eq hi).2 ⟨hp, fun j hj => hall j hj (by omega)⟩
  unfold ixG; rw [this, if_pos hi]
theorem ixG_none {p : α → Bool} {xs : List α} (hall : ∀ j (hl : j < xs.length), p xs[j] = false) : ixG p xs = -1 := by
  have : xs.findIdx p = xs.length := List.findIdx_eq_length.2 fun x hx => by
    obtain ⟨j, hj, rfl⟩ := List.getElem_of_mem hx
    exact hall j hj
  unfold ixG; rw [this, if_neg (by omega)]
theorem ixG_cases (p : α → Bool) (xs : List α) : (ixG p xs = -1 ∧ ∀ x ∈ xs, p x = false) ∨ ∃ (i : Nat) (hi : i < xs.length), ixG p xs = i ∧ p xs[i] = true ∧ ∀ j (hj : j < i), p (xs[j]'(by omega)) = false := by
  by_cases h : xs.findIdx p < xs.length
  · refine .inr ⟨xs.findIdx p, h, by unfold ixG; rw [if_pos h], List.findIdx_getElem, fun j hj => ?_⟩
    simpa using List.not_of_lt_findIdx hj
  · have h2 : xs.findIdx p = xs.length := by have := @List.findIdx_le_length _ p xs; omega
    refine .inl ⟨by unfold ixG; rw [if_neg h], fun x hx => ?_⟩
    exact List.findIdx_eq_length.1 h2 x hx
theorem ixG_ge {p : α → Bool} {xs : List α} : ixG p xs ≥ 0 ↔ xs.any p = true := by
  rw [List.any_eq_true]
  rcases ixG_cases p xs with ⟨h, hall⟩ | ⟨i, hi, h, hp, _⟩
  · exact ⟨fun q => by omega, fun ⟨x, hx, q⟩ => by rw [hall x hx] at q; cases q⟩
  · exact ⟨fun _ => ⟨_, List.getElem_mem hi, hp⟩, fun _ => by omega⟩
end
end Go.Dx
