/- A deterministic reading of the model's code: arguments of slices within slices, and structs. -/
import Derived.Test.YtpkefdoleieloaaDx29
namespace Go.Dx
set_option linter.unusedVariables false
set_option linter.unusedSimpArgs false

section
variable {P : Program} {b : Base} {N d : Nat} {t e : TypeId} {cs : List Value}

theorem Rows.get {G : List Value → Prop} {sz : Nat} : ∀ {n : Nat} {l : List Value}, Rows G sz n l → ∀ i, i < n → ∃ c, c.length = sz ∧ G c ∧ ∀ j, j < sz → l[i * sz + j]? = c[j]?
  | _, _, .nil, i, hi => by omega
  | _, _, .cons c l n h1 h2 h3, 0, hi => ⟨c, h1, h2, fun j hj => by rw [Nat.zero_mul, Nat.zero_add, List.getElem?_append_left (by omega)]⟩
  | _, _, .cons c l n h1 h2 h3, i + 1, hi => by
    obtain ⟨c', q1, q2, q3⟩ := h3.get i (by omega)
    refine ⟨c', q1, q2, fun j hj => ?_⟩
    rw [← q3 j hj, List.getElem?_append_right (by rw [h1, Nat.add_mul]; omega)]
    congr 1
    rw [h1, Nat.add_mul]; omega

theorem heapIn_at {id : Nat} {l : List Value} (h : b id = some l) (hN : id < N) : At (heapIn b N) id (.cells l 0 true) := by
  show Heap.get _ _ = _
  unfold Heap.get heapIn
  have h1 : id.blt N = true := by rw [blt_iff]; simp [hN]
  simp only [h1, cond_true, h, Option.map_some]

/-- A slice's argument: what it holds. -/
theorem GV_slice (h0 : 0 < N) (hd : ∀ id l, b id = some l → id < N) (hb0 : b 0 = none) (ht : P.underlying t = some (.slice e)) (h : GV P b (d + 1) t cs) :
    ∃ a n c l, cs = [.slice a n c] ∧ SlA (heapIn b N) (P.cellsOf e) a n c l ∧ Rows (fun c => GV P b d e c) (P.cellsOf e) n l ∧ n ≤ maxLen ∧ ∀ i, Blk a i → i < (heapIn b N).next := by
  unfold GV at h
  rw [ht] at h
  rcases h with rfl | rfl | ⟨id, l, n, rfl, hb, hn, hR⟩
  · exact ⟨none, 0, 0, [], rfl, SlA.none, .nil, Nat.zero_le _, fun i q => absurd q Blk.none⟩
  · refine ⟨some ⟨0, 0, none⟩, 0, 0, [], rfl, ⟨by simp, fun q => (by cases q), fun p q => (by cases q; rfl), rfl, fun p q => .inl rfl⟩, .nil, Nat.zero_le _, fun i q => ?_⟩
    rw [Blk.at] at q; subst q; exact h0
  · have g := heapIn_at (N := N) hb (hd _ _ hb)
    have s := SlA.mk' (n := n) (c := 1) (sz := P.cellsOf e) (off := 0) g (by rw [hR.length]; omega) (.inl rfl)
    rw [List.drop_zero, List.take_of_length_le (by rw [hR.length]; omega)] at s
    refine ⟨some ⟨id, 0, none⟩, n, 1, l, rfl, s, hR, hn, fun i q => ?_⟩
    rw [Blk.at] at q; subst q; exact g.lt

theorem GV_int {k : IntKind} (ht : P.underlying t = some (.int k)) (h : GV P b d t cs) : ∃ n, cs = [.int k n] ∧ (Lit.int k n).wf = true := by
  cases d with
  | zero => exact h.elim
  | succ d => unfold GV at h; rw [ht] at h; exact h
theorem GV_bool (ht : P.underlying t = some .bool) (h : GV P b d t cs) : ∃ x, cs = [.bool x] := by
  cases d with
  | zero => exact h.elim
  | succ d => unfold GV at h; rw [ht] at h; exact h
theorem GV_string (ht : P.underlying t = some .string) (h : GV P b d t cs) : ∃ s, cs = [.string s] ∧ s.size ≤ maxLen := by
  cases d with
  | zero => exact h.elim
  | succ d => unfold GV at h; rw [ht] at h; exact h
theorem GV_struct {fs : Array Field} (ht : P.underlying t = some (.struct fs)) (h : GV P b (d + 1) t cs) : FieldsG (fun t c => GV P b d t c) P.cellsOf fs.toList cs := by
  unfold GV at h; rw [ht] at h; exact h

/-- Rows of one number each. -/
theorem Rows_ints {k : IntKind} (ht : P.underlying e = some (.int k)) {sz : Nat} : ∀ {n : Nat} {l : List Value}, Rows (fun c => GV P b d e c) sz n l → ∃ xs : List Int, l = xs.map (.int k) ∧ ∀ x ∈ xs, (Lit.int k x).wf = true
  | _, _, .nil => ⟨[], rfl, fun x h => by cases h⟩
  | _, _, .cons c l n h1 h2 h3 => by
    obtain ⟨x, rfl, hw⟩ := GV_int ht h2
    obtain ⟨xs, rfl, hxs⟩ := Rows_ints ht h3
    exact ⟨x :: xs, rfl, fun y hy => by rcases List.mem_cons.1 hy with rfl | hy; exact hw; exact hxs y hy⟩

/-- A slice of numbers as an argument. -/
theorem GV_ints {k : IntKind} (h0 : 0 < N) (hd : ∀ id l, b id = some l → id < N) (hb0 : b 0 = none) (ht : P.underlying t = some (.slice e)) (he : P.underlying e = some (.int k)) (hc : P.cellsOf e = 1) (h : GV P b (d + 1) t cs) :
    ∃ (a : Option Addr) (n c : Nat) (xs : List Int), cs = [.slice a n c] ∧ InS (heapIn b N) a n c (xs.map (.int k)) ∧ n ≤ maxLen ∧ ∀ x ∈ xs, (Lit.int k x).wf = true := by
  obtain ⟨a, n, c, l, rfl, s, hR, hn, hl⟩ := GV_slice h0 hd hb0 ht h
  obtain ⟨xs, rfl, hw⟩ := Rows_ints he hR
  rw [hc] at s
  exact ⟨a, n, c, xs, rfl, ⟨s, hl⟩, hn, hw⟩

theorem ArgsG_cons {ts : List TypeId} {vs : List Value} (h : ArgsG P b d (t :: ts) vs) : ∃ v r, vs = v :: r ∧ GA P b d t v ∧ ArgsG P b d ts r := h
theorem ArgsG_nil {vs : List Value} (h : ArgsG P b d [] vs) : vs = [] := h
theorem GA_slice {v : Value} (ht : P.underlying t = some (.slice e)) (h : GA P b d t v) : GV P b d t [v] := by unfold GA at h; rw [ht] at h; exact h
theorem GA_int {k : IntKind} {v : Value} (ht : P.underlying t = some (.int k)) (h : GA P b d t v) : GV P b d t [v] := by unfold GA at h; rw [ht] at h; exact h
theorem GA_bool {v : Value} (ht : P.underlying t = some .bool) (h : GA P b d t v) : GV P b d t [v] := by unfold GA at h; rw [ht] at h; exact h
theorem GA_string {v : Value} (ht : P.underlying t = some .string) (h : GA P b d t v) : GV P b d t [v] := by unfold GA at h; rw [ht] at h; exact h
theorem GA_struct {fs : Array Field} {v : Value} (ht : P.underlying t = some (.struct fs)) (h : GA P b d t v) : ∃ cs, v = .agg ⟨cs⟩ ∧ GV P b d t cs := by unfold GA at h; rw [ht] at h; exact h
end
end Go.Dx
namespace Go.Dx
section
variable {P : Program} {d : Option Nat} {r : List SOp} {e : Env} {h : Heap} {Q : Env → Heap → Prop}
theorem Wops_rem {x y : Arg} {k : IntKind} {a b : Int} (hx : x.ev e = some (.int k a)) (hy : y.ev e = some (.int k b)) (hb : b ≠ 0) (hq : Wops P r (e.put d (.int k (a.tmod b))) h Q) : Wops P (⟨d, none, .bin .rem x y⟩ :: r) e h Q := by
  refine Wops_run (v := .int k (a.tmod b)) (h' := h) rfl ?_ hq
  have hv : binV .rem (.int k a) (.int k b) = some (.int k (a.tmod b)) := by simp [binV, intV, hb]
  simp only [SO.run, hx, hy, hv, Option.map_some]
/-- x[i] under a guard, of elements of one cell. -/
theorem Wops_idxG {n c t1 : Nat} {g : Nat × Bool} {d2 : Option Nat} {x i : Arg} {a : Option Addr} {l : List Value} {k : IntKind} {j : Int} {u : Value} (hx : x.ev e = some (.slice a n c)) (hi : i.ev e = some (.int k j)) (s : SlA h 1 a n c l) (hj : 0 ≤ j ∧ j < n) (hu : l[j.toNat]? = some u)
    (hg : ∀ p, SOp.wanted ⟨d2, some g, .ld 1 false (.t t1)⟩ (Env.put e (some t1) p) = some true)
    (hq : ∀ p, Wops P r (Env.put (Env.put e (some t1) p) d2 u) h Q) : Wops P (⟨some t1, .none, .iaV 1 x i⟩ :: ⟨d2, some g, .ld 1 false (.t t1)⟩ :: r) e h Q := by
  refine Wops_iaS hx hi s hj fun id off vs ez ro _ h1 h2 h3 => ?_
  refine Wops_go (hg _) ?_
  refine Wops_ld (v := u) (off := off + j.toNat * 1) (id := id) (by simp [Arg.ev, Env.put, Env.get]) h1 ?_ (hq _)
  rw [Nat.mul_one, h3 _ (by omega)]; exact hu
end
end Go.Dx
