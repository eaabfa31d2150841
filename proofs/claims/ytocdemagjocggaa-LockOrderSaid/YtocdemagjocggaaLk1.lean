/- Contracts of functions on slices of numbers (Index, Contains, IndexFunc, DeleteFunc, Clone). -/
import Derived.Test.YtocdemagjocggaaDxLT
import Derived.Test.YtocdemagjocggaaDx29
namespace Go.Dx.SYtocdemagjocggaa
open Go.Proofs
set_option linter.unusedVariables false
set_option linter.unusedSimpArgs false

abbrev us (xs : List Int) : List Value := xs.map (Value.int .u64)
def ixF (p : Int → Bool) (xs : List Int) : Int := if xs.findIdx p < xs.length then xs.findIdx p else -1

theorem ixF_at {p : Int → Bool} {xs : List Int} {i : Nat} (hi : i < xs.length) (hp : p xs[i] = true) (hall : ∀ j (hj : j < i) (hl : j < xs.length), p xs[j] = false) : ixF p xs = i := by
  have : xs.findIdx p = i := (List.findIdx_eq hi).2 ⟨hp, fun j hj => hall j hj (by omega)⟩
  unfold ixF; rw [this, if_pos hi]
theorem ixF_none {p : Int → Bool} {xs : List Int} (hall : ∀ j (hl : j < xs.length), p xs[j] = false) : ixF p xs = -1 := by
  have : xs.findIdx p = xs.length := List.findIdx_eq_length.2 fun x hx => by
    obtain ⟨j, hj, rfl⟩ := List.getElem_of_mem hx
    exact hall j hj
  unfold ixF; rw [this, if_neg (by omega)]

/-- slices.Index -/
theorem C70 {h : Heap} {a : Option Addr} {n c : Nat} {xs : List Int} {x : Int} (s : SlA h 1 a n c (us xs)) (hb : n ≤ 1099511627776) :
    Fn Try.prog 70 [.slice a n c, .int .u64 x] h fun v h' => v = .int .i64 (ixF (x == ·) xs) ∧ h = h' := by
  have hn : xs.length = n := by simpa using s.len
  refine fnK F70.fok rfl ?_
  refine K_reg (Wops_run rfl rfl (K_fin [(0, _), (1, _)] rfl ?_))
  refine K_ss (K_reg (Wops_run rfl rfl (Wops_run rfl rfl (Wops_run rfl rfl (K_fin [(0, _), (1, _), (7, _), (8, _)] rfl ?_)))))
  refine K_sblock ?_
  refine K_loop (fun k e h' => ∃ i : Nat, e = [(0, .slice a n c), (1, .int .u64 x), (7, .int .i64 n), (8, .int .i64 i)] ∧ h = h' ∧ i ≤ n ∧ k = n - i ∧ ∀ j (hj : j < i) (hl : j < xs.length), (x == xs[j]) = false) ?_ ⟨0, rfl, rfl, by omega, rfl, fun j hj => by omega⟩
  rintro k e h' ⟨i, rfl, rfl, hi, rfl, hall⟩
  refine K_reg (Wops_run rfl rfl (K_fin [(0, _), (1, _), (7, _), (8, _), (9, _)] rfl ?_))
  refine K_scond rfl (fun hc => ?_) (fun hc => ?_)
  · have hlt : i < n := by have := of_decide_eq_true hc; omega
    refine K_sskip (K_sblock (K_reg (Wops_run rfl rfl (Wops_run rfl rfl (K_fin [(0, _), (1, _), (5, _), (7, _), (8, _)] rfl ?_)))))
    refine K_reg (Wops_run rfl rfl (Wops_run rfl rfl (Wops_run rfl rfl ?_)))
    refine Wops_idx (u := .int .u64 xs[i]) rfl rfl s ⟨by omega, by omega⟩ (by simp [hn, hlt]) fun p => ?_
    refine Wops_run rfl rfl (K_fin [(0, _), (1, _), (5, _), (7, _), (8, _), (16, _)] rfl ?_)
    refine K_cond rfl (fun hd => ?_) (fun hd => ?_)
    · refine K_reg (Wops_run rfl rfl (Wops_run rfl rfl (K_fin [(4, _)] rfl ?_)))
      refine K_ret (Told.mk _ rfl (show _ ∧ _ from ⟨?_, rfl⟩))
      rw [ixF_at (by omega) hd hall]; rfl
    · refine K_skip (K_last (Wops_run rfl rfl (Wops_run rfl rfl (K_finL [(0, _), (1, _), (7, _), (8, _)] rfl ?_))))
      refine ⟨n - (i + 1), by omega, i + 1, by rw [w64s (by omega)], rfl, by omega, rfl, fun j hj hl => ?_⟩
      by_cases hji : j = i
      · subst hji; exact hd
      · exact hall j (by omega) hl
  · have hin : i = n := by have := of_decide_eq_false hc; omega
    refine K_sexit (bx_same ?_)
    refine K_reg (Wops_run rfl rfl (K_fin [(4, _)] rfl ?_))
    refine K_ret (Told.mk _ rfl (show _ ∧ _ from ⟨?_, rfl⟩))
    rw [ixF_none (fun j hj => hall j (by omega) hj)]; rfl

theorem ixF_cases (p : Int → Bool) (xs : List Int) : (ixF p xs = -1 ∧ ∀ x ∈ xs, p x = false) ∨ ∃ (i : Nat) (hi : i < xs.length), ixF p xs = i ∧ p xs[i] = true ∧ ∀ j (hj : j < i), p (xs[j]'(by omega)) = false := by
  by_cases h : xs.findIdx p < xs.length
  · refine .inr ⟨xs.findIdx p, h, by unfold ixF; rw [if_pos h], List.findIdx_getElem, fun j hj => ?_⟩
    simpa using List.not_of_lt_findIdx hj
  · have h2 : xs.findIdx p = xs.length := by have := @List.findIdx_le_length _ p xs; omega
    refine .inl ⟨by unfold ixF; rw [if_neg h], fun x hx => ?_⟩
    exact List.findIdx_eq_length.1 h2 x hx
theorem ixF_lt {p : Int → Bool} {xs : List Int} : ixF p xs < 0 ↔ ∀ x ∈ xs, p x = false := by
  rcases ixF_cases p xs with ⟨h, hall⟩ | ⟨i, hi, h, hp, _⟩
  · exact ⟨fun _ => hall, fun _ => by omega⟩
  · exact ⟨fun q => by omega, fun q => by have := q _ (List.getElem_mem hi); rw [hp] at this; cases this⟩

/-- slices.Contains -/
theorem C52 {h : Heap} {a : Option Addr} {n c : Nat} {xs : List Int} {x : Int} (s : SlA h 1 a n c (us xs)) (hb : n ≤ 1099511627776) :
    Fn Try.prog 52 [.slice a n c, .int .u64 x] h fun v h' => v = .bool (decide (x ∈ xs)) ∧ h = h' := by
  refine fnK F52.fok rfl ?_
  refine K_reg (Wops_run rfl rfl (K_fin [(0, _), (1, _)] rfl (?_)))
  refine K_reg (Wops_run rfl rfl (Wops_run rfl rfl (Wops_call rfl (C70 s hb) ?_)))
  rintro _ _ ⟨rfl, rfl⟩
  refine Wops_run rfl rfl (Wops_run rfl rfl (K_fin [(4, _)] rfl (?_)))
  refine K_ret (Told.mk _ rfl (show _ ∧ _ from ⟨?_, rfl⟩))
  show Value.bool (decide (ixF (x == ·) xs ≥ 0)) = _
  congr 1
  apply decide_eq_decide.2
  have := @ixF_lt (x == ·) xs
  constructor
  · intro q
    apply Classical.byContradiction
    intro hx
    have := this.2 fun y hy => by
      by_cases e : x = y
      · subst e; exact absurd hy hx
      · simp [e]
    omega
  · intro hx
    apply Classical.byContradiction
    intro q
    have := this.1 (by omega) x hx
    simp at this

/-- slices.IndexFunc -/
theorem C71 {h : Heap} {a : Option Addr} {n c k : Nat} {ca : List Value} {xs : List Int} {p : Int → Bool} (s : SlA h 1 a n c (us xs)) (hb : n ≤ 1099511627776) (hF : ∀ x ∈ xs, Fn Try.prog k (.int .u64 x :: ca) h fun v h' => v = .bool (p x) ∧ h = h') :
    Fn Try.prog 71 [.slice a n c, .func (.func k) ⟨[]⟩ ⟨ca⟩] h fun v h' => v = .int .i64 (ixF p xs) ∧ h = h' := by
  have hn : xs.length = n := by simpa using s.len
  refine fnK F71.fok rfl ?_
  refine K_reg (Wops_run rfl rfl (K_fin [(0, _), (1, _)] rfl ?_))
  refine K_ss (K_reg (Wops_run rfl rfl (Wops_run rfl rfl (Wops_run rfl rfl (K_fin [(0, _), (1, _), (7, _), (8, _)] rfl ?_)))))
  refine K_sblock ?_
  refine K_loop (fun k' e h' => ∃ i : Nat, e = [(0, .slice a n c), (1, .func (.func k) ⟨[]⟩ ⟨ca⟩), (7, .int .i64 n), (8, .int .i64 i)] ∧ h = h' ∧ i ≤ n ∧ k' = n - i ∧ ∀ j (hj : j < i) (hl : j < xs.length), p xs[j] = false) ?_ ⟨0, rfl, rfl, by omega, rfl, fun j hj => by omega⟩
  rintro k' e h' ⟨i, rfl, rfl, hi, rfl, hall⟩
  refine K_reg (Wops_run rfl rfl (K_fin [(0, _), (1, _), (7, _), (8, _), (9, _)] rfl ?_))
  refine K_scond rfl (fun hc => ?_) (fun hc => ?_)
  · have hlt : i < n := by have := of_decide_eq_true hc; omega
    refine K_sskip (K_sblock (K_reg (Wops_run rfl rfl (Wops_run rfl rfl (K_fin [(0, _), (1, _), (5, _), (7, _), (8, _)] rfl ?_)))))
    refine K_reg (Wops_run rfl rfl (Wops_run rfl rfl (Wops_run rfl rfl ?_)))
    refine Wops_idx (u := .int .u64 xs[i]) rfl rfl s ⟨by omega, by omega⟩ (by simp [hn, hlt]) fun p => ?_
    refine Wops_callv rfl rfl (hF xs[i] (List.getElem_mem _)) ?_
    rintro _ _ ⟨rfl, rfl⟩
    refine K_fin [(0, _), (1, _), (5, _), (7, _), (8, _), (16, _)] rfl ?_
    refine K_cond rfl (fun hd => ?_) (fun hd => ?_)
    · refine K_reg (Wops_run rfl rfl (Wops_run rfl rfl (K_fin [(4, _)] rfl ?_)))
      refine K_ret (Told.mk _ rfl (show _ ∧ _ from ⟨?_, rfl⟩))
      rw [ixF_at (by omega) hd hall]; rfl
    · refine K_skip (K_last (Wops_run rfl rfl (Wops_run rfl rfl (K_finL [(0, _), (1, _), (7, _), (8, _)] rfl ?_))))
      refine ⟨n - (i + 1), by omega, i + 1, by rw [w64s (by omega)], rfl, by omega, rfl, fun j hj hl => ?_⟩
      by_cases hji : j = i
      · subst hji; exact hd
      · exact hall j (by omega) hl
  · have hin : i = n := by have := of_decide_eq_false hc; omega
    refine K_sexit (bx_same ?_)
    refine K_reg (Wops_run rfl rfl (K_fin [(4, _)] rfl ?_))
    refine K_ret (Told.mk _ rfl (show _ ∧ _ from ⟨?_, rfl⟩))
    rw [ixF_none (fun j hj => hall j (by omega) hj)]; rfl

/-- slices.Clone -/
theorem C56 {h : Heap} {a : Option Addr} {n c : Nat} {xs : List Int} (s : SlA h 1 a n c (us xs)) (hb : n ≤ 1073741824) :
    Fn Try.prog 56 [.slice a n c] h fun v h' => ∃ a' c', v = .slice a' n c' ∧ OwS h' 1 a' n c' (us xs) ∧ Ext0 h h' ∧ ∀ i, Blk a' i → h.next ≤ i := by
  refine fnK F56.fok rfl ?_
  refine K_reg (Wops_run rfl rfl (K_fin [(0, _)] rfl (?_)))
  cases a with
  | none =>
    obtain ⟨rfl, rfl⟩ := s.nil rfl
    have hx : xs = [] := by simpa using s.len
    subst hx
    refine K_ss (K_reg (Wops_run rfl rfl (Wops_run rfl rfl (K_fin [(0, _), (4, _)] rfl (?_)))))
    refine K_scond rfl (fun hc => ?_) (fun hc => by cases hc)
    refine K_ss (K_reg (Wops_run rfl rfl (K_fin [(2, _)] rfl (?_))))
    exact K_sret (Told.mk _ rfl ⟨none, 0, rfl, OwS.none, Ext.refl _ _, fun i q => absurd q Blk.none⟩)
  | some pa =>
    refine K_ss (K_reg (Wops_run rfl rfl (Wops_run rfl rfl (K_fin [(0, _), (4, _)] rfl (?_)))))
    refine K_scond rfl (fun hc => by cases hc) (fun hc => ?_)
    refine K_sskip (K_reg (Wops_bslice rfl rfl fun h1 n1 x1 g1 => ?_))
    refine Wops_run rfl rfl (Wops_app rfl rfl (OwS.new (n := 0) g1 rfl) rfl (s.ext x1).first ⟨by omega, by omega⟩ s.len (by simp [us, isCell]) (by decide) fun h2 a2 c2 x2 o2 b2 => ?_)
    refine Wops_run rfl rfl (K_fin [(2, _)] rfl (?_))
    refine K_ret (Told.mk _ rfl ⟨a2, c2, by simp; rfl, by simpa [zeros] using o2, x1.then x2 fun i q => .inr (by rw [Blk.at] at q; omega), fun i q => ?_⟩)
    rcases b2 i q with q | q
    · rw [Blk.at] at q; omega
    · omega

theorem get_us {vs : List Value} {ys : List Int} {off n j : Nat} (h : (vs.drop off).take n = us ys) (hj : j < ys.length) : vs[off + j]? = some (.int .u64 ys[j]) := by
  have hl : ys.length ≤ n := by have := congrArg List.length h; simp at this; omega
  have h1 : ((vs.drop off).take n)[j]? = some (.int .u64 ys[j]) := by rw [h]; simp [hj]
  rwa [List.getElem?_take_of_lt (by omega), List.getElem?_drop] at h1

theorem set_us {vs : List Value} {ys : List Int} {off n i : Nat} {x : Int} (h : (vs.drop off).take n = us ys) : ((vs.set (off + i) (.int .u64 x)).drop off).take n = us (ys.set i x) := by
  rw [List.drop_set, if_neg (by omega), Nat.add_sub_cancel_left, List.take_set, h]
  simp [us, List.map_set]

/-- slices.DeleteFunc -/
theorem C54 {h : Heap} {a : Option Addr} {n c k : Nat} {ca : List Value} {xs : List Int} {p : Int → Bool} (o : OwS h 1 a n c (us xs)) (hb : n ≤ 1099511627776)
    (hF : ∀ h1, Ext (Blk a) h h1 → ∀ x ∈ xs, Fn Try.prog k (.int .u64 x :: ca) h1 fun v h' => v = .bool (p x) ∧ h1 = h') :
    Fn Try.prog 54 [.slice a n c, .func (.func k) ⟨[]⟩ ⟨ca⟩] h fun v h' => ∃ a' n', v = .slice a' n' c ∧ OwS h' 1 a' n' c (us (xs.filter fun x => !p x)) ∧ Ext (Blk a) h h' ∧ ∀ i, Blk a' i → Blk a i := by
  have hn : xs.length = n := by simpa using o.len
  refine fnK F54.fok rfl ?_
  refine K_reg (Wops_run rfl rfl (K_fin [(0, _), (1, _)] rfl (?_)))
  refine K_reg (Wops_run rfl rfl (Wops_run rfl rfl (Wops_call rfl (C71 o.sl hb (hF h (Ext.refl _ _))) ?_)))
  rintro _ _ ⟨rfl, rfl⟩
  refine Wops_run rfl rfl (K_fin [(0, _), (1, _), (5, _)] rfl (?_))
  refine K_ss (K_reg (Wops_run rfl rfl (Wops_run rfl rfl (K_fin [(0, _), (1, _), (5, _), (12, _)] rfl (?_)))))
  rcases ixF_cases p xs with ⟨hix, hall⟩ | ⟨i0, hi0, hix, hp0, hall⟩
  · rw [hix]
    refine K_scond rfl (fun hc => ?_) (fun hc => by cases hc)
    refine K_ss (K_reg (Wops_run rfl rfl (Wops_run rfl rfl (K_fin [(4, _)] rfl (?_)))))
    refine K_sret (Told.mk _ rfl ⟨a, n, rfl, ?_, Ext.refl _ _, fun i q => q⟩)
    rw [List.filter_eq_self.2 (fun x hx => by simp [hall x hx])]; exact o
  · rw [hix]
    refine K_scond rfl (fun hc => ?_) (fun hc => ?_)
    · have := of_decide_eq_true hc; omega
    obtain ⟨rfl, h0, _⟩ | ⟨id, off, vs, rfl, g, hl, hd⟩ := o.ex
    · omega
    simp only [Nat.mul_one] at hl hd
    refine K_sskip (K_ss (K_reg (Wops_run rfl rfl (Wops_run rfl rfl (Wops_run rfl rfl (K_fin [(0, _), (1, _), (5, _), (6, _)] rfl (?_)))))))
    refine K_sblock ?_
    refine K_loop (fun k' e h' => ∃ (i j : Nat) (ys : List Int) (vs' : List Value), e = [(0, .slice (some ⟨id, off, none⟩) n c), (1, .func (.func k) ⟨[]⟩ ⟨ca⟩), (5, .int .i64 i), (6, .int .i64 j)] ∧ k' = n - j ∧ i < j ∧ j ≤ n ∧
      At h' id (.cells vs' 1 false) ∧ Ext (Blk (some ⟨id, off, none⟩)) h h' ∧ vs'.length = vs.length ∧ (vs'.drop off).take n = us ys ∧ ys.length = n ∧ ys.take i = (xs.take j).filter (fun x => !p x) ∧ ys.drop j = xs.drop j) ?_ (k := n - (i0 + 1))
      ⟨i0, i0 + 1, xs, vs, by rw [w64s (by omega)], rfl, by omega, by omega, g, Ext.refl _ _, rfl, hd, hn, ?_, rfl⟩
    rotate_left
    · rw [List.take_add_one, List.filter_append, List.getElem?_eq_getElem hi0]
      simp only [Option.toList_some, List.filter_cons, hp0, List.filter_nil]
      rw [List.filter_eq_self.2]
      · simp
      · intro x hx
        obtain ⟨j, hj, rfl⟩ := List.getElem_of_mem hx
        have hj2 : j < i0 := by have := hj; simp at this; omega
        rw [List.getElem_take]; simp [hall j hj2]
    rintro k' e h' ⟨i, j, ys, vs', rfl, rfl, hij, hj, g', x', hl', hd', hy, ht, hdr⟩
    refine K_ss (K_reg (Wops_run rfl rfl (Wops_run rfl rfl (Wops_run rfl rfl (Wops_run rfl rfl (K_fin [(0, _), (1, _), (5, _), (6, _), (19, _)] rfl (?_)))))))
    refine K_scond rfl (fun hc => ?_) (fun hc => ?_)
    · have hlt : j < n := by have := of_decide_eq_true hc; omega
      have hyj : ys[j]'(by omega) = xs[j] := by
        have h1 : (ys.drop j)[0]? = (xs.drop j)[0]? := by rw [hdr]
        simpa [List.getElem?_drop, List.getElem?_eq_getElem (show j < ys.length by omega), List.getElem?_eq_getElem (show j < xs.length by omega)] using h1
      have htake : (xs.take (j + 1)).filter (fun x => !p x) = (xs.take j).filter (fun x => !p x) ++ if p xs[j] then [] else [xs[j]] := by
        rw [List.take_add_one, List.filter_append, List.getElem?_eq_getElem (show j < xs.length by omega)]
        cases hp : p xs[j] <;> simp [hp]
      have hdrop : xs.drop (j + 1) = (xs.drop j).drop 1 := by rw [List.drop_drop]
      refine K_sskip (K_sblock ?_)
      refine K_reg (Wops_run rfl rfl (Wops_run rfl rfl (Wops_iaV rfl rfl ⟨by omega, by omega⟩ ?_)))
      refine Wops_ld rfl g' (by simp only [Int.toNat_natCast, Nat.mul_one]; exact get_us hd' (by omega)) ?_
      refine Wops_run rfl rfl (K_fin [(0, _), (1, _), (5, _), (6, _), (7, _)] rfl (?_))
      refine K_reg (Wops_run rfl rfl (Wops_run rfl rfl (Wops_callv rfl rfl (hF h' x' _ (by rw [hyj]; exact List.getElem_mem _)) ?_)))
      rintro _ _ ⟨rfl, rfl⟩
      refine Wops_run rfl rfl (K_fin [(0, _), (1, _), (5, _), (6, _), (7, _), (29, _)] rfl (?_))
      refine K_cond rfl (fun hd2 => ?_) (fun hd2 => ?_)
      · have hpj : p xs[j] = false := by rw [hyj] at hd2; simpa using hd2
        refine K_reg (Wops_run rfl rfl (Wops_run rfl rfl (Wops_run rfl rfl (Wops_iaV rfl rfl ⟨by omega, by omega⟩ ?_))))
        refine Wops_st rfl rfl rfl rfl g' (by simp; omega) rfl fun h1 n1 x1 g1 => ?_
        refine K_fin [(0, _), (1, _), (5, _), (6, _)] rfl (?_)
        refine K_last (Wops_run rfl rfl (Wops_run rfl rfl (Wops_run rfl rfl (K_finL [(0, _), (1, _), (5, _), (6, _)] rfl (?_)))))
        refine K_last (Wops_run rfl rfl (Wops_run rfl rfl (Wops_run rfl rfl (K_finL [(0, _), (1, _), (5, _), (6, _)] rfl (?_)))))
        refine ⟨n - (j + 1), by omega, i + 1, j + 1, ys.set i xs[j], _, by rw [w64s (by omega), w64s (by omega)], rfl, by omega, by omega, g1, x'.trans (x1.mono fun i _ q => by rw [Blk.at]; exact q.symm), by rw [putL_length]; exact hl', ?_, by simp [hy], ?_, ?_⟩
        · simp only [putL, Int.toNat_natCast, Nat.mul_one, hyj]; exact set_us hd'
        · rw [htake, ← ht, hpj]
          rw [List.take_add_one, List.getElem?_set_self (by omega), List.take_set_of_le (Nat.le_refl i)]; simp
        · rw [List.drop_set_of_lt (by omega), hdrop, ← hdr, List.drop_drop]
      · have hpj : p xs[j] = true := by rw [hyj] at hd2; simpa using hd2
        refine K_skip ?_
        refine K_last (Wops_run rfl rfl (Wops_run rfl rfl (Wops_run rfl rfl (K_finL [(0, _), (1, _), (5, _), (6, _)] rfl (?_)))))
        refine ⟨n - (j + 1), by omega, i, j + 1, ys, vs', by rw [w64s (by omega)], rfl, by omega, by omega, g', x', hl', hd', hy, ?_, ?_⟩
        · rw [htake, ← ht, hpj]; simp
        · rw [hdrop, ← hdr, List.drop_drop]
    · have hjn : j = n := by have := of_decide_eq_false hc; omega
      refine K_sexit (bx_same ?_)
      have o' : OwS h' 1 (some ⟨id, off, none⟩) n c (us ys) := ⟨by simp [us, hy], .inr ⟨id, off, vs', rfl, g', by omega, by simpa using hd'⟩⟩
      refine K_reg (Wops_run rfl rfl (Wops_run rfl rfl (Wops_slV rfl rfl rfl o'.sl.ok (bounds_lo (by omega)) ?_)))
      refine Wops_clr (id := id) (off := off + i * 1) rfl g' (by omega) rfl rfl fun h1 x1 g1 => ?_
      refine K_fin [(0, _), (5, _)] rfl (?_)
      have o1 : OwS h1 1 (some ⟨id, off, none⟩) i c (us (ys.take i)) := by
        refine ⟨by simp [us]; omega, .inr ⟨id, off, _, rfl, g1, by rw [putL_length]; omega, ?_⟩⟩
        rw [us, List.map_take, ← us, ← hd', List.take_take, Nat.min_eq_left (by omega)]
        apply List.ext_getElem?
        intro m
        by_cases hm : m < i * 1
        · rw [List.getElem?_take_of_lt hm, List.getElem?_take_of_lt (by omega), List.getElem?_drop, List.getElem?_drop, putL_get _ _ _ _ (by rw [zeros_length]; simp; omega), if_neg (by omega)]
        · rw [List.getElem?_eq_none (by simp; omega), List.getElem?_eq_none (by simp; omega)]
      refine K_reg (Wops_run rfl rfl (Wops_run rfl rfl (Wops_slV rfl rfl rfl o1.sl.ok (bounds_hi (n := n) (by omega)) ?_)))
      refine Wops_run rfl rfl (K_fin [(4, _)] rfl (?_))
      refine K_ret (Told.mk _ rfl ⟨_, _, rfl, ?_, x'.trans (x1.mono fun i _ q => by rw [Blk.at]; exact q.symm), fun i q => by rwa [shift_blk] at q⟩)
      have ht2 : ys.take i = xs.filter (fun x => !p x) := by rw [ht, hjn, List.take_of_length_le (l := xs) (by omega)]
      rw [← ht2]
      simpa [shift] using o1
end Go.Dx.SYtocdemagjocggaa
