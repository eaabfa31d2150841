/- Contracts of frame's functions: Clone, Grow, Concat of bytes. -/
import Derived.Test.YtocdemagjocggaaDxLT
import Derived.Test.YtocdemagjocggaaDx31
namespace Go.Dx.SYtocdemagjocggaa
open Go.Proofs
set_option linter.unusedVariables false
set_option linter.unusedSimpArgs false

/-- slices.Clone of bytes -/
theorem C57 {h : Heap} {a : Option Addr} {n c : Nat} {l : List Value} (s : SlA h 1 a n c l) (hc : l.all isCell = true) (hb : n ≤ 1073741824) :
    Fn Try.prog 57 [.slice a n c] h fun v h' => ∃ a' c', v = .slice a' n c' ∧ OwS h' 1 a' n c' l ∧ Ext0 h h' ∧ ∀ i, Blk a' i → h.next ≤ i ∧ i < h'.next := by
  refine fnK F57.fok rfl ?_
  refine K_reg (Wops_run rfl rfl (K_fin [(0, _)] rfl (?_)))
  cases a with
  | none =>
    obtain ⟨rfl, rfl⟩ := s.nil rfl
    have hx : l = [] := List.eq_nil_of_length_eq_zero (by simpa using s.len)
    subst hx
    refine K_ss (K_reg (Wops_run rfl rfl (Wops_run rfl rfl (K_fin [(0, _), (4, _)] rfl (?_)))))
    refine K_scond rfl (fun hc => ?_) (fun hc => by cases hc)
    refine K_ss (K_reg (Wops_run rfl rfl (K_fin [(2, _)] rfl (?_))))
    exact K_sret (Told.mk _ rfl ⟨none, 0, rfl, OwS.none, Ext.refl _ _, fun i q => absurd q Blk.none⟩)
  | some pa =>
    refine K_ss (K_reg (Wops_run rfl rfl (Wops_run rfl rfl (K_fin [(0, _), (4, _)] rfl (?_)))))
    refine K_scond rfl (fun hc => by cases hc) (fun _ => ?_)
    refine K_sskip (K_reg (Wops_bslice (l := []) rfl rfl fun h1 n1 x1 g1 => ?_))
    refine Wops_run rfl rfl (Wops_app rfl rfl (OwS.new (n := 0) g1 rfl) rfl (s.ext x1).first ⟨by omega, by omega⟩ s.len hc (by decide) fun h2 a2 c2 x2 o2 b2 => ?_)
    refine Wops_run rfl rfl (K_fin [(2, _)] rfl (?_))
    refine K_ret (Told.mk _ rfl ⟨a2, c2, by simp; rfl, by simpa using o2, x1.then x2 fun i q => .inr (by rw [Blk.at] at q; omega), fun i q => ⟨?_, o2.lt q⟩⟩)
    rcases b2 i q with q | q
    · rw [Blk.at] at q; omega
    · omega

/-- slices.Grow of nothing -/
theorem C69 {h : Heap} {m : Nat} (hb : m ≤ 1073741824) : Fn Try.prog 69 [.slice none 0 0, .int .i64 m] h fun v h' => ∃ a' c', v = .slice a' 0 c' ∧ OwS h' 1 a' 0 c' [] ∧ Ext0 h h' ∧ ∀ i, Blk a' i → h.next ≤ i := by
  refine fnK F69.fok rfl ?_
  refine K_reg (Wops_run rfl rfl (K_fin [(0, _), (1, _)] rfl (?_)))
  refine K_ss (K_reg (Wops_run rfl rfl (Wops_run rfl rfl (K_fin [(0, _), (1, _), (6, _)] rfl (?_)))))
  refine K_scond rfl (fun hc => ?_) (fun hc => ?_)
  · have := of_decide_eq_true hc; omega
  refine K_sskip (K_ss (K_reg (Wops_run rfl rfl (Wops_run rfl rfl (Wops_run rfl rfl (Wops_run rfl rfl (Wops_run rfl rfl (Wops_run rfl rfl (Wops_as (w := .int .i64 m) rfl rfl (by
    have h1 : IntKind.wrap .i64 (((0 : Nat) : Int) - ((0 : Nat) : Int)) = 0 := rfl
    show Value.int .i64 (IntKind.wrap .i64 ((m : Int) - IntKind.wrap .i64 (((0 : Nat) : Int) - ((0 : Nat) : Int)))) = _
    rw [h1, w64 (by omega)]; simp) (Wops_run rfl rfl (K_fin [(0, _), (1, _)] rfl (?_))))))))))))
  refine K_ss (K_reg (Wops_run rfl rfl (Wops_run rfl rfl (K_fin [(0, _), (1, _), (16, _)] rfl (?_)))))
  refine K_scond rfl (fun hc => ?_) (fun hc => ?_)
  · refine K_reg (Wops_run rfl rfl (Wops_run rfl rfl (Wops_run rfl rfl (Wops_slV rfl rfl rfl rfl (bounds_hi (i := 0) (by omega)) ?_))))
    refine Wops_run rfl rfl (Wops_appZ (m := m) rfl rfl (OwS.none (sz := 1)) ⟨by omega, by omega⟩ rfl rfl (by decide) fun h1 a1 c1 x1 o1 b1 => ?_)
    refine Wops_run rfl rfl (Wops_run rfl rfl (Wops_slV rfl rfl rfl o1.sl.ok (bounds_hi (i := 0) (by omega)) ?_))
    refine Wops_run rfl rfl (K_fin [(0, _)] rfl (?_))
    have o2 := o1.sub (i := 0) (j := 0) (by omega) (by omega)
    refine K_reg (Wops_run rfl rfl (Wops_run rfl rfl (K_fin [(4, _)] rfl (?_))))
    refine K_ret (Told.mk _ rfl ⟨shift a1 (0 * 1), c1, rfl, by simpa using o2, x1.mono fun i _ r => absurd r Blk.none, fun i r => ?_⟩)
    exact (b1 i (shift_blk.1 r)).elim (fun r => absurd r Blk.none) id
  · refine K_sskip (K_reg (Wops_run rfl rfl (Wops_run rfl rfl (K_fin [(4, _)] rfl (?_)))))
    exact K_ret (Told.mk _ rfl ⟨none, 0, rfl, OwS.none, Ext.refl _ _, fun i r => absurd r Blk.none⟩)

def sumL (fs : List (List Int)) : Nat := (fs.map List.length).sum

/-- slices.Concat of bytes -/
theorem C49 {h : Heap} {S : Nat → Prop} {a : Option Addr} {n c : Nat} {vs : List Value} {fs : List (List Int)} (s : SlA h 1 a n c vs) (b : Bys h .u8 S vs fs) (hS : ∀ i, S i → i < h.next) (ha : ∀ i, Blk a i → i < h.next) (hn : n ≤ 1000) (hb : ∀ f ∈ fs, f.length ≤ 1000000) :
    Fn Try.prog 49 [.slice a n c] h fun v h' => ∃ a' c', v = .slice a' fs.flatten.length c' ∧ OwS h' 1 a' fs.flatten.length c' (ints .u8 fs.flatten) ∧ Ext0 h h' ∧ ∀ i, Blk a' i → h.next ≤ i := by
  have hfn : fs.length = n := by have := s.len; rw [b.length] at this; omega
  have hsum : ∀ i, i ≤ n → (fs.take i).flatten.length ≤ i * 1000000 := by
    intro i
    induction i with
    | zero => intro _; simp
    | succ i ih =>
      intro hi
      rw [List.take_add_one, List.getElem?_eq_getElem (by omega), Option.toList_some, List.flatten_append, List.length_append]
      have := ih (by omega)
      have := hb fs[i] (List.getElem_mem _)
      simp only [List.flatten_cons, List.flatten_nil, List.append_nil]; omega
  refine fnK F49.fok rfl ?_
  refine K_reg (Wops_run rfl rfl (K_fin [(0, _)] rfl (?_)))
  refine K_reg (Wops_run rfl rfl (K_fin [(0, _), (3, _)] rfl (?_)))
  refine K_ss (K_reg (Wops_run rfl rfl (Wops_run rfl rfl (Wops_run rfl rfl (K_fin [(0, _), (3, _), (9, _), (10, _), (11, _)] rfl (?_))))))
  refine K_sblock ?_
  refine K_loop (fun k e h' => ∃ i : Nat, e = [(0, .slice a n c), (3, .int .i64 ((fs.take i).flatten.length : Nat)), (9, .slice a n c), (10, .int .i64 n), (11, .int .i64 i)] ∧ h = h' ∧ i ≤ n ∧ k = n - i) ?_ (k := n) ⟨0, rfl, rfl, by omega, rfl⟩
  rintro k e h' ⟨i, rfl, rfl, hi, rfl⟩
  have hsi := hsum i hi
  refine K_reg (Wops_run rfl rfl (K_fin [(0, _), (3, _), (9, _), (10, _), (11, _), (12, _)] rfl (?_)))
  refine K_scond rfl (fun hc => ?_) (fun hc => ?_)
  · have hlt : i < n := by have := of_decide_eq_true hc; omega
    obtain ⟨ai, ni, ci, hv, si, di⟩ := b.get i (by omega)
    have hni : fs[i].length = ni := by simpa using si.len
    have hbi := hb fs[i] (List.getElem_mem _)
    have hnext : ((fs.take (i + 1)).flatten.length : Nat) = (fs.take i).flatten.length + ni := by
      rw [List.take_add_one, List.getElem?_eq_getElem (by omega), Option.toList_some, List.flatten_append, List.length_append]; simp [hni]
    refine K_sskip (K_sblock ?_)
    refine K_reg (Wops_idx (u := .slice ai ni ci) rfl rfl s ⟨by omega, by omega⟩ (by simpa using hv) fun p => ?_)
    refine Wops_run rfl rfl (K_fin [(0, _), (3, _), (5, _), (9, _), (10, _), (11, _)] rfl (?_))
    refine K_reg (Wops_run rfl rfl (Wops_run rfl rfl (Wops_run rfl rfl (Wops_as (w := .int .i64 ((fs.take (i + 1)).flatten.length : Nat)) rfl rfl (by rw [w64 (by omega), hnext]; simp) (Wops_run rfl rfl (K_fin [(0, _), (3, _), (9, _), (10, _), (11, _)] rfl (?_)))))))
    refine K_reg (Wops_run rfl rfl (Wops_run rfl rfl (K_fin [(0, _), (3, _), (9, _), (10, _), (11, _), (20, _)] rfl (?_))))
    refine K_cond rfl (fun hc => by have := of_decide_eq_true hc; omega) (fun _ => ?_)
    refine K_skip (K_last (Wops_run rfl rfl (Wops_run rfl rfl (K_finL [(0, _), (3, _), (9, _), (10, _), (11, _)] rfl (?_)))))
    exact ⟨n - (i + 1), by omega, i + 1, by rw [w64s (by omega)], rfl, by omega, rfl⟩
  · have hin : i = n := by have := of_decide_eq_false hc; omega
    have htk : fs.take i = fs := List.take_of_length_le (by omega)
    rw [htk] at hsi ⊢
    refine K_sexit (bx_same ?_)
    refine K_reg (Wops_run rfl rfl (Wops_call rfl (C69 (m := fs.flatten.length) (by omega)) ?_))
    rintro _ h1 ⟨a1, c1, rfl, o1, x1, b1⟩
    refine Wops_run rfl rfl (K_fin [(0, _), (6, _)] rfl (?_))
    refine K_ss (K_reg (Wops_run rfl rfl (Wops_run rfl rfl (Wops_run rfl rfl (K_fin [(6, _), (25, _), (26, _), (27, _)] rfl (?_))))))
    refine K_sblock ?_
    refine K_loop (fun k e h' => ∃ (i : Nat) (a6 : Option Addr) (c6 : Nat), e = [(6, .slice a6 (fs.take i).flatten.length c6), (25, .slice a n c), (26, .int .i64 n), (27, .int .i64 i)] ∧ i ≤ n ∧ k = n - i ∧ OwS h' 1 a6 (fs.take i).flatten.length c6 (ints .u8 (fs.take i).flatten) ∧ Ext0 h h' ∧ ∀ i, Blk a6 i → h.next ≤ i) ?_ (k := n) ⟨0, a1, c1, rfl, by omega, rfl, o1, x1, b1⟩
    clear o1 x1 b1
    rintro k e h2 ⟨i, a6, c6, rfl, hi, rfl, o6, x6, b6⟩
    have hsi := hsum i hi
    refine K_reg (Wops_run rfl rfl (K_fin [(6, _), (25, _), (26, _), (27, _), (28, _)] rfl (?_)))
    refine K_scond rfl (fun hc => ?_) (fun hc => ?_)
    · have hlt : i < n := by have := of_decide_eq_true hc; omega
      obtain ⟨ai, ni, ci, hv, si, di⟩ := b.get i (by omega)
      have hni : fs[i].length = ni := by simpa using si.len
      have hbi := hb fs[i] (List.getElem_mem _)
      have htk1 : (fs.take (i + 1)).flatten = (fs.take i).flatten ++ fs[i] := by
        rw [List.take_add_one, List.getElem?_eq_getElem (by omega), Option.toList_some, List.flatten_append]; simp
      refine K_sskip (K_sblock ?_)
      refine K_reg (Wops_idx (u := .slice ai ni ci) rfl rfl (s.ext x6) ⟨by omega, by omega⟩ (by simpa using hv) fun p => ?_)
      refine Wops_run rfl rfl (K_fin [(6, _), (8, _), (25, _), (26, _), (27, _)] rfl (?_))
      refine K_last (Wops_run rfl rfl (Wops_run rfl rfl (Wops_app rfl rfl o6 rfl (si.ext x6).first ⟨by omega, by omega⟩ si.len (ints_cell _ _) (by decide) fun h3 a3 c3 x3 o3 b3 => ?_)))
      refine Wops_run rfl rfl (K_finL [(6, _), (25, _), (26, _), (27, _)] rfl (?_))
      refine K_last (Wops_run rfl rfl (Wops_run rfl rfl (K_finL [(6, _), (25, _), (26, _), (27, _)] rfl (?_))))
      have hl : (fs.take i).flatten.length + ni = (fs.take (i + 1)).flatten.length := by rw [htk1, List.length_append, hni]
      refine ⟨n - (i + 1), by omega, i + 1, a3, c3, by rw [w64s (by omega), hl], by omega, rfl, ?_, x6.then x3 fun i r => .inr (b6 i r), fun i r => (b3 i r).elim (b6 i) fun q => Nat.le_trans x6.next q⟩
      rw [← hl, htk1]; simpa [ints] using o3
    · have hin : i = n := by have := of_decide_eq_false hc; omega
      have htk : fs.take i = fs := List.take_of_length_le (by omega)
      rw [htk] at o6
      refine K_sexit (bx_same ?_)
      refine K_reg (Wops_run rfl rfl (Wops_run rfl rfl (K_fin [(2, _)] rfl (?_))))
      exact K_ret (Told.mk _ rfl ⟨a6, c6, by rw [htk]; rfl, o6, x6, b6⟩)
end Go.Dx.SYtocdemagjocggaa
