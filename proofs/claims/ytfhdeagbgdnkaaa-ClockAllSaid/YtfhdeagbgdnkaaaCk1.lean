/- Contracts of clock's functions, and of the library's that they call. -/
import Derived.Test.YtfhdeagbgdnkaaaDxLT
import Derived.Test.YtfhdeagbgdnkaaaDx33
namespace Go.Dx.SYtfhdeagbgdnkaaa
open Go.Proofs
set_option linter.unusedVariables false
set_option linter.unusedSimpArgs false

abbrev ptr (p : Nat) : Value := .pointer (some ⟨p, 0, none⟩)
abbrev us (xs : List Int) : List Value := xs.map (Value.int .u64)
theorem us_cell (xs : List Int) : (us xs).all isCell = true := by simp [us, isCell]
abbrev D := Int × Int
def dte (d : D) : List Value := [.int .u64 d.1, .int .u64 d.2]
theorem dte_len (d : D) : (dte d).length = 2 := rfl
theorem dte_cell (d : D) : (dte d).all isCell = true := rfl

/-- slices.Index -/
theorem C70 {h : Heap} {a : Option Addr} {n c : Nat} {xs : List Int} {x : Int} (s : SlA h 1 a n c (us xs)) (hb : n ≤ 1099511627776) :
    Fn Try.prog 70 [.slice a n c, .int .u64 x] h fun v h' => v = .int .i64 (ixG (x == ·) xs) ∧ h = h' := by
  have hn : xs.length = n := by simpa using s.len
  refine fnK F70.fok rfl ?_
  refine K_reg (Wops_run rfl rfl (K_fin [(0, _), (1, _)] rfl ?_))
  refine K_ss (K_reg (Wops_run rfl rfl (Wops_run rfl rfl (Wops_run rfl rfl (K_fin [(0, _), (1, _), (7, _), (8, _)] rfl ?_)))))
  refine K_sblock ?_
  refine K_loop (fun k e h' => ∃ i : Nat, e = [(0, .slice a n c), (1, .int .u64 x), (7, .int .i64 n), (8, .int .i64 i)] ∧ h = h' ∧ i ≤ n ∧ k = n - i ∧ ∀ j (hj : j < i) (hl : j < xs.length), (x == xs[j]) = false) ?_ ⟨0, rfl, rfl, by omega, rfl, fun j hj => by omega⟩
  rintro k e h' ⟨i, rfl, rfl, hi, rfl, hall⟩
  refine K_reg (Wops_run rfl rfl (K_fin [(0, _), (1, _), (7, _), (8, _), (9, _)] rfl ?_))
  refine K_scond rfl (fun hc => ?_) (fun hc => ?_)
  · have hlt : i < n := by have := of_decide_eq_true hc; omega
    refine K_sskip (K_sblock (K_reg (Wops_run rfl rfl (Wops_run rfl rfl (K_fin [(0, _), (1, _), (5, _), (7, _), (8, _)] rfl ?_)))))
    refine K_reg (Wops_run rfl rfl (Wops_run rfl rfl (Wops_run rfl rfl ?_)))
    refine Wops_idx (u := .int .u64 xs[i]) rfl rfl s ⟨by omega, by omega⟩ (by simp [hn, hlt]) fun p => ?_
    refine Wops_run rfl rfl (K_fin [(0, _), (1, _), (5, _), (7, _), (8, _), (16, _)] rfl ?_)
    refine K_cond rfl (fun hd => ?_) (fun hd => ?_)
    · refine K_reg (Wops_run rfl rfl (Wops_run rfl rfl (K_fin [(4, _)] rfl ?_)))
      refine K_ret (Told.mk _ rfl (show _ ∧ _ from ⟨?_, rfl⟩))
      rw [ixG_at (by omega) hd hall]; rfl
    · refine K_skip (K_last (Wops_run rfl rfl (Wops_run rfl rfl (K_finL [(0, _), (1, _), (7, _), (8, _)] rfl ?_))))
      refine ⟨n - (i + 1), by omega, i + 1, by rw [w64s (by omega)], rfl, by omega, rfl, fun j hj hl => ?_⟩
      by_cases hji : j = i
      · subst hji; exact hd
      · exact hall j (by omega) hl
  · have hin : i = n := by have := of_decide_eq_false hc; omega
    refine K_sexit (bx_same ?_)
    refine K_reg (Wops_run rfl rfl (K_fin [(4, _)] rfl ?_))
    refine K_ret (Told.mk _ rfl (show _ ∧ _ from ⟨?_, rfl⟩))
    rw [ixG_none (fun j hj => hall j (by omega) hj)]; rfl
/-- slices.Contains -/
theorem C54 {h : Heap} {a : Option Addr} {n c : Nat} {xs : List Int} {x : Int} (s : SlA h 1 a n c (us xs)) (hb : n ≤ 1099511627776) :
    Fn Try.prog 54 [.slice a n c, .int .u64 x] h fun v h' => v = .bool (decide (x ∈ xs)) ∧ h = h' := by
  refine fnK F54.fok rfl ?_
  refine K_reg (Wops_run rfl rfl (K_fin [(0, _), (1, _)] rfl (?_)))
  refine K_reg (Wops_run rfl rfl (Wops_run rfl rfl (Wops_call rfl (C70 s hb) ?_)))
  rintro _ _ ⟨rfl, rfl⟩
  refine Wops_run rfl rfl (Wops_run rfl rfl (K_fin [(4, _)] rfl (?_)))
  refine K_ret (Told.mk _ rfl (show _ ∧ _ from ⟨?_, rfl⟩))
  show Value.bool (decide (ixG (x == ·) xs ≥ 0)) = _
  congr 1
  apply decide_eq_decide.2
  rw [ixG_ge, List.any_eq_true]
  constructor
  · rintro ⟨y, hy, e⟩
    simp at e; rw [e]; exact hy
  · intro hx; exact ⟨x, hx, by simp⟩

/-- slices.IndexFunc -/
theorem C68 {h : Heap} {a : Option Addr} {n c k : Nat} {ca : List Value} {xs : List D} {p : D → Bool} (s : SlA h 2 a n c (en dte xs)) (hn : xs.length = n) (hb : n ≤ 1099511627776) (hF : ∀ x ∈ xs, Fn Try.prog k (.agg ⟨dte x⟩ :: ca) h fun v h' => v = .bool (p x) ∧ h = h') :
    Fn Try.prog 68 [.slice a n c, .func (.func k) ⟨[]⟩ ⟨ca⟩] h fun v h' => v = .int .i64 (ixG p xs) ∧ h = h' := by
  refine fnK F68.fok rfl ?_
  refine K_reg (Wops_run rfl rfl (K_fin [(0, _), (1, _)] rfl ?_))
  refine K_ss (K_reg (Wops_run rfl rfl (Wops_run rfl rfl (Wops_run rfl rfl (K_fin [(0, _), (1, _), (7, _), (8, _)] rfl ?_)))))
  refine K_sblock ?_
  refine K_loop (fun k' e h' => ∃ i : Nat, e = [(0, .slice a n c), (1, .func (.func k) ⟨[]⟩ ⟨ca⟩), (7, .int .i64 n), (8, .int .i64 i)] ∧ h = h' ∧ i ≤ n ∧ k' = n - i ∧ ∀ j (hj : j < i) (hl : j < xs.length), p xs[j] = false) ?_ ⟨0, rfl, rfl, by omega, rfl, fun j hj => by omega⟩
  rintro k' e h' ⟨i, rfl, rfl, hi, rfl, hall⟩
  refine K_reg (Wops_run rfl rfl (K_fin [(0, _), (1, _), (7, _), (8, _), (9, _)] rfl ?_))
  refine K_scond rfl (fun hc => ?_) (fun hc => ?_)
  · have hlt : i < n := by have := of_decide_eq_true hc; omega
    refine K_sskip (K_sblock (K_reg (Wops_run rfl rfl (Wops_run rfl rfl (K_fin [(0, _), (1, _), (5, _), (7, _), (8, _)] rfl ?_)))))
    refine K_reg (Wops_run rfl rfl (Wops_run rfl rfl (Wops_run rfl rfl ?_)))
    refine Wops_elA dte_len rfl rfl s hn (show i < xs.length by omega) fun p => ?_
    refine Wops_callv rfl rfl (hF xs[i] (List.getElem_mem _)) ?_
    rintro _ _ ⟨rfl, rfl⟩
    refine K_fin [(0, _), (1, _), (5, _), (7, _), (8, _), (16, _)] rfl ?_
    refine K_cond rfl (fun hd => ?_) (fun hd => ?_)
    · refine K_reg (Wops_run rfl rfl (Wops_run rfl rfl (K_fin [(4, _)] rfl ?_)))
      refine K_ret (Told.mk _ rfl (show _ ∧ _ from ⟨?_, rfl⟩))
      rw [ixG_at (by omega) hd hall]; rfl
    · refine K_skip (K_last (Wops_run rfl rfl (Wops_run rfl rfl (K_finL [(0, _), (1, _), (7, _), (8, _)] rfl ?_))))
      refine ⟨n - (i + 1), by omega, i + 1, by rw [w64s (by omega)], rfl, by omega, rfl, fun j hj hl => ?_⟩
      by_cases hji : j = i
      · subst hji; exact hd
      · exact hall j (by omega) hl
  · have hin : i = n := by have := of_decide_eq_false hc; omega
    refine K_sexit (bx_same ?_)
    refine K_reg (Wops_run rfl rfl (K_fin [(4, _)] rfl ?_))
    refine K_ret (Told.mk _ rfl (show _ ∧ _ from ⟨?_, rfl⟩))
    rw [ixG_none (fun j hj => hall j (by omega) hj)]; rfl

/-- slices.DeleteFunc -/
theorem C52 {h : Heap} {a : Option Addr} {n c k : Nat} {ca : List Value} {xs : List D} {p : D → Bool} (o : OwS h 2 a n c (en dte xs)) (hn : xs.length = n) (hb : n ≤ 1000000)
    (hF : ∀ h1, Ext (Blk a) h h1 → ∀ x ∈ xs, Fn Try.prog k (.agg ⟨dte x⟩ :: ca) h1 fun v h' => v = .bool (p x) ∧ h1 = h') :
    Fn Try.prog 52 [.slice a n c, .func (.func k) ⟨[]⟩ ⟨ca⟩] h fun v h' => ∃ a' n', v = .slice a' n' c ∧ OwS h' 2 a' n' c (en dte (xs.filter fun x => !p x)) ∧ Ext (Blk a) h h' ∧ ∀ i, Blk a' i → Blk a i := by
  refine fnK F52.fok rfl ?_
  refine K_reg (Wops_run rfl rfl (K_fin [(0, _), (1, _)] rfl (?_)))
  refine K_reg (Wops_run rfl rfl (Wops_run rfl rfl (Wops_call rfl (C68 o.sl hn (by omega) (hF h (Ext.refl _ _))) ?_)))
  rintro _ _ ⟨rfl, rfl⟩
  refine Wops_run rfl rfl (K_fin [(0, _), (1, _), (5, _)] rfl (?_))
  refine K_ss (K_reg (Wops_run rfl rfl (Wops_run rfl rfl (K_fin [(0, _), (1, _), (5, _), (12, _)] rfl (?_)))))
  rcases ixG_cases p xs with ⟨hix, hall⟩ | ⟨i0, hi0, hix, hp0, hall⟩
  · rw [hix]
    refine K_scond rfl (fun hc => ?_) (fun hc => by cases hc)
    refine K_ss (K_reg (Wops_run rfl rfl (Wops_run rfl rfl (K_fin [(4, _)] rfl (?_)))))
    refine K_sret (Told.mk _ rfl ⟨a, n, rfl, ?_, Ext.refl _ _, fun i q => q⟩)
    rw [List.filter_eq_self.2 (fun x hx => by simp [hall x hx])]; exact o
  · rw [hix]
    refine K_scond rfl (fun hc => ?_) (fun hc => ?_)
    · have := of_decide_eq_true hc; omega
    obtain ⟨rfl, h0, _⟩ | ⟨id, off, vs, rfl, g, hl, hd⟩ := o.ex
    · omega
    refine K_sskip (K_ss (K_reg (Wops_run rfl rfl (Wops_run rfl rfl (Wops_run rfl rfl (K_fin [(0, _), (1, _), (5, _), (6, _)] rfl (?_)))))))
    refine K_sblock ?_
    refine K_loop (fun k' e h' => ∃ (i j : Nat) (ys : List D) (vs' : List Value), e = [(0, .slice (some ⟨id, off, none⟩) n c), (1, .func (.func k) ⟨[]⟩ ⟨ca⟩), (5, .int .i64 i), (6, .int .i64 j)] ∧ k' = n - j ∧ i < j ∧ j ≤ n ∧
      At h' id (.cells vs' 2 false) ∧ Ext (Blk (some ⟨id, off, none⟩)) h h' ∧ vs'.length = vs.length ∧ (vs'.drop off).take (n * 2) = en dte ys ∧ ys.length = n ∧ ys.take i = (xs.take j).filter (fun x => !p x) ∧ ys.drop j = xs.drop j) ?_ (k := n - (i0 + 1))
      ⟨i0, i0 + 1, xs, vs, by rw [w64s (by omega)], rfl, by omega, by omega, g, Ext.refl _ _, rfl, hd, hn, ?_, rfl⟩
    rotate_left
    · rw [List.take_add_one, List.filter_append, List.getElem?_eq_getElem hi0]
      simp only [Option.toList_some, List.filter_cons, hp0, List.filter_nil]
      rw [List.filter_eq_self.2]
      · simp
      · intro x hx
        obtain ⟨j, hj, rfl⟩ := List.getElem_of_mem hx
        have hj2 : j < i0 := by have := hj; simp at this; omega
        rw [List.getElem_take]; simp [hall j hj2]
    rintro k' e h' ⟨i, j, ys, vs', rfl, rfl, hij, hj, g', x', hl', hd', hy, ht, hdr⟩
    refine K_ss (K_reg (Wops_run rfl rfl (Wops_run rfl rfl (Wops_run rfl rfl (Wops_run rfl rfl (K_fin [(0, _), (1, _), (5, _), (6, _), (19, _)] rfl (?_)))))))
    refine K_scond rfl (fun hc => ?_) (fun hc => ?_)
    · have hlt : j < n := by have := of_decide_eq_true hc; omega
      have hyj : ys[j]'(by omega) = xs[j] := by
        have h1 : (ys.drop j)[0]? = (xs.drop j)[0]? := by rw [hdr]
        simpa [List.getElem?_drop, List.getElem?_eq_getElem (show j < ys.length by omega), List.getElem?_eq_getElem (show j < xs.length by omega)] using h1
      have htake : (xs.take (j + 1)).filter (fun x => !p x) = (xs.take j).filter (fun x => !p x) ++ if p xs[j] then [] else [xs[j]] := by
        rw [List.take_add_one, List.filter_append, List.getElem?_eq_getElem (show j < xs.length by omega)]
        cases hp : p xs[j] <;> simp [hp]
      have hdrop : xs.drop (j + 1) = (xs.drop j).drop 1 := by rw [List.drop_drop]
      refine K_sskip (K_sblock ?_)
      refine K_reg (Wops_run rfl rfl (Wops_run rfl rfl (Wops_iaV rfl rfl ⟨by omega, by omega⟩ ?_)))
      refine Wops_ldA (l := dte xs[j]) rfl g' (by rw [Int.toNat_natCast]; omega) (by rw [Int.toNat_natCast, ← hyj]; exact win_row dte_len hd' hy (by omega)) ?_
      refine Wops_new fun h1 n1 x1 g1 => Wops_st rfl rfl rfl rfl g1 (by simp) rfl fun h2 n2 x2 g2 => ?_
      have X2 : Ext0 h' h2 := x1.then x2 fun i r => .inr (by omega)
      have g'2 : At h2 id (.cells vs' 2 false) := g'.ext X2
      have x'2 : Ext (Blk (some ⟨id, off, none⟩)) h h2 := x'.then0 X2
      refine K_fin [(0, _), (1, _), (5, _), (6, _), (7, _)] rfl (?_)
      refine K_reg (Wops_run rfl rfl (Wops_ldA (l := dte xs[j]) rfl g2 (by simp [putL_length]) rfl (Wops_callv rfl rfl (hF h2 x'2 _ (List.getElem_mem _)) ?_)))
      rintro _ _ ⟨rfl, rfl⟩
      refine Wops_run rfl rfl (K_fin [(0, _), (1, _), (5, _), (6, _), (7, _), (29, _)] rfl (?_))
      refine K_cond rfl (fun hd2 => ?_) (fun hd2 => ?_)
      · have hpj : p xs[j] = false := by simpa using hd2
        refine K_reg (Wops_run rfl rfl (Wops_run rfl rfl (Wops_ldA (l := dte xs[j]) rfl g2 (by simp [putL_length]) rfl (Wops_iaV rfl rfl ⟨by omega, by omega⟩ ?_))))
        refine Wops_st rfl rfl rfl rfl g'2 (by rw [Int.toNat_natCast]; omega) rfl fun h3 n3 x3 g3 => ?_
        rw [Int.toNat_natCast] at g3
        refine K_fin [(0, _), (1, _), (5, _), (6, _)] rfl (?_)
        refine K_last (Wops_run rfl rfl (Wops_run rfl rfl (Wops_run rfl rfl (K_finL [(0, _), (1, _), (5, _), (6, _)] rfl (?_)))))
        refine K_last (Wops_run rfl rfl (Wops_run rfl rfl (Wops_run rfl rfl (K_finL [(0, _), (1, _), (5, _), (6, _)] rfl (?_)))))
        refine ⟨n - (j + 1), by omega, i + 1, j + 1, ys.set i xs[j], _, by rw [w64s (by omega), w64s (by omega)], rfl, by omega, by omega, g3, x'2.trans (x3.mono fun i _ q => by rw [Blk.at]; exact q.symm), by rw [putL_length]; exact hl', win_set dte_len hd' hy (by omega) (by omega), by simp [hy], ?_, ?_⟩
        · rw [htake, ← ht, hpj]
          rw [List.take_add_one, List.getElem?_set_self (by omega), List.take_set_of_le (Nat.le_refl i)]; simp
        · rw [List.drop_set_of_lt (by omega), hdrop, ← hdr, List.drop_drop]
      · have hpj : p xs[j] = true := by simpa using hd2
        refine K_skip ?_
        refine K_last (Wops_run rfl rfl (Wops_run rfl rfl (Wops_run rfl rfl (K_finL [(0, _), (1, _), (5, _), (6, _)] rfl (?_)))))
        refine ⟨n - (j + 1), by omega, i, j + 1, ys, vs', by rw [w64s (by omega)], rfl, by omega, by omega, g'2, x'2, hl', hd', hy, ?_, ?_⟩
        · rw [htake, ← ht, hpj]; simp
        · rw [hdrop, ← hdr, List.drop_drop]
    · have hjn : j = n := by have := of_decide_eq_false hc; omega
      refine K_sexit (bx_same ?_)
      have o' : OwS h' 2 (some ⟨id, off, none⟩) n c (en dte ys) := ⟨by rw [en_length dte_len, hy], .inr ⟨id, off, vs', rfl, g', by omega, hd'⟩⟩
      refine K_reg (Wops_run rfl rfl (Wops_run rfl rfl (Wops_slV rfl rfl rfl o'.sl.ok (bounds_lo (by omega)) ?_)))
      refine Wops_clr (id := id) (off := off + i * 2) rfl g' (by omega) rfl rfl fun h1 x1 g1 => ?_
      refine K_fin [(0, _), (5, _)] rfl (?_)
      have o1 : OwS h1 2 (some ⟨id, off, none⟩) i c (en dte (ys.take i)) := by
        refine ⟨by rw [en_length dte_len]; simp; omega, .inr ⟨id, off, _, rfl, g1, by rw [putL_length]; omega, ?_⟩⟩
        rw [← en_take dte_len (by omega), ← hd', List.take_take, Nat.min_eq_left (by omega)]
        apply List.ext_getElem?
        intro m
        by_cases hm : m < i * 2
        · rw [List.getElem?_take_of_lt hm, List.getElem?_take_of_lt (by omega), List.getElem?_drop, List.getElem?_drop, putL_get _ _ _ _ (by rw [zeros_length]; simp; omega), if_neg (by omega)]
        · rw [List.getElem?_eq_none (by simp; omega), List.getElem?_eq_none (by simp; omega)]
      refine K_reg (Wops_run rfl rfl (Wops_run rfl rfl (Wops_slV rfl rfl rfl o1.sl.ok (bounds_hi (n := n) (by omega)) ?_)))
      refine Wops_run rfl rfl (K_fin [(4, _)] rfl (?_))
      refine K_ret (Told.mk _ rfl ⟨_, _, rfl, ?_, x'.trans (x1.mono fun i _ q => by rw [Blk.at]; exact q.symm), fun i q => by rwa [shift_blk] at q⟩)
      have ht2 : ys.take i = xs.filter (fun x => !p x) := by rw [ht, hjn, List.take_of_length_le (l := xs) (by omega)]
      rw [← ht2]
      simpa [shift] using o1
end Go.Dx.SYtfhdeagbgdnkaaa
