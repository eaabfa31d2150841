/- Contracts of the document's queue. -/
import Derived.Test.YtocdemagjocggaaLk2
namespace Go.Dx.SYtocdemagjocggaa
open Go.Proofs
set_option linter.unusedVariables false
set_option linter.unusedSimpArgs false

theorem us_cell (xs : List Int) : (us xs).all isCell = true := by simp [us, isCell]
theorem sub_cell {l : List Value} (h : l.all isCell = true) (i j : Nat) : ((l.drop i).take j).all isCell = true :=
  List.all_eq_true.2 fun x hx => List.all_eq_true.1 h x (List.mem_of_mem_drop (List.mem_of_mem_take hx))

/-- the document's find -/
theorem C58 {h : Heap} {p n c : Nat} {a : Option Addr} {xs : List Int} {x : Int} (g : At h p (.cells [.slice a n c] 0 false)) (s : SlA h 1 a n c (us xs)) (hb : n ≤ 1099511627776) :
    Fn Try.prog 58 [ptr p, .int .u64 x] h fun v h' => v = .int .i64 (ixF (· == x) xs) ∧ h = h' := by
  have hn : xs.length = n := by simpa using s.len
  refine fnK F58.fok rfl ?_
  refine K_reg (Wops_run rfl rfl (K_fin [(0, _), (1, _)] rfl (?_)))
  refine K_ss (K_reg (Wops_run rfl rfl (K_fin [(0, _), (1, _), (5, _)] rfl (?_))))
  refine K_sblock ?_
  refine K_loop (fun k e h' => ∃ i : Nat, e = [(0, ptr p), (1, .int .u64 x), (5, .int .i64 i)] ∧ h = h' ∧ i ≤ n ∧ k = n - i ∧ ∀ j (hj : j < i) (hl : j < xs.length), (xs[j] == x) = false) ?_ (k := n) ⟨0, rfl, rfl, by omega, rfl, fun j hj => by omega⟩
  rintro k e h' ⟨i, rfl, rfl, hi, rfl, hall⟩
  refine K_ss (K_reg (Wops_run rfl rfl (Wops_run rfl rfl (Wops_run rfl rfl (Wops_run rfl rfl (Wops_ld rfl g (by rfl) ?_))))))
  refine Wops_run rfl rfl (Wops_run rfl rfl (K_fin [(0, _), (1, _), (5, _), (12, _)] rfl (?_)))
  refine K_scond rfl (fun hc => ?_) (fun hc => ?_)
  · have hlt : i < n := by have := of_decide_eq_true hc; omega
    refine K_sskip (K_sblock ?_)
    refine K_reg (Wops_run rfl rfl (Wops_run rfl rfl (Wops_run rfl rfl (Wops_ld rfl g (by rfl) ?_))))
    refine Wops_run rfl rfl (Wops_idx (u := .int .u64 xs[i]) rfl rfl s ⟨by omega, by omega⟩ (by simp [hn, hlt]) fun p => ?_)
    refine Wops_run rfl rfl (Wops_run rfl rfl (K_fin [(0, _), (1, _), (5, _), (23, _)] rfl (?_)))
    refine K_cond rfl (fun hd => ?_) (fun hd => ?_)
    · refine K_reg (Wops_run rfl rfl (Wops_run rfl rfl (K_fin [(4, _)] rfl (?_))))
      refine K_ret (Told.mk _ rfl (show _ ∧ _ from ⟨?_, rfl⟩))
      rw [ixF_at (by omega) hd hall]; rfl
    · refine K_skip (K_last (Wops_run rfl rfl (Wops_run rfl rfl (Wops_run rfl rfl (K_finL [(0, _), (1, _), (5, _)] rfl (?_))))))
      refine ⟨n - (i + 1), by omega, i + 1, by rw [w64s (by omega)], rfl, by omega, rfl, fun j hj hl => ?_⟩
      by_cases hji : j = i
      · subst hji; exact hd
      · exact hall j (by omega) hl
  · have hin : i = n := by have := of_decide_eq_false hc; omega
    refine K_sexit (bx_same ?_)
    refine K_reg (Wops_run rfl rfl (K_fin [(4, _)] rfl (?_)))
    refine K_ret (Told.mk _ rfl (show _ ∧ _ from ⟨?_, rfl⟩))
    rw [ixF_none (fun j hj => hall j (by omega) hj)]; rfl

theorem C33 {h : Heap} {p n c : Nat} {a : Option Addr} {xs : List Int} (g : At h p (.cells [.slice a n c] 0 false)) (s : SlA h 1 a n c (us xs)) :
    Fn Try.prog 33 [ptr p] h fun v h' => v = .tuple ⟨[.int .u64 (fst' xs).1, .bool (fst' xs).2]⟩ ∧ h = h' := by
  have hn : xs.length = n := by simpa using s.len
  refine fnK F33.fok rfl ?_
  refine K_reg (Wops_run rfl rfl (Wops_run rfl rfl (K_fin [(0, _)] rfl (?_))))
  refine K_ss (K_reg (Wops_run rfl rfl (Wops_run rfl rfl (Wops_run rfl rfl (Wops_ld rfl g (by rfl) ?_)))))
  refine Wops_run rfl rfl (Wops_run rfl rfl (K_fin [(0, _), (9, _)] rfl (?_)))
  refine K_scond rfl (fun hc => ?_) (fun hc => ?_)
  · have h0 : n = 0 := by have := of_decide_eq_true hc; omega
    refine K_ss (K_reg (Wops_run rfl rfl (Wops_run rfl rfl (K_fin [(2, _), (3, _)] rfl (?_)))))
    refine K_sret (Told.mk _ rfl (show _ ∧ _ from ⟨?_, rfl⟩))
    have : xs = [] := List.eq_nil_of_length_eq_zero (by omega)
    subst this; rfl
  · have h0 : n ≠ 0 := by have := of_decide_eq_false hc; omega
    refine K_sskip (K_reg (Wops_run rfl rfl (Wops_run rfl rfl (Wops_run rfl rfl (Wops_ld rfl g (by rfl) ?_)))))
    obtain ⟨x, r, rfl⟩ := List.exists_cons_of_length_pos (show 0 < xs.length by omega)
    refine Wops_idx (u := .int .u64 x) rfl rfl s ⟨by omega, by omega⟩ (by simp [us]) fun p => ?_
    refine Wops_run rfl rfl (Wops_run rfl rfl (K_fin [(2, _), (3, _)] rfl (?_)))
    exact K_ret (Told.mk _ rfl (show _ ∧ _ from ⟨rfl, rfl⟩))

/-- the document's Ask -/
theorem C30 {h : Heap} {p : Nat} {xs : List Int} {S : Nat → Prop} {x : Int} (q : Qu h p xs S) (hb : xs.length ≤ 1000) :
    Fn Try.prog 30 [ptr p, .int .u64 x] h fun v h' => v = .tuple ⟨[.bool (askR xs x).1, .int .i64 (askR xs x).2.1]⟩ ∧ ∃ S', Qu h' p (askR xs x).2.2 S' ∧ Turn h h' S S' := by
  obtain ⟨a, n, c, g, o, hpa, hS⟩ := id q
  have hn : xs.length = n := by simpa using o.len
  have hin : ixF (· == x) xs ≥ 0 ↔ x ∈ xs := by
    have := @ixF_lt (· == x) xs
    constructor
    · intro q
      apply Classical.byContradiction
      intro hx
      have := this.2 fun y hy => by
        by_cases e : y = x
        · subst e; exact absurd hy hx
        · simp [e]
      omega
    · intro hx
      apply Classical.byContradiction
      intro q
      have := this.1 (by omega) x hx
      simp at this
  refine fnK F30.fok rfl ?_
  refine K_reg (Wops_run rfl rfl (Wops_run rfl rfl (K_fin [(0, _), (1, _)] rfl (?_))))
  refine K_ss (K_reg (Wops_run rfl rfl (Wops_run rfl rfl (Wops_call rfl (C58 g o.sl (by omega)) ?_))))
  rintro _ _ ⟨rfl, rfl⟩
  refine Wops_run rfl rfl (K_fin [(0, _), (1, _), (9, _)] rfl (?_))
  refine K_scond rfl (fun hx => ?_) (fun hx => ?_)
  · have hx := hin.1 (of_decide_eq_true hx)
    refine K_ss (K_reg (Wops_run rfl rfl (Wops_run rfl rfl (K_fin [(4, _), (5, _)] rfl (?_)))))
    refine K_sret (Told.mk _ rfl (show _ ∧ _ from ?_))
    have e : askR xs x = (false, 11, xs) := by unfold askR; rw [if_pos hx]
    rw [e]
    exact ⟨rfl, S, q, Turn.refl _ _⟩
  · have hx : ¬ x ∈ xs := fun r => of_decide_eq_false hx (hin.2 r)
    refine K_sskip (K_ss (K_reg (Wops_run rfl rfl (Wops_run rfl rfl (Wops_run rfl rfl (Wops_ld rfl g (by rfl) ?_))))))
    refine Wops_run rfl rfl (Wops_run rfl rfl (K_fin [(0, _), (1, _), (15, _)] rfl (?_)))
    refine K_scond rfl (fun hl => ?_) (fun hl => ?_)
    · have hl : xs.length > 3 := by have := of_decide_eq_true hl; omega
      refine K_ss (K_reg (Wops_run rfl rfl (Wops_run rfl rfl (K_fin [(4, _), (5, _)] rfl (?_)))))
      refine K_sret (Told.mk _ rfl (show _ ∧ _ from ?_))
      have e : askR xs x = (false, 13, xs) := by unfold askR; rw [if_neg hx, if_pos hl]
      rw [e]
      exact ⟨rfl, S, q, Turn.refl _ _⟩
    · have hl : ¬ xs.length > 3 := by have := of_decide_eq_false hl; omega
      have e : askR xs x = (xs.isEmpty, 0, xs ++ [x]) := by unfold askR; rw [if_neg hx, if_neg hl]
      rw [e]
      refine K_sskip (K_reg (Wops_run rfl rfl (Wops_bslice (l := []) rfl rfl fun h1 n1 x1 g1 => ?_)))
      refine Wops_run rfl rfl (Wops_run rfl rfl (Wops_run rfl rfl (Wops_ld rfl (x1.some0 g) (by rfl) ?_)))
      refine Wops_app rfl rfl (OwS.new (n := 0) g1 rfl) rfl (o.sl.ext x1).first ⟨by omega, by omega⟩ o.len (by simp [us, isCell]) (by decide) fun h2 a2 c2 x2 o2 b2 => ?_
      refine Wops_run rfl rfl (Wops_bslice (l := [.int .u64 x]) rfl rfl fun h3 n3 x3 g3 => ?_)
      refine Wops_app rfl rfl (o2.ext x3) rfl (SlA.mk' (n := 1) (c := 1) g3 (by simp) (.inr (.inr rfl))).first ⟨by omega, by omega⟩ rfl rfl (by decide) fun h4 a4 c4 x4 o4 b4 => ?_
      have hlt := g.lt
      have hn2 := x2.next
      have hp2 : ∀ i, Blk a2 i → h.next ≤ i := fun i r => by rcases b2 i r with r | r; (rw [Blk.at] at r; omega); omega
      have hp4 : ∀ i, Blk a4 i → h.next ≤ i := fun i r => by rcases b4 i r with r | r; exact hp2 i r; have := x3.next; omega
      have X : Ext0 h h4 := ((x1.then x2 fun i r => .inr (by rw [Blk.at] at r; omega)).then0 x3).then x4 fun i r => .inr (hp2 i r)
      refine Wops_run rfl rfl (Wops_run rfl rfl (Wops_st rfl rfl rfl rfl (X.some0 g) (by simp) rfl fun h5 n5 x5 g5 => ?_))
      refine K_fin [(0, _)] rfl (?_)
      refine K_reg (Wops_run rfl rfl (Wops_run rfl rfl (Wops_run rfl rfl (Wops_ld rfl g5 (by rfl) ?_))))
      refine Wops_run rfl rfl (Wops_run rfl rfl (Wops_run rfl rfl (Wops_run rfl rfl (K_fin [(4, _), (5, _)] rfl (?_)))))
      have hpa4 : ¬ Blk a4 p := fun r => by have := hp4 p r; omega
      refine K_ret (Told.mk _ rfl (show _ ∧ _ from ⟨?_, fun i => i = p ∨ Blk a4 i, ⟨a4, 0 + n + 1, c4, g5, ?_, hpa4, fun i => Iff.rfl⟩, ?_, ?_⟩))
      · show Value.tuple ⟨[.bool (((0 + n + 1 : Nat) : Int) == 1), .int .i64 0]⟩ = _
        have : (((0 + n + 1 : Nat) : Int) == 1) = xs.isEmpty := by
          rw [← hn]; cases xs <;> simp; omega
        rw [this]
      · have := o4.ext x5 (fun i r e => hpa4 (by rw [← e]; exact r))
        simpa [us] using this
      · exact X.of0.then x5 fun i r => .inl ((hS i).2 (.inl r))
      · intro i r
        rcases r with rfl | r
        · exact .inl ((hS _).2 (.inl rfl))
        · exact .inr (hp4 i r)

theorem erase_at (id : Int) : ∀ (xs : List Int) (k : Nat) (hk : k < xs.length), xs[k] = id → (∀ j (hj : j < k), (xs[j]'(by omega) == id) = false) → xs.take k ++ xs.drop (k + 1) = xs.erase id
  | [], k, hk, _, _ => by simp at hk
  | x :: xs, 0, _, h, _ => by simp at h; subst h; simp
  | x :: xs, k + 1, hk, h, hall => by
    have h0 := hall 0 (by omega)
    simp at h0
    rw [List.erase_cons_tail (by simpa using h0)]
    simp only [List.take_succ_cons, List.drop_succ_cons, List.cons_append]
    rw [erase_at id xs k (by simpa using hk) (by simpa using h) (fun j hj => by have := hall (j + 1) (by omega); simpa using this)]

/-- the document's Leave -/
theorem C31 {h : Heap} {p n2 c2 : Nat} {a2 : Option Addr} {xs ids : List Int} {S : Nat → Prop} (hnd : xs.Nodup) (q : Qu h p xs S) (s2 : SlA h 1 a2 n2 c2 (us ids)) (hd2 : ∀ i, Blk a2 i → ¬ S i) (hb : xs.length ≤ 1000) (hb2 : n2 ≤ 1000) :
    Fn Try.prog 31 [ptr p, .slice a2 n2 c2] h fun v h' => v = .tuple ⟨[.int .u64 (leaveR xs (leaveL xs ids)).1, .bool (leaveR xs (leaveL xs ids)).2]⟩ ∧ ∃ S', Qu h' p (leaveL xs ids) S' ∧ Turn h h' S S' := by
  have hn2 : ids.length = n2 := by simpa using s2.len
  obtain ⟨a, n, c, g, o, hpa, hS⟩ := id q
  have hn : xs.length = n := by simpa using o.len
  refine fnK F31.fok rfl ?_
  refine K_reg (Wops_run rfl rfl (Wops_run rfl rfl (K_fin [(0, _), (1, _)] rfl (?_))))
  refine K_reg (Wops_run rfl rfl (Wops_call rfl (C33 g o.sl) ?_))
  rintro _ _ ⟨rfl, rfl⟩
  refine Wops_run rfl rfl (Wops_run rfl rfl (Wops_run rfl rfl (Wops_run rfl rfl (Wops_run rfl rfl (K_fin [(0, _), (1, _), (6, _), (7, _)] rfl (?_))))))
  refine K_ss (K_reg (Wops_run rfl rfl (K_fin [(0, _), (1, _), (6, _), (7, _), (8, _)] rfl (?_))))
  refine K_sblock ?_
  refine K_loop (fun k e h' => ∃ (i : Nat) (S' : Nat → Prop), e = [(0, ptr p), (1, .slice a2 n2 c2), (6, .int .u64 (fst' xs).1), (7, .bool (fst' xs).2), (8, .int .i64 i)] ∧ i ≤ n2 ∧ k = n2 - i ∧ Qu h' p (leaveL xs (ids.take i)) S' ∧ Turn h h' S S' ∧ (leaveL xs (ids.take i)).Nodup) ?_ (k := n2) ⟨0, S, rfl, by omega, rfl, q, Turn.refl _ _, hnd⟩
  rintro k e h' ⟨i, S', rfl, hi, rfl, q', t, nd⟩
  refine K_ss (K_reg (Wops_run rfl rfl (Wops_run rfl rfl (Wops_run rfl rfl (Wops_run rfl rfl (K_fin [(0, _), (1, _), (6, _), (7, _), (8, _), (20, _)] rfl (?_)))))))
  have s2' : SlA h' 1 a2 n2 c2 (us ids) := s2.ext t.ext hd2
  have hlen := leaveL_le (ids.take i) xs
  obtain ⟨a', n', c', g', o', hpa', hS'⟩ := id q'
  have hn' : (leaveL xs (ids.take i)).length = n' := by simpa using o'.len
  refine K_scond rfl (fun hc => ?_) (fun hc => ?_)
  · have hlt : i < n2 := by have := of_decide_eq_true hc; omega
    have hnext : leaveL xs (ids.take (i + 1)) = (leaveL xs (ids.take i)).filter fun x => !(x == ids[i]) := by
      rw [List.take_add_one, List.getElem?_eq_getElem (by omega), Option.toList_some, leaveL_append]
    have nd' : (leaveL xs (ids.take (i + 1))).Nodup := by rw [hnext]; exact nd.filter _
    refine K_sskip (K_sblock ?_)
    refine K_reg (Wops_run rfl rfl (Wops_run rfl rfl (Wops_run rfl rfl (Wops_idx (u := .int .u64 ids[i]) rfl rfl s2' ⟨by omega, by omega⟩ (by simp [hn2, hlt]) fun pp => ?_))))
    refine Wops_call rfl (C58 g' o'.sl (by omega)) ?_
    rintro _ _ ⟨rfl, rfl⟩
    refine Wops_run rfl rfl (K_fin [(0, _), (1, _), (6, _), (7, _), (8, _), (9, _)] rfl (?_))
    refine K_reg (Wops_run rfl rfl (Wops_run rfl rfl (K_fin [(0, _), (1, _), (6, _), (7, _), (8, _), (9, _), (30, _)] rfl (?_))))
    rcases ixF_cases (· == ids[i]) (leaveL xs (ids.take i)) with ⟨hix, hall⟩ | ⟨k0, hk0, hix, hpk, hall⟩
    · rw [hix]
      refine K_cond rfl (fun hc => by cases hc) (fun _ => ?_)
      refine K_skip (K_last (Wops_run rfl rfl (Wops_run rfl rfl (Wops_run rfl rfl (K_finL [(0, _), (1, _), (6, _), (7, _), (8, _)] rfl (?_))))))
      refine ⟨n2 - (i + 1), by omega, i + 1, S', by rw [w64s (by omega)], by omega, rfl, ?_, t, nd'⟩
      rw [hnext, List.filter_eq_self.2 (fun x hx => by simpa using hall x hx)]; exact q'
    · rw [hix]
      have her : (leaveL xs (ids.take i)).take k0 ++ (leaveL xs (ids.take i)).drop (k0 + 1) = leaveL xs (ids.take (i + 1)) := by
        rw [hnext, erase_at ids[i] _ k0 hk0 (by simpa using hpk) hall, nd.erase_eq_filter]; rfl
      obtain ⟨zs, hzs⟩ : ∃ zs, zs = leaveL xs (ids.take (i + 1)) := ⟨_, rfl⟩
      obtain ⟨ys, hys⟩ : ∃ ys, ys = leaveL xs (ids.take i) := ⟨_, rfl⟩
      rw [← hys, ← hzs] at her
      simp only [← hys] at hk0 o' hn' hlen q'
      refine K_cond rfl (fun _ => ?_) (fun hc => by have := of_decide_eq_false hc; omega)
      refine K_last (Wops_run rfl rfl (Wops_bslice (l := []) rfl rfl fun h1 n1 x1 g1 => ?_))
      have o1 := o'.ext x1
      refine Wops_run rfl rfl (Wops_run rfl rfl (Wops_run rfl rfl (Wops_ld rfl (x1.some0 g') (by rfl) ?_)))
      refine Wops_run rfl rfl (Wops_slV rfl rfl rfl o1.sl.ok (bounds_hi (i := k0) (by omega)) ?_)
      refine Wops_run rfl rfl (Wops_run rfl rfl (Wops_run rfl rfl (Wops_ld rfl (x1.some0 g') (by rfl) ?_)))
      refine Wops_run rfl rfl (Wops_run (v := .int .i64 ((k0 + 1 : Nat) : Int)) (h' := h1) rfl (by rw [← w64s (by omega)]; rfl) ?_)
      refine Wops_slV rfl rfl rfl o1.sl.ok (bounds_lo (i := k0 + 1) (by omega)) ?_
      have sA := o1.sl.sub (i := 0) (j := k0) (by omega) (by omega)
      have sB := o1.sl.sub (i := k0 + 1) (j := n') (by omega) (Nat.le_refl _)
      refine Wops_app rfl rfl (OwS.new (n := 0) g1 rfl) rfl sA.first ⟨by omega, by omega⟩ sA.len (sub_cell (us_cell _) _ _) (by decide) fun h2 a3 c3 x2 o2 b2 => ?_
      have hlt2 := g'.lt
      have nx2 := x2.next
      have ne2 : ∀ j, Blk a' j → ¬ Blk (some ⟨h'.next, 0, none⟩) j := fun j r e => by rw [Blk.at] at e; have := o'.lt r; omega
      have X2 : Ext0 h' h2 := x1.then x2 fun j r => .inr (by rw [Blk.at] at r; omega)
      refine Wops_chk rfl rfl (X2.some0 g') (by rfl) o1.sl.same ?_
      refine Wops_chkV rfl rfl rfl rfl (o1.ext x2 ne2).sl.ok (bounds_lo (i := k0 + 1) (by omega)) sB.same ?_
      refine Wops_app rfl rfl o2 rfl (sB.ext x2 (fun j r => ne2 j (shift_blk.1 r))).first ⟨by omega, by omega⟩ sB.len (sub_cell (us_cell _) _ _) (by decide) fun h3 a4 c4 x3 o3 b3 => ?_
      have hp3 : ∀ j, Blk a3 j → h'.next ≤ j := fun j r => by rcases b2 j r with r | r; (rw [Blk.at] at r; omega); omega
      have hp4 : ∀ j, Blk a4 j → h'.next ≤ j := fun j r => by rcases b3 j r with r | r; exact hp3 j r; omega
      have X3 : Ext0 h' h3 := X2.then x3 fun j r => .inr (hp3 j r)
      have hpa4 : ¬ Blk a4 p := fun r => by have := hp4 p r; omega
      refine Wops_run rfl rfl (Wops_run rfl rfl (Wops_st rfl rfl rfl rfl (X3.some0 g') (by simp) rfl fun h4 n4 x4 g4 => ?_))
      refine K_finL [(0, _), (1, _), (6, _), (7, _), (8, _)] rfl (?_)
      refine K_last (Wops_run rfl rfl (Wops_run rfl rfl (Wops_run rfl rfl (K_finL [(0, _), (1, _), (6, _), (7, _), (8, _)] rfl (?_)))))
      refine ⟨n2 - (i + 1), by omega, i + 1, fun j => j = p ∨ Blk a4 j, by rw [w64s (by omega)], by omega, rfl, ⟨a4, _, c4, g4, ?_, hpa4, fun j => Iff.rfl⟩, ?_, nd'⟩
      · have := o3.ext x4 (fun j r e => hpa4 (by rw [← e]; exact r))
        have hz : [] ++ List.take ((k0 - 0) * 1) (List.drop (0 * 1) (us ys)) ++ List.take ((n' - (k0 + 1)) * 1) (List.drop ((k0 + 1) * 1) (us ys)) = us zs := by
          rw [← her, List.take_of_length_le (i := (n' - (k0 + 1)) * 1) (by simp; omega)]
          simp [us]
        rw [hz, hzs] at this
        exact this
      · refine t.trans ⟨X3.of0.then x4 fun j r => .inl ((hS' j).2 (.inl r)), fun j r => ?_⟩
        rcases r with rfl | r
        · exact .inl ((hS' _).2 (.inl rfl))
        · exact .inr (hp4 j r)
  · have hin : i = n2 := by have := of_decide_eq_false hc; omega
    have htk : ids.take i = ids := List.take_of_length_le (by omega)
    rw [htk] at q' o' hn' hlen
    refine K_sexit (bx_same ?_)
    refine K_reg (Wops_run rfl rfl (Wops_call rfl (C33 g' o'.sl) ?_))
    rintro _ _ ⟨rfl, rfl⟩
    refine Wops_run rfl rfl (Wops_run rfl rfl (Wops_run rfl rfl (Wops_run rfl rfl (Wops_run rfl rfl (K_fin [(6, _), (7, _), (10, _), (11, _)] rfl (?_))))))
    have fin : ∀ v, v = Value.tuple ⟨[.int .u64 (leaveR xs (leaveL xs ids)).1, .bool (leaveR xs (leaveL xs ids)).2]⟩ → v = .tuple ⟨[.int .u64 (leaveR xs (leaveL xs ids)).1, .bool (leaveR xs (leaveL xs ids)).2]⟩ ∧ ∃ S', Qu h' p (leaveL xs ids) S' ∧ Turn h h' S S' := fun v e => ⟨e, S', q', t⟩
    clear nd
    generalize leaveL xs ids = ys at *
    refine K_ss (K_reg (Wops_run rfl rfl (Wops_run rfl rfl (Wops_run rfl rfl ?_))))
    cases h2 : (fst' ys).2 with
    | false =>
      refine Wops_skip rfl (Wops_skip rfl (Wops_skip rfl (Wops_skip rfl (Wops_skip rfl (Wops_skip rfl (Wops_run rfl rfl (K_fin [(10, _), (64, _)] rfl (?_))))))))
      refine K_scond rfl (fun _ => ?_) (fun hc => by cases hc)
      refine K_ss (K_reg (Wops_run rfl rfl (Wops_run rfl rfl (K_fin [(4, _), (5, _)] rfl (?_)))))
      exact K_sret (Told.mk _ rfl (fin _ (by simp [leaveR, h2]; rfl)))
    | true =>
      refine Wops_go rfl (Wops_run rfl rfl (Wops_go rfl (Wops_run rfl rfl ?_)))
      have out : ∀ (Qf : Value → Heap → Prop), Qf (.tuple ⟨[.int .u64 (fst' ys).1, .bool true]⟩) h' → W Try.prog (.seq .skip (.seq (.region [⟨some 65, none, .mov (.t 10)⟩, ⟨some 4, none, .mov (.t 65)⟩, ⟨some 5, none, .mov (.c (.bool true))⟩] [4, 5]) .ret)) [(10, .int .u64 (fst' ys).1), (64, .bool false)] h' (K3 (Told F31.res Qf) (fun _ _ _ => False) (Told F31.res Qf)) := fun Qf hQ => by
        refine K_sskip (K_reg (Wops_run rfl rfl (Wops_run rfl rfl (Wops_run rfl rfl (K_fin [(4, _), (5, _)] rfl (?_))))))
        exact K_ret (Told.mk _ rfl hQ)
      cases h1 : (fst' xs).2 with
      | false =>
        refine Wops_skip rfl (Wops_skip rfl (Wops_skip rfl (Wops_go rfl (Wops_run rfl rfl (Wops_run rfl rfl (K_fin [(10, _), (64, _)] rfl (?_)))))))
        refine K_scond rfl (fun hc => by cases hc) (fun _ => out _ (fin _ (by simp [leaveR, h1, h2])))
      | true =>
        refine Wops_go rfl (Wops_run rfl rfl (Wops_go rfl (Wops_run rfl rfl (Wops_go rfl (Wops_run rfl rfl (Wops_go rfl (Wops_run rfl rfl (Wops_run rfl rfl (K_fin [(10, _), (64, _)] rfl (?_))))))))))
        cases h3 : (fst' xs).1 == (fst' ys).1 with
        | true =>
          refine K_scond rfl (fun _ => ?_) (fun hc => by cases hc)
          refine K_ss (K_reg (Wops_run rfl rfl (Wops_run rfl rfl (K_fin [(4, _), (5, _)] rfl (?_)))))
          exact K_sret (Told.mk _ rfl (fin _ (by simp [leaveR, h1, h2, eq_of_beq h3]; rfl)))
        | false =>
          refine K_scond rfl (fun hc => by cases hc) (fun _ => out _ (fin _ ?_))
          have : (fst' xs).1 ≠ (fst' ys).1 := fun e => by simp [e] at h3
          simp [leaveR, h1, h2, this]

/-- the document's Waits -/
theorem C35 {h : Heap} {p : Nat} {xs : List Int} {S : Nat → Prop} (q : Qu h p xs S) (hb : xs.length ≤ 1000) :
    Fn Try.prog 35 [ptr p] h fun v h' => ∃ a' c', v = .slice a' (xs.length - 1) c' ∧ OwS h' 1 a' (xs.length - 1) c' (us xs.tail) ∧ Ext0 h h' ∧ ∀ i, Blk a' i → h.next ≤ i := by
  obtain ⟨a, n, c, g, o, hpa, hS⟩ := id q
  have hn : xs.length = n := by simpa using o.len
  refine fnK F35.fok rfl ?_
  refine K_reg (Wops_run rfl rfl (K_fin [(0, _)] rfl (?_)))
  refine K_ss (K_reg (Wops_run rfl rfl (Wops_run rfl rfl (Wops_run rfl rfl (Wops_ld rfl g (by rfl) ?_)))))
  refine Wops_run rfl rfl (Wops_run rfl rfl (K_fin [(0, _), (8, _)] rfl (?_)))
  refine K_scond rfl (fun hc => ?_) (fun hc => ?_)
  · have h0 : n = 0 := by have := of_decide_eq_true hc; omega
    refine K_ss (K_reg (Wops_run rfl rfl (K_fin [(2, _)] rfl (?_))))
    have : xs = [] := List.eq_nil_of_length_eq_zero (by omega)
    subst this
    exact K_sret (Told.mk _ rfl ⟨none, 0, rfl, OwS.none, Ext.refl _ _, fun i r => absurd r Blk.none⟩)
  · have h0 : n ≠ 0 := by have := of_decide_eq_false hc; omega
    refine K_sskip (K_reg (Wops_bslice (l := []) rfl rfl fun h1 n1 x1 g1 => ?_))
    refine Wops_run rfl rfl (Wops_run rfl rfl (Wops_run rfl rfl (Wops_ld rfl (x1.some0 g) (by rfl) ?_)))
    have s1 := (o.ext x1).sl.sub (i := 1) (j := n) (by omega) (Nat.le_refl _)
    have hu : List.take ((n - 1) * 1) (List.drop (1 * 1) (us xs)) = us xs.tail := by
      rw [List.take_of_length_le (by simp; omega)]
      cases xs <;> simp
    rw [hu] at s1
    refine Wops_slV rfl rfl rfl (o.ext x1).sl.ok (bounds_lo (i := 1) (by omega)) ?_
    refine Wops_app rfl rfl (OwS.new (n := 0) g1 rfl) rfl s1.first ⟨by omega, by omega⟩ s1.len (us_cell _) (by decide) fun h2 a2 c2 x2 o2 b2 => ?_
    refine Wops_run rfl rfl (K_fin [(2, _)] rfl (?_))
    refine K_ret (Told.mk _ rfl ⟨a2, c2, by rw [hn, Nat.zero_add]; rfl, by rw [hn]; simpa using o2, x1.then x2 fun i r => .inr (by rw [Blk.at] at r; omega), fun i r => ?_⟩)
    rcases b2 i r with r | r
    · rw [Blk.at] at r; omega
    · omega

/-- cloakroomref1.SameNums -/
theorem C34 {h : Heap} {a b : Option Addr} {n m c d : Nat} {xs ys : List Int} (s : SlA h 1 a n c (us xs)) (s2 : SlA h 1 b m d (us ys)) (hb : n ≤ 1099511627776) :
    Fn Try.prog 34 [.slice a n c, .slice b m d] h fun v h' => v = .bool (decide (xs = ys)) ∧ h = h' := by
  have hn : xs.length = n := by simpa using s.len
  have hm : ys.length = m := by simpa using s2.len
  refine fnK F34.fok rfl ?_
  refine K_reg (Wops_run rfl rfl (K_fin [(0, _), (1, _)] rfl (?_)))
  refine K_ss (K_reg (Wops_run rfl rfl (Wops_run rfl rfl (Wops_run rfl rfl (Wops_run rfl rfl (Wops_run rfl rfl (K_fin [(0, _), (1, _), (10, _)] rfl (?_))))))))
  refine K_scond rfl (fun hc => ?_) (fun hc => ?_)
  · have hne : n ≠ m := fun e => by subst e; simp at hc
    refine K_ss (K_reg (Wops_run rfl rfl (K_fin [(4, _)] rfl (?_))))
    refine K_sret (Told.mk _ rfl (show _ ∧ _ from ⟨?_, rfl⟩))
    rw [decide_eq_false (fun e => hne (by rw [← hn, ← hm, e]))]; rfl
  · have hnm : n = m := by
      have h1 : ((n : Int) != (m : Int)) = false := hc
      simp at h1; omega
    subst hnm
    refine K_sskip (K_ss (K_reg (Wops_run rfl rfl (K_fin [(0, _), (1, _), (5, _)] rfl (?_)))))
    refine K_sblock ?_
    refine K_loop (fun k e h' => ∃ i : Nat, e = [(0, .slice a n c), (1, .slice b n d), (5, .int .i64 i)] ∧ h = h' ∧ i ≤ n ∧ k = n - i ∧ xs.take i = ys.take i) ?_ (k := n) ⟨0, rfl, rfl, by omega, rfl, rfl⟩
    rintro k e h' ⟨i, rfl, rfl, hi, rfl, ht⟩
    refine K_ss (K_reg (Wops_run rfl rfl (Wops_run rfl rfl (Wops_run rfl rfl (Wops_run rfl rfl (K_fin [(0, _), (1, _), (5, _), (14, _)] rfl (?_)))))))
    refine K_scond rfl (fun hc => ?_) (fun hc => ?_)
    · have hlt : i < n := by have := of_decide_eq_true hc; omega
      refine K_sskip (K_sblock ?_)
      refine K_reg (Wops_run rfl rfl (Wops_run rfl rfl (Wops_idx (u := .int .u64 xs[i]) rfl rfl s ⟨by omega, by omega⟩ (by simp [hn, hlt]) fun p => ?_)))
      refine Wops_run rfl rfl (Wops_run rfl rfl (Wops_idx (u := .int .u64 ys[i]) rfl rfl s2 ⟨by omega, by omega⟩ (by simp [hm, hlt]) fun p => ?_))
      refine Wops_run rfl rfl (K_fin [(0, _), (1, _), (5, _), (25, _)] rfl (?_))
      refine K_cond rfl (fun hd => ?_) (fun hd => ?_)
      · refine K_reg (Wops_run rfl rfl (K_fin [(4, _)] rfl (?_)))
        refine K_ret (Told.mk _ rfl (show _ ∧ _ from ⟨?_, rfl⟩))
        rw [decide_eq_false (fun e => by subst e; simp at hd)]; rfl
      · refine K_skip (K_last (Wops_run rfl rfl (Wops_run rfl rfl (Wops_run rfl rfl (K_finL [(0, _), (1, _), (5, _)] rfl (?_))))))
        refine ⟨n - (i + 1), by omega, i + 1, by rw [w64s (by omega)], rfl, by omega, rfl, ?_⟩
        have h1 : (xs[i] != ys[i]) = false := hd
        have h2 : xs[i] = ys[i] := by simpa using h1
        rw [List.take_add_one, List.take_add_one, ht, List.getElem?_eq_getElem (by omega), List.getElem?_eq_getElem (by omega), h2]
    · have hin : i = n := by have := of_decide_eq_false hc; omega
      refine K_sexit (bx_same ?_)
      refine K_reg (Wops_run rfl rfl (K_fin [(4, _)] rfl (?_)))
      refine K_ret (Told.mk _ rfl (show _ ∧ _ from ⟨?_, rfl⟩))
      rw [List.take_of_length_le (by omega), List.take_of_length_le (by omega)] at ht
      rw [decide_eq_true ht]; rfl
end Go.Dx.SYtocdemagjocggaa
