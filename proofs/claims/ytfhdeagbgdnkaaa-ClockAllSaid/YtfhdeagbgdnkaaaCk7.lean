/- ClockAll: the document's clock (Drop, Tick). -/
import Derived.Test.YtfhdeagbgdnkaaaCk6
namespace Go.Dx.SYtfhdeagbgdnkaaa
open Go.Proofs
set_option linter.unusedVariables false
set_option linter.unusedSimpArgs false

abbrev Uq (ds : List D) : Prop := (ds.map (·.1)).Nodup
theorem Uq.filter {ds : List D} (u : Uq ds) (p : D → Bool) : Uq (ds.filter p) := List.Nodup.sublist (List.Sublist.map _ List.filter_sublist) u
theorem cut_at (id : Int) : ∀ (ds : List D) (k : Nat) (hk : k < ds.length), ds[k].1 = id → (∀ j (hj : j < k), ((ds[j]'(by omega)).1 == id) = false) → Uq ds → ds.take k ++ ds.drop (k + 1) = dropR ds [id]
  | [], k, hk, _, _, _ => by simp at hk
  | x :: xs, 0, _, h, _, u => by
    simp at h
    have u' := List.nodup_cons.1 (show (x.1 :: xs.map (·.1)).Nodup from u)
    simp only [List.take_zero, List.nil_append, dropR, Nat.zero_add, List.drop_one, List.tail_cons]
    rw [List.filter_cons, if_neg (by simp [h])]
    exact (List.filter_eq_self.2 fun d hd => by
      have : d.1 ∈ xs.map (·.1) := List.mem_map.2 ⟨d, hd, rfl⟩
      have hne : ¬ d.1 = id := fun e => u'.1 (by rw [h, ← e]; exact this)
      simp [hne]).symm
  | x :: xs, k + 1, hk, h, hall, u => by
    have h0 := hall 0 (by omega)
    simp at h0
    have u' := List.nodup_cons.1 (show (x.1 :: xs.map (·.1)).Nodup from u)
    have ih := cut_at id xs k (by simpa using hk) (by simpa using h) (fun j hj => by have := hall (j + 1) (by omega); simpa using this) u'.2
    simp only [List.take_succ_cons, List.drop_succ_cons, List.cons_append, ih, dropR]
    rw [List.filter_cons, if_pos (by simp [h0])]
theorem drop_none {ds : List D} {id : Int} (h : ∀ d ∈ ds, (d.1 == id) = false) : dropR ds [id] = ds := by
  unfold dropR
  exact List.filter_eq_self.2 fun d hd => by have := h d hd; simp at this; simp [this]
theorem drop_snoc (ds : List D) (ids : List Int) (id : Int) : dropR ds (ids ++ [id]) = dropR (dropR ds ids) [id] := by
  unfold dropR
  rw [List.filter_filter]
  apply List.filter_congr
  intro d _
  by_cases h1 : d.1 ∈ ids <;> by_cases h2 : d.1 = id <;> simp [h1, h2]
theorem dropR_len (ds : List D) (ids : List Int) : (dropR ds ids).length ≤ ds.length := List.length_filter_le _ _

/-- the document's Drop -/
theorem C40 {h : Heap} {p n2 c2 : Nat} {a2 : Option Addr} {ds : List D} {ids : List Int} {now : Int} {S : Nat → Prop} (u : Uq ds) (q : Dk h p ds now S) (si : SlA h 1 a2 n2 c2 (us ids)) (hd2 : ∀ i, Blk a2 i → i < h.next ∧ ¬ S i) (hb : ds.length ≤ 1000) (hb2 : n2 ≤ 1000) :
    Fn Try.prog 40 [ptr p, .slice a2 n2 c2] h fun v h' => ∃ S', Dk h' p (dropR ds ids) now S' ∧ Turn h h' S S' := by
  have hn2 : ids.length = n2 := by simpa using si.len
  refine fnK F40.fok rfl ?_
  refine K_reg (Wops_run rfl rfl (K_fin [(0, _), (1, _), (4, _)] rfl (?_)))
  refine K_block ?_
  refine K_loop (fun k e h' => ∃ (i : Nat) (S' : Nat → Prop), e = [(0, ptr p), (1, .slice a2 n2 c2), (4, .int .i64 i)] ∧ i ≤ n2 ∧ k = n2 - i ∧ Dk h' p (dropR ds (ids.take i)) now S' ∧ Turn h h' S S') ?_ (k := n2) ⟨0, S, rfl, by omega, rfl, by rw [List.take_zero, drop_nil]; exact q, Turn.refl _ _⟩
  rintro k e h' ⟨i, S', rfl, hi, rfl, q', t⟩
  have si' : SlA h' 1 a2 n2 c2 (us ids) := si.ext t.ext fun i r => (hd2 i r).2
  have hlen := dropR_len ds (ids.take i)
  refine K_ss (K_reg (Wops_run rfl rfl (Wops_run rfl rfl (Wops_run rfl rfl (Wops_run rfl rfl (K_fin [(0, _), (1, _), (4, _), (9, _)] rfl (?_)))))))
  refine K_scond rfl (fun hc => ?_) (fun hc => ?_)
  · have hlt : i < n2 := by have := of_decide_eq_true hc; omega
    have u' : Uq (dropR ds (ids.take i)) := u.filter _
    have htk : ids.take (i + 1) = ids.take i ++ [ids[i]] := take_snoc (by omega)
    refine K_sskip (K_sblock ?_)
    refine K_reg (Wops_run rfl rfl (Wops_run rfl rfl (Wops_run rfl rfl (Wops_idx (u := .int .u64 ids[i]) rfl rfl si' ⟨by omega, by omega⟩ (by simp [hn2, hlt]) fun pp => ?_))))
    refine Wops_call rfl (C55 q' (by omega)) ?_
    rintro _ _ ⟨rfl, rfl⟩
    refine Wops_run rfl rfl (K_fin [(0, _), (1, _), (4, _), (5, _)] rfl (?_))
    have tail : ∀ {h2 : Heap} {S2 : Nat → Prop}, Dk h2 p (dropR (dropR ds (ids.take i)) [ids[i]]) now S2 → Turn h' h2 S' S2 → ∃ k', k' < n2 - i ∧ ∃ (j : Nat) (S2 : Nat → Prop), ([(0, ptr p), (1, .slice a2 n2 c2), (4, .int .i64 (IntKind.wrap .i64 ((i : Int) + 1)))] : Env) = [(0, ptr p), (1, .slice a2 n2 c2), (4, .int .i64 j)] ∧ j ≤ n2 ∧ k' = n2 - j ∧ Dk h2 p (dropR ds (ids.take j)) now S2 ∧ Turn h h2 S S2 := fun q2 t2 =>
      ⟨n2 - (i + 1), by omega, i + 1, _, by rw [w64s (by omega)], by omega, rfl, by rw [htk, drop_snoc]; exact q2, t.trans t2⟩
    generalize hds' : dropR ds (ids.take i) = ds' at *
    refine K_reg (Wops_run rfl rfl (Wops_run rfl rfl (K_fin [(0, _), (1, _), (4, _), (5, _), (19, _)] rfl (?_))))
    rcases ixG_cases (fun d => d.1 == ids[i]) ds' with ⟨hix, hall⟩ | ⟨k, hk, hix, hp0, hall⟩
    · rw [hix]
      refine K_cond rfl (fun hc => by cases hc) (fun _ => ?_)
      refine K_skip (K_last (Wops_run rfl rfl (Wops_run rfl rfl (Wops_run rfl rfl (K_finL [(0, _), (1, _), (4, _)] rfl (?_))))))
      exact tail (by rw [drop_none hall]; exact q') (Turn.refl _ _)
    · rw [hix]
      refine K_cond rfl (fun _ => ?_) (fun hc => by have := of_decide_eq_false hc; omega)
      have hcut := cut_at ids[i] ds' k hk (eq_of_beq hp0) hall u'
      obtain ⟨a, n, c, b, m, d, g, s, s2, hpa, hpb, hl, hS⟩ := id q'
      have hn : ds'.length = n := by have := s.len; simpa using this
      have hm : ds'.length = m := by have := s2.len; simpa using this
      have hlt' := g.lt
      have sA := s.sub (i := 0) (j := k) (by omega) (by omega)
      have sB := s.sub (i := k + 1) (j := n) (by omega) (by omega)
      have sC := s2.sub (i := 0) (j := k) (by omega) (by omega)
      have sD := s2.sub (i := k + 1) (j := m) (by omega) (by omega)
      refine K_last (Wops_run rfl rfl (Wops_run rfl rfl (Wops_bslice (l := []) rfl rfl fun h1 n1 x1 g1 => ?_)))
      refine Wops_run rfl rfl (Wops_run rfl rfl (Wops_run rfl rfl (Wops_ld rfl (x1.some0 g) (by rfl) (Wops_run rfl rfl (Wops_slV rfl rfl rfl (s.ext x1).ok (bounds_hi (i := k) (by omega)) ?_)))))
      refine Wops_run rfl rfl (Wops_run rfl rfl (Wops_run rfl rfl (Wops_ld rfl (x1.some0 g) (by rfl) (Wops_run rfl rfl (Wops_as (w := .int .i64 ((k + 1 : Nat) : Int)) rfl rfl (by rw [w64s (by omega)]) (Wops_slV rfl rfl rfl (s.ext x1).ok (bounds_lo (i := k + 1) (by omega)) ?_))))))
      refine Wops_bslice (l := []) rfl rfl fun h2 n2' x2 g2 => ?_
      have X2 : Ext0 h' h2 := x1.trans x2
      refine Wops_run rfl rfl (Wops_run rfl rfl (Wops_run rfl rfl (Wops_ld rfl (X2.some0 g) (by rfl) (Wops_run rfl rfl (Wops_slV rfl rfl rfl (s2.ext X2).ok (bounds_hi (i := k) (by omega)) ?_)))))
      refine Wops_run rfl rfl (Wops_run rfl rfl (Wops_run rfl rfl (Wops_ld rfl (X2.some0 g) (by rfl) (Wops_run rfl rfl (Wops_as (w := .int .i64 ((k + 1 : Nat) : Int)) rfl rfl (by rw [w64s (by omega)]) (Wops_slV rfl rfl rfl (s2.ext X2).ok (bounds_lo (i := k + 1) (by omega)) ?_))))))
      have o1 : OwS h2 1 (some ⟨h'.next, 0, none⟩) 0 0 [] := (OwS.new (n := 0) (c := 0) g1 rfl).ext x2
      have o2 : OwS h2 1 (some ⟨h1.next, 0, none⟩) 0 0 [] := OwS.new (n := 0) (c := 0) g2 rfl
      refine Wops_app rfl rfl o1 rfl (sA.ext X2).first ⟨by omega, by omega⟩ sA.len (by simp only [us, ← List.map_drop, ← List.map_take]; exact us_cell _) (by decide) fun h3 a3 c3 x3 o3 b3 => ?_
      have X3 : Ext0 h' h3 := X2.then x3 fun i r => .inr (by rw [Blk.at] at r; omega)
      refine Wops_chk rfl rfl (X3.some0 g) (by rfl) s.same (Wops_chkV rfl rfl rfl rfl (s.ext X3).ok (bounds_lo (i := k + 1) (by omega)) sB.same ?_)
      refine Wops_chk rfl rfl (X3.some0 g) (by rfl) s2.same (Wops_chkV rfl rfl rfl rfl (s2.ext X3).ok (bounds_hi (i := k) (by omega)) sC.same ?_)
      refine Wops_chk rfl rfl (X3.some0 g) (by rfl) s2.same (Wops_chkV rfl rfl rfl rfl (s2.ext X3).ok (bounds_lo (i := k + 1) (by omega)) sD.same ?_)
      have f3 : ∀ i, Blk a3 i → i = h'.next ∨ h2.next ≤ i := fun i r => (b3 i r).elim (fun r => by rw [Blk.at] at r; exact .inl r.symm) .inr
      refine Wops_app rfl rfl o3 rfl (sB.ext X3).first ⟨by omega, by omega⟩ sB.len (by simp only [us, ← List.map_drop, ← List.map_take]; exact us_cell _) (by decide) fun h4 a4 c4 x4 o4 b4 => ?_
      have X4 : Ext0 h' h4 := X3.then x4 fun i r => .inr (by rcases f3 i r with r | r <;> omega)
      have e3 := x3.next
      have e4 := x4.next
      have f4 : ∀ i, Blk a4 i → i = h'.next ∨ h2.next ≤ i := fun i r => (b4 i r).elim (f3 i) fun r => .inr (by omega)
      refine Wops_chk rfl rfl (X4.some0 g) (by rfl) s2.same (Wops_chkV rfl rfl rfl rfl (s2.ext X4).ok (bounds_hi (i := k) (by omega)) sC.same ?_)
      refine Wops_chk rfl rfl (X4.some0 g) (by rfl) s2.same (Wops_chkV rfl rfl rfl rfl (s2.ext X4).ok (bounds_lo (i := k + 1) (by omega)) sD.same ?_)
      have o24 : OwS h4 1 (some ⟨h1.next, 0, none⟩) 0 0 [] := (o2.ext x3 fun i r e => by rw [Blk.at] at r e; omega).ext x4 fun i r e => by rw [Blk.at] at r; rcases f3 i e with u | u <;> omega
      refine Wops_app rfl rfl o24 rfl (sC.ext X4).first ⟨by omega, by omega⟩ sC.len (by simp only [us, ← List.map_drop, ← List.map_take]; exact us_cell _) (by decide) fun h5 a5 c5 x5 o5 b5 => ?_
      have X5 : Ext0 h' h5 := X4.then x5 fun i r => .inr (by rw [Blk.at] at r; omega)
      have e5 := x5.next
      have f5 : ∀ i, Blk a5 i → i = h1.next ∨ h4.next ≤ i := fun i r => (b5 i r).elim (fun r => by rw [Blk.at] at r; exact .inl r.symm) .inr
      refine Wops_chk rfl rfl (X5.some0 g) (by rfl) s2.same (Wops_chkV rfl rfl rfl rfl (s2.ext X5).ok (bounds_lo (i := k + 1) (by omega)) sD.same ?_)
      refine Wops_app rfl rfl o5 rfl (sD.ext X5).first ⟨by omega, by omega⟩ sD.len (by simp only [us, ← List.map_drop, ← List.map_take]; exact us_cell _) (by decide) fun h6 a6 c6 x6 o6 b6 => ?_
      have X6 : Ext0 h' h6 := X5.then x6 fun i r => .inr (by rcases f5 i r with r | r <;> omega)
      have e6 := x6.next
      have f6 : ∀ i, Blk a6 i → i = h1.next ∨ h4.next ≤ i := fun i r => (b6 i r).elim (f5 i) fun r => .inr (by omega)
      have o46 := (o4.ext x5 fun i r e => by rw [Blk.at] at e; rcases f4 i r with u | u <;> omega).ext x6 fun i r e => by
        have := o4.lt r
        rcases f4 i r with u | u <;> rcases f5 i e with w | w <;> omega
      have pa4 : ¬ Blk a4 p := fun r => by rcases f4 p r with u | u <;> omega
      have pa6 : ¬ Blk a6 p := fun r => by rcases f6 p r with u | u <;> omega
      refine Wops_run rfl rfl (Wops_run rfl rfl (Wops_st rfl rfl rfl rfl (X6.some0 g) (by simp) rfl fun h7 n7 x7 g7 => ?_))
      refine Wops_run rfl rfl (Wops_run rfl rfl (Wops_st rfl rfl rfl rfl g7 (by rw [putL_length]; simp) rfl fun h8 n8 x8 g8 => ?_))
      refine K_finL [(0, _), (1, _), (4, _)] rfl (?_)
      refine K_last (Wops_run rfl rfl (Wops_run rfl rfl (Wops_run rfl rfl (K_finL [(0, _), (1, _), (4, _)] rfl (?_)))))
      have np : ∀ {a' : Option Addr}, ¬ Blk a' p → ∀ i, Blk a' i → ¬ i = p := fun hp i r e => hp (by rw [← e]; exact r)
      refine tail (h2 := h8) (S2 := fun i => i = p ∨ Blk a4 i ∨ Blk a6 i) ⟨a4, _, c4, a6, _, c6, g8, ?_, ?_, pa4, pa6, fun i r => ?_, fun i => Iff.rfl⟩ ⟨?_, ?_⟩
      · have := ((o46.ext x7 (np pa4)).ext x8 (np pa4)).sl
        rw [← hcut, List.map_append, List.map_take, List.map_drop]
        have e : ([] ++ List.take ((k - 0) * 1) (List.drop (0 * 1) (us (ds'.map (·.1)))) ++ List.take ((n - (k + 1)) * 1) (List.drop ((k + 1) * 1) (us (ds'.map (·.1))))) = us (List.take k (ds'.map (·.1)) ++ List.drop (k + 1) (ds'.map (·.1))) := by
          rw [List.take_of_length_le (show (List.drop ((k + 1) * 1) (us (ds'.map (·.1)))).length ≤ (n - (k + 1)) * 1 by simp; omega)]
          simp [us, List.map_take, List.map_drop]
        rw [e] at this; exact this
      · have := ((o6.ext x7 (np pa6)).ext x8 (np pa6)).sl
        rw [← hcut, List.map_append, List.map_take, List.map_drop]
        have e : ([] ++ List.take ((k - 0) * 1) (List.drop (0 * 1) (us (ds'.map (·.2)))) ++ List.take ((m - (k + 1)) * 1) (List.drop ((k + 1) * 1) (us (ds'.map (·.2))))) = us (List.take k (ds'.map (·.2)) ++ List.drop (k + 1) (ds'.map (·.2))) := by
          rw [List.take_of_length_le (show (List.drop ((k + 1) * 1) (us (ds'.map (·.2)))).length ≤ (m - (k + 1)) * 1 by simp; omega)]
          simp [us, List.map_take, List.map_drop]
        rw [e] at this; exact this
      · rcases r with r | r
        · have := o46.lt r; omega
        · have := o6.lt r; omega
      · exact (X6.of0.then x7 fun i r => .inl ((hS i).2 (.inl r))).then x8 fun i r => .inl ((hS i).2 (.inl r))
      · rintro i (rfl | r | r)
        · exact .inl ((hS _).2 (.inl rfl))
        · exact .inr (by rcases f4 i r with u | u <;> omega)
        · exact .inr (by rcases f6 i r with u | u <;> omega)
  · have hin : i = n2 := by have := of_decide_eq_false hc; omega
    have htk : ids.take i = ids := List.take_of_length_le (by omega)
    rw [htk] at q'
    refine K_sexit (bx_same ?_)
    exact Told.mk [] rfl ⟨S', q', t⟩
end Go.Dx.SYtfhdeagbgdnkaaa
