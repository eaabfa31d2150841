/- ClockAll: Copy, nil clocks, the document's clock (find, Set). -/
import Derived.Test.YtfhdeagbgdnkaaaCk5
namespace Go.Dx.SYtfhdeagbgdnkaaa
open Go.Proofs
set_option linter.unusedVariables false
set_option linter.unusedSimpArgs false

/-- slices.Clone -/
theorem C56 {h : Heap} {a : Option Addr} {n c : Nat} {ds : List D} (s : SlA h 2 a n c (en dte ds)) (hb : n ≤ 1000000) :
    Fn Try.prog 56 [.slice a n c] h fun v h' => ∃ a' c', v = .slice a' n c' ∧ OwS h' 2 a' n c' (en dte ds) ∧ Ext0 h h' ∧ ∀ i, Blk a' i → h.next ≤ i := by
  refine fnK F56.fok rfl ?_
  refine K_reg (Wops_run rfl rfl (K_fin [(0, _)] rfl (?_)))
  cases a with
  | none =>
    obtain ⟨rfl, rfl⟩ := s.nil rfl
    have hx : en dte ds = [] := by have := s.len; exact List.eq_nil_of_length_eq_zero (by simpa using this)
    refine K_ss (K_reg (Wops_run rfl rfl (Wops_run rfl rfl (K_fin [(0, _), (4, _)] rfl (?_)))))
    refine K_scond rfl (fun hc => ?_) (fun hc => by cases hc)
    refine K_ss (K_reg (Wops_run rfl rfl (K_fin [(2, _)] rfl (?_))))
    exact K_sret (Told.mk _ rfl ⟨none, 0, rfl, by rw [hx]; exact OwS.none, Ext.refl _ _, fun i q => absurd q Blk.none⟩)
  | some pa =>
    refine K_ss (K_reg (Wops_run rfl rfl (Wops_run rfl rfl (K_fin [(0, _), (4, _)] rfl (?_)))))
    refine K_scond rfl (fun hc => by cases hc) (fun hc => ?_)
    refine K_sskip (K_reg (Wops_bslice (l := []) rfl rfl fun h1 n1 x1 g1 => ?_))
    refine Wops_run rfl rfl (Wops_app rfl rfl (OwS.new (n := 0) g1 rfl) rfl (s.ext x1).first ⟨by omega, by omega⟩ s.len (en_cell dte_cell _) (by decide) fun h2 a2 c2 x2 o2 b2 => ?_)
    refine Wops_run rfl rfl (K_fin [(2, _)] rfl (?_))
    refine K_ret (Told.mk _ rfl ⟨a2, c2, by simp; rfl, by simpa using o2, x1.then x2 fun i q => .inr (by rw [Blk.at] at q; omega), fun i q => ?_⟩)
    rcases b2 i q with q | q
    · rw [Blk.at] at q; omega
    · omega

theorem C42 {h : Heap} {p : Nat} {ds : List D} {now : Int} {S : Nat → Prop} (q : Ck h p ds now S) (hb : ds.length ≤ 1000) : Fn Try.prog 42 [ptr p] h fun v h' => ∃ p' S', v = ptr p' ∧ Ck h' p' ds now S' ∧ Ext0 h h' ∧ ∀ i, S' i → h.next ≤ i := by
  obtain ⟨a, n, c, g, o, hn, hpa, hS⟩ := id q
  refine fnK F42.fok rfl ?_
  refine K_reg (Wops_run rfl rfl (K_fin [(0, _)] rfl (?_)))
  refine K_ss (K_reg (Wops_run rfl rfl (Wops_run rfl rfl (K_fin [(0, _), (4, _)] rfl (?_)))))
  refine K_scond rfl (fun hc => by cases hc) (fun hc => ?_)
  refine K_sskip (K_reg (Wops_run rfl rfl (Wops_run rfl rfl (Wops_run rfl rfl (Wops_run rfl rfl (Wops_ld rfl g (by rfl) ?_))))))
  refine Wops_run rfl rfl (Wops_run rfl rfl (Wops_run rfl rfl (Wops_ld rfl g (by rfl) ?_)))
  refine Wops_call rfl (C56 o.sl (by omega)) ?_
  rintro _ h1 ⟨a1, c1, rfl, o1, x1, b1⟩
  refine Wops_chk rfl rfl (x1.some0 g) (by rfl) (by simp [sameV, sameCell]) ?_
  refine Wops_run rfl rfl (Wops_run rfl rfl (Wops_box rfl rfl fun h2 n2 x2 g2 => ?_))
  refine Wops_run rfl rfl (K_fin [(2, _)] rfl (?_))
  refine K_ret (Told.mk _ rfl ⟨h1.next, fun i => i = h1.next ∨ Blk a1 i, rfl, ⟨a1, n, c1, g2, o1.ext x2, hn, fun r => ?_, fun i => Iff.rfl⟩, x1.then0 x2, fun i r => ?_⟩)
  · have := o1.lt r; omega
  · rcases r with rfl | r
    · exact x1.next
    · exact b1 i r

theorem C33nil {h : Heap} {x t : Int} : Fn Try.prog 33 [.pointer none, .int .u64 x, .int .u64 t] h fun v h' => v = .int .i64 1 ∧ h = h' := by
  refine fnK F33.fok rfl ?_
  refine K_reg (Wops_run rfl rfl (K_fin [(0, _), (1, _), (2, _)] rfl (?_)))
  refine K_sblock ?_
  refine K_reg (Wops_run rfl rfl (Wops_run rfl rfl (Wops_run rfl rfl (Wops_skip rfl (Wops_skip rfl (Wops_run rfl rfl (Wops_run rfl rfl (Wops_skip rfl (Wops_skip rfl (Wops_run rfl rfl (Wops_run rfl rfl (K_fin [(0, _), (1, _), (2, _), (7, _)] rfl (?_)))))))))))))
  refine K_cond rfl (fun _ => ?_) (fun hc => by cases hc)
  refine K_reg (Wops_run rfl rfl (K_fin [(6, _)] rfl (?_)))
  exact K_ret (Told.mk _ rfl ⟨rfl, rfl⟩)
theorem C34nil {h : Heap} : Fn Try.prog 34 [.pointer none] h fun v h' => v = .slice none 0 0 ∧ h = h' := by
  refine fnK F34.fok rfl ?_
  refine K_reg (Wops_run rfl rfl (K_fin [(0, _)] rfl (?_)))
  refine K_ss (K_reg (Wops_run rfl rfl (Wops_run rfl rfl (K_fin [(0, _), (7, _)] rfl (?_)))))
  refine K_scond rfl (fun _ => ?_) (fun hc => by cases hc)
  refine K_ss (K_reg (Wops_run rfl rfl (K_fin [(2, _)] rfl (?_))))
  exact K_sret (Told.mk _ rfl ⟨rfl, rfl⟩)
theorem C36nil {h : Heap} : Fn Try.prog 36 [.pointer none] h fun v h' => v = .int .u64 0 ∧ h = h' := by
  refine fnK F36.fok rfl ?_
  refine K_reg (Wops_run rfl rfl (K_fin [(0, _)] rfl (?_)))
  refine K_ss (K_reg (Wops_run rfl rfl (Wops_run rfl rfl (K_fin [(0, _), (4, _)] rfl (?_)))))
  refine K_scond rfl (fun _ => ?_) (fun hc => by cases hc)
  refine K_ss (K_reg (Wops_run rfl rfl (K_fin [(2, _)] rfl (?_))))
  exact K_sret (Told.mk _ rfl ⟨rfl, rfl⟩)
theorem C42nil {h : Heap} : Fn Try.prog 42 [.pointer none] h fun v h' => v = .pointer none ∧ h = h' := by
  refine fnK F42.fok rfl ?_
  refine K_reg (Wops_run rfl rfl (K_fin [(0, _)] rfl (?_)))
  refine K_ss (K_reg (Wops_run rfl rfl (Wops_run rfl rfl (K_fin [(0, _), (4, _)] rfl (?_)))))
  refine K_scond rfl (fun _ => ?_) (fun hc => by cases hc)
  refine K_ss (K_reg (Wops_run rfl rfl (K_fin [(2, _)] rfl (?_))))
  exact K_sret (Told.mk _ rfl ⟨rfl, rfl⟩)
theorem C38nil {h : Heap} {x : Int} : Fn Try.prog 38 [.pointer none, .int .u64 x] h fun v h' => v = .tuple ⟨[.int .u64 0, .bool false]⟩ ∧ h = h' := by
  refine fnK F38.fok rfl ?_
  refine K_reg (Wops_run rfl rfl (Wops_run rfl rfl (K_fin [(0, _), (1, _)] rfl (?_))))
  refine K_ss (K_reg (Wops_run rfl rfl (Wops_run rfl rfl (K_fin [(0, _), (1, _), (8, _)] rfl (?_)))))
  refine K_scond rfl (fun _ => ?_) (fun hc => by cases hc)
  refine K_ss (K_reg (Wops_run rfl rfl (Wops_run rfl rfl (K_fin [(4, _), (5, _)] rfl (?_)))))
  exact K_sret (Told.mk _ rfl ⟨rfl, rfl⟩)
theorem C37nil {h : Heap} {v : Value} {l : List Value} (hv : v.cells.toList = l) : Fn Try.prog 37 [.pointer none, v] h fun v h' => Ext0 h h' := by
  refine fnK F37.fok rfl ?_
  refine K_reg (Wops_box rfl hv fun h1 n1 x1 g1 => K_fin [(0, _), (3, _)] rfl (?_))
  refine K_reg (Wops_run rfl rfl (Wops_run rfl rfl (K_fin [(0, _), (3, _), (5, _)] rfl (?_))))
  refine K_cond rfl (fun hc => by cases hc) (fun _ => ?_)
  exact K_skip (Told.mk [] rfl x1)

/-- The document's clock: its dates, what time it is. -/
def Dk (h : Heap) (p : Nat) (ds : List D) (now : Int) (S : Nat → Prop) : Prop :=
  ∃ a n c b m d, At h p (.cells [.int .u64 now, .slice a n c, .slice b m d] 0 false) ∧ SlA h 1 a n c (us (ds.map (·.1))) ∧ SlA h 1 b m d (us (ds.map (·.2))) ∧ ¬ Blk a p ∧ ¬ Blk b p ∧ (∀ i, Blk a i ∨ Blk b i → i < h.next) ∧ ∀ i, S i ↔ (i = p ∨ Blk a i ∨ Blk b i)
theorem Dk.ext {h h' : Heap} {p : Nat} {ds : List D} {now : Int} {S T : Nat → Prop} (q : Dk h p ds now S) (x : Ext T h h') (hd : ∀ i, S i → ¬ T i) : Dk h' p ds now S := by
  obtain ⟨a, n, c, b, m, d, h1, h2, h3, h4, h5, h6, h7⟩ := q
  exact ⟨a, n, c, b, m, d, h1.ext x (hd p ((h7 p).2 (.inl rfl))), h2.ext x (fun i r => hd i ((h7 i).2 (.inr (.inl r)))), h3.ext x (fun i r => hd i ((h7 i).2 (.inr (.inr r)))), h4, h5, fun i r => Nat.lt_of_lt_of_le (h6 i r) x.next, h7⟩
theorem Dk.ext0 {h h' : Heap} {p : Nat} {ds : List D} {now : Int} {S : Nat → Prop} (q : Dk h p ds now S) (x : Ext0 h h') : Dk h' p ds now S := q.ext x fun _ _ r => r
theorem Dk.lt {h : Heap} {p : Nat} {ds : List D} {now : Int} {S : Nat → Prop} (q : Dk h p ds now S) {i : Nat} (hi : S i) : i < h.next := by
  obtain ⟨a, n, c, b, m, d, h1, h2, h3, h4, h5, h6, h7⟩ := q
  rcases (h7 i).1 hi with rfl | r
  · exact h1.lt
  · exact h6 i r
theorem ixG_map (ds : List D) (x : Int) : ixG (fun d : D => d.1 == x) ds = ixG (· == x) (ds.map (·.1)) := by
  unfold ixG
  rw [List.findIdx_map, List.length_map]; rfl

/-- the document's find -/
theorem C55 {h : Heap} {p : Nat} {ds : List D} {now x : Int} {S : Nat → Prop} (q : Dk h p ds now S) (hb : ds.length ≤ 1000000) :
    Fn Try.prog 55 [ptr p, .int .u64 x] h fun v h' => v = .int .i64 (ixG (fun d => d.1 == x) ds) ∧ h = h' := by
  obtain ⟨a, n, c, b, m, d, g, s, s2, _, _, _, _⟩ := q
  rw [ixG_map]
  have hl : (ds.map (·.1)).length ≤ 1000000 := by rw [List.length_map]; exact hb
  generalize ds.map (·.1) = xs at *
  have hn : xs.length = n := by simpa using s.len
  refine fnK F55.fok rfl ?_
  refine K_reg (Wops_run rfl rfl (K_fin [(0, _), (1, _)] rfl (?_)))
  refine K_ss (K_reg (Wops_run rfl rfl (K_fin [(0, _), (1, _), (5, _)] rfl (?_))))
  refine K_sblock ?_
  refine K_loop (fun k e h' => ∃ i : Nat, e = [(0, ptr p), (1, .int .u64 x), (5, .int .i64 i)] ∧ h = h' ∧ i ≤ n ∧ k = n - i ∧ ∀ j (hj : j < i) (hl : j < xs.length), (xs[j] == x) = false) ?_ (k := n) ⟨0, rfl, rfl, by omega, rfl, fun j hj => by omega⟩
  rintro k e h' ⟨i, rfl, rfl, hi, rfl, hall⟩
  refine K_ss (K_reg (Wops_run rfl rfl (Wops_run rfl rfl (Wops_run rfl rfl (Wops_run rfl rfl (Wops_ld rfl g (by rfl) ?_))))))
  refine Wops_run rfl rfl (Wops_run rfl rfl (K_fin [(0, _), (1, _), (5, _), (12, _)] rfl (?_)))
  refine K_scond rfl (fun hc => ?_) (fun hc => ?_)
  · have hlt : i < n := by have := of_decide_eq_true hc; omega
    refine K_sskip (K_sblock ?_)
    refine K_reg (Wops_run rfl rfl (Wops_run rfl rfl (Wops_run rfl rfl (Wops_ld rfl g (by rfl) ?_))))
    refine Wops_run rfl rfl (Wops_idx (u := .int .u64 xs[i]) rfl rfl s ⟨by omega, by omega⟩ (by simp [hn, hlt]) fun p => ?_)
    refine Wops_run rfl rfl (Wops_run rfl rfl (K_fin [(0, _), (1, _), (5, _), (23, _)] rfl (?_)))
    refine K_cond rfl (fun hd => ?_) (fun hd => ?_)
    · refine K_reg (Wops_run rfl rfl (Wops_run rfl rfl (K_fin [(4, _)] rfl (?_))))
      refine K_ret (Told.mk _ rfl (show _ ∧ _ from ⟨?_, rfl⟩))
      rw [ixG_at (by omega) hd hall]; rfl
    · refine K_skip (K_last (Wops_run rfl rfl (Wops_run rfl rfl (Wops_run rfl rfl (K_finL [(0, _), (1, _), (5, _)] rfl (?_))))))
      refine ⟨n - (i + 1), by omega, i + 1, by rw [w64s (by omega)], rfl, by omega, rfl, fun j hj hl => ?_⟩
      by_cases hji : j = i
      · subst hji; exact hd
      · exact hall j (by omega) hl
  · have hin : i = n := by have := of_decide_eq_false hc; omega
    refine K_sexit (bx_same ?_)
    refine K_reg (Wops_run rfl rfl (K_fin [(4, _)] rfl (?_)))
    refine K_ret (Told.mk _ rfl (show _ ∧ _ from ⟨?_, rfl⟩))
    rw [ixG_none (fun j hj => hall j (by omega) hj)]; rfl

/-- the document's Set -/
theorem C39 {h : Heap} {p : Nat} {ds : List D} {now x t : Int} {S : Nat → Prop} (q : Dk h p ds now S) (hb : ds.length ≤ 1000) (hnow : 0 ≤ now ∧ now ≤ 1000000) (ht : 0 ≤ t) :
    Fn Try.prog 39 [ptr p, .int .u64 x, .int .u64 t] h fun v h' => v = .int .i64 (setR ds now x t).1 ∧ ∃ S', Dk h' p (setR ds now x t).2 now S' ∧ Turn h h' S S' := by
  refine fnK F39.fok rfl ?_
  refine K_reg (Wops_run rfl rfl (K_fin [(0, _), (1, _), (2, _)] rfl (?_)))
  refine K_ss (K_reg (Wops_run rfl rfl ?_))
  have bad : ∀ (e2 : Env), t = 0 ∨ t > 1099511627776 → setR ds now x t = (1, ds) := fun _ h => by unfold setR; rw [if_pos h]
  by_cases h0 : t = 0
  · subst h0
    rw [bad [] (.inl rfl)]
    refine Wops_eq (v := true) rfl rfl rfl (Wops_run rfl rfl (Wops_skip rfl (Wops_skip rfl (Wops_run rfl rfl (K_fin [(0, _), (1, _), (2, _), (12, _)] rfl (?_))))))
    refine K_scond rfl (fun _ => ?_) (fun hc => by cases hc)
    refine K_ss (K_reg (Wops_run rfl rfl (K_fin [(6, _)] rfl (?_))))
    exact K_sret (Told.mk _ rfl ⟨rfl, S, q, Turn.refl _ _⟩)
  refine Wops_eq (v := false) rfl rfl (by simpa using h0) (Wops_run rfl rfl (Wops_go rfl (Wops_run rfl rfl (Wops_go rfl (Wops_run rfl rfl (Wops_run rfl rfl (K_fin [(0, _), (1, _), (2, _), (12, _)] rfl (?_))))))))
  refine K_scond rfl (fun hc => ?_) (fun hc => ?_)
  · rw [bad [] (.inr (of_decide_eq_true hc))]
    refine K_ss (K_reg (Wops_run rfl rfl (K_fin [(6, _)] rfl (?_))))
    exact K_sret (Told.mk _ rfl ⟨rfl, S, q, Turn.refl _ _⟩)
  have hle : t ≤ 1099511627776 := by have := of_decide_eq_false hc; omega
  refine K_sskip (K_ss (K_reg (Wops_run rfl rfl (Wops_run rfl rfl (Wops_call rfl (C55 q (by omega)) ?_)))))
  rintro _ _ ⟨rfl, rfl⟩
  refine Wops_run rfl rfl (K_fin [(0, _), (1, _), (2, _), (16, _)] rfl (?_))
  refine K_scond rfl (fun hc => ?_) (fun hc => ?_)
  · have hin := ixG_ge.1 (of_decide_eq_true hc)
    have hr : setR ds now x t = (11, ds) := by unfold setR; rw [if_neg (by omega), if_pos hin]
    rw [hr]
    refine K_ss (K_reg (Wops_run rfl rfl (K_fin [(6, _)] rfl (?_))))
    exact K_sret (Told.mk _ rfl ⟨rfl, S, q, Turn.refl _ _⟩)
  have hin := fun e => of_decide_eq_false hc (ixG_ge.2 e)
  have hr : setR ds now x t = (0, ds ++ [(x, now + t)]) := by unfold setR; rw [if_neg (by omega), if_neg hin]
  rw [hr]
  obtain ⟨a, n, c, b, m, d, g, s, s2, hpa, hpb, hl, hS⟩ := id q
  have hn : ds.length = n := by have := s.len; simpa using this
  have hm : ds.length = m := by have := s2.len; simpa using this
  have hlt := g.lt
  refine K_sskip (K_reg (Wops_run rfl rfl (Wops_run rfl rfl (Wops_bslice (l := []) rfl rfl fun h1 n1 x1 g1 => ?_))))
  have X1 : Ext0 h h1 := x1
  refine Wops_run rfl rfl (Wops_run rfl rfl (Wops_run rfl rfl (Wops_ld rfl (X1.some0 g) (by rfl) (Wops_run rfl rfl ?_))))
  refine Wops_bslice (l := us [x]) rfl rfl fun h2 n2 x2 g2 => ?_
  refine Wops_bslice (l := []) rfl rfl fun h3 n3 x3 g3 => ?_
  have X3 : Ext0 h h3 := (X1.trans x2).trans x3
  refine Wops_run rfl rfl (Wops_run rfl rfl (Wops_run rfl rfl (Wops_ld rfl (X3.some0 g) (by rfl) ?_)))
  refine Wops_run rfl rfl (Wops_run rfl rfl (Wops_run rfl rfl (Wops_ld rfl (X3.some0 g) (by rfl) ?_)))
  refine Wops_run rfl rfl (Wops_as (w := .int .u64 (now + t)) rfl rfl (by rw [wrapu (by omega)]) ?_)
  refine Wops_bslice (l := us [now + t]) rfl rfl fun h4 n4 x4 g4 => ?_
  have X4 : Ext0 h h4 := X3.trans x4
  have o1 : OwS h4 1 (some ⟨h.next, 0, none⟩) 0 0 [] := (((OwS.new (n := 0) (c := 0) g1 rfl).ext x2).ext x3).ext x4
  have o2 : OwS h4 1 (some ⟨h1.next, 0, none⟩) 1 1 (us [x]) := ((OwS.new (n := 1) (c := 1) g2 rfl).ext x3).ext x4
  have o3 : OwS h4 1 (some ⟨h2.next, 0, none⟩) 0 0 [] := (OwS.new (n := 0) (c := 0) g3 rfl).ext x4
  have o4 : OwS h4 1 (some ⟨h3.next, 0, none⟩) 1 1 (us [now + t]) := OwS.new (n := 1) (c := 1) g4 rfl
  refine Wops_app rfl rfl o1 rfl (s.ext X4).first ⟨by omega, by omega⟩ s.len (us_cell _) (by decide) fun h5 a5 c5 x5 o5 b5 => ?_
  have X5 : Ext0 h h5 := X4.then x5 fun i r => .inr (by rw [Blk.at] at r; omega)
  refine Wops_chk rfl rfl (X5.some0 g) (by rfl) s2.same (Wops_chk rfl rfl (X5.some0 g) (by rfl) (by simp [sameV, sameCell]) ?_)
  have f5 : ∀ i, Blk a5 i → i = h.next ∨ h4.next ≤ i := fun i r => (b5 i r).elim (fun r => by rw [Blk.at] at r; exact .inl r.symm) .inr
  refine Wops_app rfl rfl o5 rfl (o2.ext x5 fun i r e => by rw [Blk.at] at r e; omega).sl.first ⟨by omega, by omega⟩ rfl rfl (by decide) fun h6 a6 c6 x6 o6 b6 => ?_
  have X6 : Ext0 h h6 := X5.then x6 fun i r => .inr (by rcases f5 i r with r | r <;> omega)
  have e5 := x5.next
  have e6 := x6.next
  have f6 : ∀ i, Blk a6 i → i = h.next ∨ h4.next ≤ i := fun i r => (b6 i r).elim (f5 i) fun r => .inr (by omega)
  refine Wops_chk rfl rfl (X6.some0 g) (by rfl) s2.same (Wops_chk rfl rfl (X6.some0 g) (by rfl) (by simp [sameV, sameCell]) ?_)
  have o36 : OwS h6 1 (some ⟨h2.next, 0, none⟩) 0 0 [] := (o3.ext x5 fun i r e => by rw [Blk.at] at r e; omega).ext x6 fun i r e => by rw [Blk.at] at r; rcases f5 i e with u | u <;> omega
  have o46 : OwS h6 1 (some ⟨h3.next, 0, none⟩) 1 1 (us [now + t]) := (o4.ext x5 fun i r e => by rw [Blk.at] at r e; omega).ext x6 fun i r e => by rw [Blk.at] at r; rcases f5 i e with u | u <;> omega
  refine Wops_app rfl rfl o36 rfl (s2.ext X6).first ⟨by omega, by omega⟩ s2.len (us_cell _) (by decide) fun h7 a7 c7 x7 o7 b7 => ?_
  have X7 : Ext0 h h7 := X6.then x7 fun i r => .inr (by rw [Blk.at] at r; omega)
  have e7 := x7.next
  have f7 : ∀ i, Blk a7 i → i = h2.next ∨ h6.next ≤ i := fun i r => (b7 i r).elim (fun r => by rw [Blk.at] at r; exact .inl r.symm) .inr
  refine Wops_chk rfl rfl (X7.some0 g) (by rfl) (by simp [sameV, sameCell]) ?_
  refine Wops_app rfl rfl o7 rfl (o46.ext x7 fun i r e => by rw [Blk.at] at r e; omega).sl.first ⟨by omega, by omega⟩ rfl rfl (by decide) fun h8 a8 c8 x8 o8 b8 => ?_
  have X8 : Ext0 h h8 := X7.then x8 fun i r => .inr (by rcases f7 i r with r | r <;> omega)
  have e8 := x8.next
  have f8 : ∀ i, Blk a8 i → i = h2.next ∨ h6.next ≤ i := fun i r => (b8 i r).elim (f7 i) fun r => .inr (by omega)
  have o68 : OwS h8 1 a6 (0 + n + 1) c6 ([] ++ us (ds.map (·.1)) ++ us [x]) := (o6.ext x7 fun i r e => by rw [Blk.at] at e; rcases f6 i r with u | u <;> omega).ext x8 fun i r e => by
    have := o6.lt r
    rcases f6 i r with u | u <;> rcases f7 i e with w | w <;> omega
  have pa6 : ¬ Blk a6 p := fun r => by rcases f6 p r with u | u <;> omega
  have pa8 : ¬ Blk a8 p := fun r => by rcases f8 p r with u | u <;> omega
  refine Wops_run rfl rfl (Wops_run rfl rfl (Wops_st rfl rfl rfl rfl (X8.some0 g) (by simp) rfl fun h9 n9 x9 g9 => ?_))
  refine Wops_run rfl rfl (Wops_run rfl rfl (Wops_st rfl rfl rfl rfl g9 (by rw [putL_length]; simp) rfl fun h10 n10 x10 g10 => ?_))
  refine K_fin [] rfl (?_)
  refine K_reg (Wops_run rfl rfl (K_fin [(6, _)] rfl (?_)))
  have np : ∀ {a' : Option Addr}, ¬ Blk a' p → ∀ i, Blk a' i → ¬ i = p := fun hp i r e => hp (by rw [← e]; exact r)
  refine K_ret (Told.mk _ rfl ⟨rfl, fun i => i = p ∨ Blk a6 i ∨ Blk a8 i, ⟨a6, _, c6, a8, _, c8, g10, ?_, ?_, pa6, pa8, fun i r => ?_, fun i => Iff.rfl⟩, ?_, ?_⟩)
  · have := ((o68.ext x9 (np pa6)).ext x10 (np pa6)).sl
    simpa [us] using this
  · have := ((o8.ext x9 (np pa8)).ext x10 (np pa8)).sl
    simpa [us] using this
  · rcases r with r | r
    · have := o68.lt r; omega
    · have := o8.lt r; omega
  · exact (X8.of0.then x9 fun i r => .inl ((hS i).2 (.inl r))).then x10 fun i r => .inl ((hS i).2 (.inl r))
  · rintro i (rfl | r | r)
    · exact .inl ((hS _).2 (.inl rfl))
    · exact .inr (by rcases f6 i r with u | u <;> omega)
    · exact .inr (by rcases f8 i r with u | u <;> omega)
end Go.Dx.SYtfhdeagbgdnkaaa
