/- Contracts of token's functions. -/
import Derived.Test.YtpbibdlmiomhbaaDxLT
import Derived.Test.YtpbibdlmiomhbaaDx37
namespace Go.Dx.SYtpbibdlmiomhbaa
open Go.Proofs
set_option linter.unusedVariables false
set_option linter.unusedSimpArgs false

abbrev ptr (p : Nat) : Value := .pointer (some ⟨p, 0, none⟩)
abbrev us (xs : List Int) : List Value := xs.map (Value.int .u64)

/-- What is kept of a token. -/
structure E where
  (r0 r1 r2 r3 r4 r5 r6 r7 : Value)
  (tm tk : Int)
  (dn : Bool)
  (p0 p1 p2 p3 : Value)
  ok : [r0, r1, r2, r3, r4, r5, r6, r7, p0, p1, p2, p3].all isCell = true
def E.rq (x : E) : List Value := [x.r0, x.r1, x.r2, x.r3, x.r4, x.r5, x.r6, x.r7]
def E.rp (x : E) : List Value := [x.p0, x.p1, x.p2, x.p3]
def ent (x : E) : List Value := [x.r0, x.r1, x.r2, x.r3, x.r4, x.r5, x.r6, x.r7, .int .i64 x.tm, .int .u64 x.tk, .bool x.dn, x.p0, x.p1, x.p2, x.p3]
theorem cell_int (k : IntKind) (n : Int) : isCell (.int k n) = true := rfl
theorem cell_bool (b : Bool) : isCell (.bool b) = true := rfl
theorem cell_slice (a : Option Addr) (n c : Nat) : isCell (.slice a n c) = true := rfl
theorem ent_len (x : E) : (ent x).length = 15 := rfl
theorem ent_cell (x : E) : (ent x).all isCell = true := by
  have h := x.ok
  simp only [List.all_cons, List.all_nil, Bool.and_true, Bool.and_eq_true] at h
  simp [ent, h, cell_int, cell_bool]
theorem E.rq_cell (x : E) : x.rq.all isCell = true := by
  have h := x.ok
  simp only [List.all_cons, List.all_nil, Bool.and_true, Bool.and_eq_true] at h
  simp [E.rq, h]
theorem E.rp_cell (x : E) : x.rp.all isCell = true := by
  have h := x.ok
  simp only [List.all_cons, List.all_nil, Bool.and_true, Bool.and_eq_true] at h
  simp [E.rp, h]

/-- The slice of what is kept, four at the most, at the start of a block. -/
def Kp (h : Heap) (a : Option Addr) (n c : Nat) (es : List E) : Prop :=
  (a = none ∧ n = 0 ∧ c = 0 ∧ es = []) ∨ ∃ id vs, a = some ⟨id, 0, none⟩ ∧ (c = 0 → n = 0) ∧ At h id (.cells vs 15 false) ∧ n * 15 ≤ vs.length ∧ vs.length ≤ 60 ∧ (vs.drop 0).take (n * 15) = en ent es ∧ es.length = n
theorem Kp.len {h : Heap} {a : Option Addr} {n c : Nat} {es : List E} (k : Kp h a n c es) : es.length = n := by
  rcases k with ⟨_, rfl, _, rfl⟩ | ⟨_, _, _, _, _, _, _, _, q⟩
  · rfl
  · exact q
theorem Kp.ow {h : Heap} {a : Option Addr} {n c : Nat} {es : List E} (k : Kp h a n c es) : OwS h 15 a n c (en ent es) := by
  have hl := k.len
  refine ⟨by rw [en_length ent_len, hl], ?_⟩
  rcases k with ⟨rfl, rfl, rfl, rfl⟩ | ⟨id, vs, rfl, h1, h2, h3, h4, h5, h6⟩
  · exact .inl ⟨rfl, rfl, rfl⟩
  · exact .inr ⟨id, 0, vs, rfl, h2, by omega, h5⟩
theorem Kp.ext {S : Nat → Prop} {h h' : Heap} {a : Option Addr} {n c : Nat} {es : List E} (k : Kp h a n c es) (x : Ext S h h') (hn : ∀ i, Blk a i → ¬ S i := by exact fun _ _ q => q) : Kp h' a n c es := by
  rcases k with ⟨rfl, rfl, rfl, rfl⟩ | ⟨id, vs, rfl, h1, h2, h3, h4, h5, h6⟩
  · exact .inl ⟨rfl, rfl, rfl, rfl⟩
  · exact .inr ⟨id, vs, rfl, h1, h2.ext x (hn id (Blk.at.2 rfl)), h3, h4, h5, h6⟩
theorem Kp.le {h : Heap} {a : Option Addr} {n c : Nat} {es : List E} (k : Kp h a n c es) : n ≤ 4 := by
  rcases k with ⟨rfl, rfl, rfl, rfl⟩ | ⟨id, vs, rfl, h1, h2, h3, h4, h5, h6⟩ <;> omega

/-- One more. -/
theorem Kp.app {h : Heap} {a : Option Addr} {n c : Nat} {es : List E} (k : Kp h a n c es) (hn : n < 4) (x : E) :
    ∃ h' a' c', appL h 15 176 (.slice a n c) 1 (ent x) = some (.slice a' (n + 1) c', h') ∧ Ext (Blk a) h h' ∧ Kp h' a' (n + 1) c' (es ++ [x]) ∧ ∀ i, Blk a' i → Blk a i ∨ h.next ≤ i := by
  have hx := ent_len x
  have h1 : (1 : Nat).beq 0 = false := rfl
  have h2 : ((n + 1) * 176).ble 1099511627776 = true := Nat.ble_eq_true_of_le (by omega)
  have h3 : (n + 1).ble 1099511627776 = true := Nat.ble_eq_true_of_le (by omega)
  have h4 : (ent x).length.beq (1 * 15) = true := rfl
  rcases k with ⟨rfl, rfl, rfl, rfl⟩ | ⟨id, vs, rfl, hc, g, hl, hl2, hd, hn2⟩
  · refine ⟨h.add (.cells (ent x) 15 false), some ⟨h.next, 0, none⟩, 1, ?_, (Ext.add _ _).of0, .inr ⟨h.next, ent x, rfl, (fun e => by cases e), add_get _ _, by rw [hx]; decide, by rw [hx]; decide, ?_, rfl⟩, fun i q => .inr (by rw [Blk.at] at q; omega)⟩
    · simp only [appL, h1, h2, h3, h4, cond_false, Bool.not_true, Bool.or_self]
    · simp [en, ent]
  · have hat : h.get id = some (.cells vs 15 false) := g
    have hf : firstL h 15 n (.slice (some ⟨id, 0, none⟩) n c) = some (en ent es) := by
      unfold firstL
      simp only
      cases hn0 : n.beq 0 with
      | true =>
        have : n = 0 := by rw [beq_iff] at hn0; simpa using hn0
        subst this
        have : es = [] := List.eq_nil_of_length_eq_zero hn2
        subst this; rfl
      | false => simp only [cond_false]; rw [rd_mk g (by omega), hd]
    have he : (en ent es).length = n * 15 := by rw [en_length ent_len, hn2]
    by_cases hc0 : c = 0
    · obtain rfl := hc hc0
      have : es = [] := List.eq_nil_of_length_eq_zero hn2
      subst this; subst hc0
      refine ⟨h.add (.cells (ent x) 15 false), some ⟨h.next, 0, none⟩, 1, ?_, (Ext.add _ _).of0, .inr ⟨h.next, ent x, rfl, (fun e => by cases e), add_get _ _, by rw [hx]; decide, by rw [hx]; decide, by simp [en, ent], rfl⟩, fun i q => .inr (by rw [Blk.at] at q; omega)⟩
      have hf0 : firstL h 15 0 (.slice (some ⟨id, 0, none⟩) 0 0) = some [] := rfl
      simp only [appL, h1, h2, h3, h4, hf0, show Nat.beq 0 0 = true from rfl, cond_false, cond_true, Bool.not_true, Bool.or_self, List.nil_append]
    have hcb : c.beq 0 = false := by rw [beq_iff]; simp [hc0]
    cases hfit : (0 + (n + 1) * 15).ble vs.length with
    | true =>
      have hfit' := Nat.le_of_ble_eq_true hfit
      obtain ⟨h', w1, _, w2, w3⟩ := wr_own (off := 0 + n * 15) (l := ent x) g (by rw [hx]; omega) (ent_cell x)
      refine ⟨h', some ⟨id, 0, none⟩, c, ?_, w2.mono (fun i _ q => by rw [q]; exact Blk.at.2 rfl), .inr ⟨id, _, rfl, fun e => absurd e hc0, w3, by rw [putL_length]; omega, by rw [putL_length]; exact hl2, ?_, by simp [hn2]⟩, fun i q => .inl q⟩
      · simp only [appL, h1, h2, h3, h4, hcb, hf, hat, hfit, w1, show Nat.beq 15 15 = true from rfl, show Nat.beq 15 0 = false from rfl, cond_false, cond_true, Bool.not_true, Bool.or_self, Option.map_some]
      · have ht := putL_take (ent x) vs (0 + n * 15) (by rw [hx]; omega)
        rw [hx] at ht
        rw [List.drop_zero, show (n + 1) * 15 = 0 + n * 15 + 15 by omega, ht, en_app, ← hd, List.drop_zero, Nat.zero_add]
        simp [en]
    | false =>
      refine ⟨(h.put id none).add (.cells (en ent es ++ ent x) 15 false), some ⟨h.next, 0, none⟩, 1, ?_, ?_, .inr ⟨h.next, en ent es ++ ent x, rfl, (fun e => by cases e), ?_, ?_, ?_, ?_, by simp [hn2]⟩, fun i q => .inr (by rw [Blk.at] at q; omega)⟩
      · simp only [appL, h1, h2, h3, h4, hcb, hf, hat, hfit, ent_cell x, Heap.next_put, show Nat.beq 15 15 = true from rfl, show Nat.beq 15 0 = false from rfl, cond_false, cond_true, Bool.not_true, Bool.or_self]
      · exact ((Ext.put hat rfl none).mono (fun i _ q => by rw [q]; exact Blk.at.2 rfl)).then0 (Ext.add _ _)
      · have := add_get (h.put id none) (.cells (en ent es ++ ent x) 15 false)
        rwa [Heap.next_put] at this
      · rw [List.length_append, he, hx]; omega
      · rw [List.length_append, he, hx]; omega
      · rw [List.drop_zero, en_app, List.take_of_length_le (by rw [List.length_append, he, hx]; omega)]; simp [en]

/-- What is kept, and all that is its own. -/
def Kc (h : Heap) (p : Nat) (es : List E) (S : Nat → Prop) : Prop :=
  ∃ a n c, At h p (.cells [.slice a n c] 0 false) ∧ Kp h a n c es ∧ ¬ Blk a p ∧ ∀ i, S i ↔ (i = p ∨ Blk a i)
theorem Kc.ext {h h' : Heap} {p : Nat} {es : List E} {S T : Nat → Prop} (q : Kc h p es S) (x : Ext T h h') (hd : ∀ i, S i → ¬ T i) : Kc h' p es S := by
  obtain ⟨a, n, c, h1, h2, h3, h4⟩ := q
  exact ⟨a, n, c, h1.ext x (hd p ((h4 p).2 (.inl rfl))), h2.ext x (fun i r => hd i ((h4 i).2 (.inr r))), h3, h4⟩
theorem Kc.ext0 {h h' : Heap} {p : Nat} {es : List E} {S : Nat → Prop} (q : Kc h p es S) (x : Ext0 h h') : Kc h' p es S := q.ext x fun _ _ r => r
theorem Kc.lt {h : Heap} {p : Nat} {es : List E} {S : Nat → Prop} (q : Kc h p es S) {i : Nat} (hi : S i) : i < h.next := by
  obtain ⟨a, n, c, h1, h2, h3, h4⟩ := q
  rcases (h4 i).1 hi with rfl | r
  · exact h1.lt
  · exact h2.ow.lt r

/-- token.New -/
theorem C37 {h : Heap} : Fn Try.prog 37 [] h fun v h' => ∃ p, v = ptr p ∧ Kc h' p [] (· = p) ∧ Ext0 h h' ∧ h.next ≤ p := by
  refine fnK F37.fok rfl ?_
  refine K_reg (Wops_run rfl rfl (K_fin [] rfl (?_)))
  refine K_reg (Wops_run rfl rfl (Wops_box rfl rfl fun h1 n1 x1 g1 => ?_))
  refine Wops_run rfl rfl (K_fin [(0, _)] rfl (?_))
  exact K_ret (Told.mk _ rfl ⟨h.next, rfl, ⟨none, 0, 0, g1, .inl ⟨rfl, rfl, rfl, rfl⟩, Blk.none, fun i => ⟨.inl, fun q => q.elim id fun r => absurd r Blk.none⟩⟩, x1, Nat.le_refl _⟩)

abbrev tkf (t : Int) : E → Bool := fun x => x.tk == t
/-- What find tells. -/
def Fnd (a : Option Addr) (es : List E) (t : Int) (v : Value) : Prop :=
  (ixG (tkf t) es = -1 ∧ (∀ x ∈ es, x.tk ≠ t) ∧ v = .pointer none) ∨ ∃ (i : Nat) (hi : i < es.length) (id : Nat), ixG (tkf t) es = i ∧ es[i].tk = t ∧ a = some ⟨id, 0, none⟩ ∧ v = .pointer (some ⟨id, i * 15, none⟩)
theorem C59 {h : Heap} {p n c : Nat} {a : Option Addr} {es : List E} {t : Int} (g : At h p (.cells [.slice a n c] 0 false)) (k : Kp h a n c es) :
    Fn Try.prog 59 [ptr p, .int .u64 t] h fun v h' => Fnd a es t v ∧ h = h' := by
  have hn := k.len
  have hb := k.le
  have s := k.ow.sl
  refine fnK F59.fok rfl ?_
  refine K_reg (Wops_run rfl rfl (K_fin [(0, _), (1, _)] rfl (?_)))
  refine K_ss (K_reg (Wops_run rfl rfl (Wops_run rfl rfl (Wops_run rfl rfl (Wops_ld rfl g (by rfl) ?_)))))
  refine Wops_run rfl rfl (Wops_run rfl rfl (K_fin [(0, _), (1, _), (10, _), (11, _)] rfl (?_)))
  refine K_sblock ?_
  refine K_loop (fun k e h' => ∃ i : Nat, e = [(0, ptr p), (1, .int .u64 t), (10, .int .i64 n), (11, .int .i64 i)] ∧ h = h' ∧ i ≤ n ∧ k = n - i ∧ ∀ j (hj : j < i) (hl : j < es.length), tkf t es[j] = false) ?_ ⟨0, rfl, rfl, by omega, rfl, fun j hj => by omega⟩
  rintro k' e h' ⟨i, rfl, rfl, hi, rfl, hall⟩
  refine K_reg (Wops_run rfl rfl (K_fin [(0, _), (1, _), (10, _), (11, _), (12, _)] rfl (?_)))
  refine K_scond rfl (fun hc => ?_) (fun hc => ?_)
  · have hlt : i < n := by have := of_decide_eq_true hc; omega
    refine K_sskip (K_sblock ?_)
    refine K_reg (Wops_run rfl rfl (Wops_run rfl rfl (K_fin [(0, _), (1, _), (5, _), (10, _), (11, _)] rfl (?_))))
    refine K_reg (Wops_run rfl rfl (Wops_run rfl rfl (Wops_run rfl rfl (Wops_ld rfl g (by rfl) ?_))))
    refine Wops_run rfl rfl (Wops_idxF (u := .int .u64 es[i].tk) rfl rfl s ⟨by omega, by omega⟩ (by decide) (by rw [Int.toNat_natCast, en_at ent_len es i 9 (by omega) (by decide)]; rfl) fun _ _ => ?_)
    refine Wops_run rfl rfl (Wops_run rfl rfl (K_fin [(0, _), (1, _), (5, _), (10, _), (11, _), (23, _)] rfl (?_)))
    refine K_cond rfl (fun hd => ?_) (fun hd => ?_)
    · refine K_reg (Wops_run rfl rfl (Wops_run rfl rfl (Wops_run rfl rfl (Wops_ld rfl g (by rfl) ?_))))
      rcases k with ⟨rfl, rfl, rfl, rfl⟩ | ⟨id, vs, rfl, h1, h2, h3, h4, h5, h6⟩
      · omega
      refine Wops_run rfl rfl (Wops_iaV rfl rfl ⟨by omega, by omega⟩ ?_)
      refine Wops_run rfl rfl (K_fin [(4, _)] rfl (?_))
      refine K_ret (Told.mk _ rfl ⟨.inr ⟨i, by omega, id, ixG_at (by omega) hd hall, by simpa using hd, rfl, ?_⟩, rfl⟩)
      show Value.pointer (some ⟨id, 0 + (i : Int).toNat * 15, none⟩) = _
      rw [Int.toNat_natCast, Nat.zero_add]
    · refine K_skip ?_
      refine K_last (Wops_run rfl rfl (Wops_run rfl rfl (K_finL [(0, _), (1, _), (10, _), (11, _)] rfl (?_))))
      refine ⟨n - (i + 1), by omega, i + 1, by rw [w64s (by omega)], rfl, by omega, rfl, fun j hj hl => ?_⟩
      by_cases hji : j = i
      · subst hji; exact hd
      · exact hall j (by omega) hl
  · have hin : i = n := by have := of_decide_eq_false hc; omega
    refine K_sexit (bx_same ?_)
    refine K_reg (Wops_run rfl rfl (K_fin [(4, _)] rfl (?_)))
    refine K_ret (Told.mk _ rfl ⟨.inl ⟨ixG_none fun j hl => hall j (by omega) hl, fun x hx => ?_, rfl⟩, rfl⟩)
    obtain ⟨j, hj, rfl⟩ := List.getElem_of_mem hx
    simpa using hall j (by omega) hj

/-- Begin's own function -/
theorem C61 {h : Heap} {x : E} : Fn Try.prog 61 [.agg ⟨ent x⟩] h fun v h' => v = .bool x.dn ∧ h = h' := by
  refine Fn.gc (Q := fun v h' => v = .bool x.dn ∧ Ext0 h h') (R := fun v => v = .bool x.dn) ?_ fun v h' q => ⟨q.2, by rw [q.1]; rfl, q.1⟩
  refine fnK F61.fok rfl ?_
  refine K_reg (Wops_box rfl rfl fun h1 n1 x1 g1 => ?_)
  refine Wops_run rfl rfl (K_fin [(1, _)] rfl (?_))
  refine K_reg (Wops_run rfl rfl (Wops_ld rfl g1 (by rfl) ?_))
  refine Wops_run rfl rfl (K_fin [(2, _)] rfl (?_))
  exact K_ret (Told.mk _ rfl ⟨rfl, x1⟩)

/-- slices.IndexFunc -/
theorem C60 {h : Heap} {a : Option Addr} {n c : Nat} {es : List E} (s : SlA h 15 a n c (en ent es)) (hn : es.length = n) (hb : n ≤ 4) :
    Fn Try.prog 60 [.slice a n c, .func (.func 61) ⟨[]⟩ ⟨[]⟩] h fun v h' => v = .int .i64 (ixG E.dn es) ∧ h = h' := by
  refine fnK F60.fok rfl ?_
  refine K_reg (Wops_run rfl rfl (K_fin [(0, _), (1, _)] rfl ?_))
  refine K_ss (K_reg (Wops_run rfl rfl (Wops_run rfl rfl (Wops_run rfl rfl (K_fin [(0, _), (1, _), (7, _), (8, _)] rfl ?_)))))
  refine K_sblock ?_
  refine K_loop (fun k' e h' => ∃ i : Nat, e = [(0, .slice a n c), (1, .func (.func 61) ⟨[]⟩ ⟨[]⟩), (7, .int .i64 n), (8, .int .i64 i)] ∧ h = h' ∧ i ≤ n ∧ k' = n - i ∧ ∀ j (hj : j < i) (hl : j < es.length), es[j].dn = false) ?_ ⟨0, rfl, rfl, by omega, rfl, fun j hj => by omega⟩
  rintro k' e h' ⟨i, rfl, rfl, hi, rfl, hall⟩
  refine K_reg (Wops_run rfl rfl (K_fin [(0, _), (1, _), (7, _), (8, _), (9, _)] rfl ?_))
  refine K_scond rfl (fun hc => ?_) (fun hc => ?_)
  · have hlt : i < n := by have := of_decide_eq_true hc; omega
    refine K_sskip (K_sblock (K_reg (Wops_run rfl rfl (Wops_run rfl rfl (K_fin [(0, _), (1, _), (5, _), (7, _), (8, _)] rfl ?_)))))
    refine K_reg (Wops_run rfl rfl (Wops_run rfl rfl (Wops_run rfl rfl ?_)))
    refine Wops_elA ent_len rfl rfl s hn (show i < es.length by omega) fun p => ?_
    refine Wops_callv rfl rfl (C61 (x := es[i])) ?_
    rintro _ _ ⟨rfl, rfl⟩
    refine K_fin [(0, _), (1, _), (5, _), (7, _), (8, _), (16, _)] rfl ?_
    refine K_cond rfl (fun hd => ?_) (fun hd => ?_)
    · refine K_reg (Wops_run rfl rfl (Wops_run rfl rfl (K_fin [(4, _)] rfl ?_)))
      refine K_ret (Told.mk _ rfl (show _ ∧ _ from ⟨?_, rfl⟩))
      rw [ixG_at (by omega) hd hall]; rfl
    · refine K_skip (K_last (Wops_run rfl rfl (Wops_run rfl rfl (K_finL [(0, _), (1, _), (7, _), (8, _)] rfl ?_))))
      refine ⟨n - (i + 1), by omega, i + 1, by rw [w64s (by omega)], rfl, by omega, rfl, fun j hj hl => ?_⟩
      by_cases hji : j = i
      · subst hji; exact hd
      · exact hall j (by omega) hl
  · have hin : i = n := by have := of_decide_eq_false hc; omega
    refine K_sexit (bx_same ?_)
    refine K_reg (Wops_run rfl rfl (K_fin [(4, _)] rfl ?_))
    refine K_ret (Told.mk _ rfl (show _ ∧ _ from ⟨?_, rfl⟩))
    rw [ixG_none (fun j hj => hall j (by omega) hj)]; rfl
end Go.Dx.SYtpbibdlmiomhbaa
