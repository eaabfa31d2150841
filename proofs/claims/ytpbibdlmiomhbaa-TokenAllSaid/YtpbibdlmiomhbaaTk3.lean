/- Contracts of token's functions: Begin. -/
import Derived.Test.YtpbibdlmiomhbaaTk2
namespace Go.Dx.SYtpbibdlmiomhbaa
open Go.Proofs
set_option linter.unusedVariables false
set_option linter.unusedSimpArgs false

/-- Room for one more. -/
def begE (es : List E) : Option (List E) := if es.length < 4 then some es else if ixG E.dn es < 0 then none else some (es.eraseIdx (ixG E.dn es).toNat)
/-- A new one. -/
def newE (r0 r1 r2 r3 r5 r6 r7 : Value) (t : Int) (hr : [r0, r1, r2, r3, r5, r6, r7].all isCell = true) : E :=
  ⟨r0, r1, r2, r3, .slice none 0 0, r5, r6, r7, 1, t, false, .int .u64 0, .int .i64 0, .int .u64 0, .slice none 0 0, by
    simp only [List.all_cons, List.all_nil, Bool.and_true, Bool.and_eq_true] at hr
    simp [hr, cell_int, cell_slice]⟩

theorem Wops_kapp {d : Option Nat} {r : List SOp} {e : Env} {h : Heap} {Q : Env → Heap → Prop} {a : Option Addr} {n c i0 cc : Nat} {es : List E} {x : E} {s xa : Arg} (hs : s.ev e = some (.slice a n c)) (hx : xa.ev e = some (.slice (some ⟨i0, 0, none⟩) 1 cc)) (g : At h i0 (.cells (ent x) 15 false)) (k : Kp h a n c es) (hn : n < 4)
    (hq : ∀ h' a' c', Ext (Blk a) h h' → Kp h' a' (n + 1) c' (es ++ [x]) → (∀ i, Blk a' i → Blk a i ∨ h.next ≤ i) → Wops Try.prog r (e.put d (.slice a' (n + 1) c')) h' Q) : Wops Try.prog (⟨d, none, .app 15 176 s xa⟩ :: r) e h Q := by
  obtain ⟨h', a', c', q1, q2, q3, q4⟩ := k.app hn x
  refine Wops_run (v := .slice a' (n + 1) c') (h' := h') rfl ?_ (hq h' a' c' q2 q3 q4)
  have hf : firstL h 15 1 (.slice (some ⟨i0, 0, none⟩) 1 cc) = some (ent x) := by
    unfold firstL
    simp only [show Nat.beq 1 0 = false from rfl, cond_false]
    rw [rd_mk g (by rw [ent_len]; decide)]; rfl
  simp only [SO.run, hs, hx, lenOfV, hf, q1]

theorem any_ix {p : E → Bool} {es : List E} : es.any p = decide (ixG p es ≥ 0) := by
  rcases hb : es.any p with _ | _
  · exact (decide_eq_false fun e => by rw [ixG_ge.1 e] at hb; cases hb).symm
  · exact (decide_eq_true (ixG_ge.2 hb)).symm

set_option maxHeartbeats 1000000 in
/-- Begin -/
theorem C38 {h : Heap} {p n c : Nat} {es : List E} {t : Int} {S : Nat → Prop} {r0 r1 r2 r3 r6 r7 : Value} {a : Option Addr} {xs : List Int} (q : Kc h p es S) (hr : [r0, r1, r2, r3, r6, r7].all isCell = true) (s : SlA h 1 a n c (us xs)) (hb : n ≤ 1000000) (hda : ∀ i, Blk a i → ¬ S i) :
    Fn Try.prog 38 [ptr p, .int .u64 t, .agg ⟨[r0, r1, r2, r3, .slice none 0 0, .slice a n c, r6, r7]⟩] h fun v h' => ∃ S', Turn h h' S S' ∧
      ((t = 0 ∧ v = .int .i64 0 ∧ Kc h' p es S') ∨
       (t ≠ 0 ∧ es.any (tkf t) = true ∧ v = .int .i64 11 ∧ Kc h' p es S') ∨
       (t ≠ 0 ∧ es.any (tkf t) = false ∧ begE es = none ∧ v = .int .i64 13 ∧ Kc h' p es S') ∨
       (t ≠ 0 ∧ es.any (tkf t) = false ∧ ∃ es1 a' c' hx, begE es = some es1 ∧ v = .int .i64 0 ∧ Kc h' p (es1 ++ [newE r0 r1 r2 r3 (.slice a' n c') r6 r7 t hx]) S' ∧ SlA h' 1 a' n c' (us xs) ∧ (∀ i, Blk a' i → h.next ≤ i ∧ i < h'.next ∧ ¬ S' i) ∧ (a = none → a' = none ∧ c' = 0))) := by
  have hr' := hr
  simp only [List.all_cons, List.all_nil, Bool.and_true, Bool.and_eq_true] at hr'
  refine fnK F38.fok rfl ?_
  refine K_reg (Wops_box (cs := [r0, r1, r2, r3, .slice none 0 0, .slice a n c, r6, r7]) rfl rfl fun h1 n1 x1 g1 => Wops_run rfl rfl (K_fin [(0, _), (1, _), (5, _)] rfl (?_)))
  have q1 := q.ext0 x1
  have qlt : ∀ i, S i → i < h.next := fun i r => q.lt r
  have s1 := s.ext x1
  have t1 : Turn h h1 S S := ⟨x1.of0, fun i r => .inl r⟩
  obtain ⟨a0, n0, c0, g, k, hpa, hS⟩ := id q1
  refine K_sblock ?_
  refine K_reg (Wops_run rfl rfl (Wops_run rfl rfl (Wops_run rfl rfl (K_fin [(0, _), (1, _), (5, _), (8, _)] rfl (?_)))))
  refine K_cond rfl (fun hc => by cases hc) (fun _ => ?_)
  by_cases ht : t = 0
  · refine K_reg (Wops_run rfl rfl (Wops_eq (v := true) rfl rfl (by rw [ht]; rfl) (Wops_run rfl rfl (K_fin [(0, _), (1, _), (5, _), (11, _)] rfl (?_)))))
    refine K_cond rfl (fun _ => ?_) (fun hc => by cases hc)
    refine K_reg (Wops_run rfl rfl (K_fin [(6, _)] rfl (?_)))
    exact K_ret (Told.mk _ rfl ⟨S, t1, .inl ⟨ht, rfl, q1⟩⟩)
  refine K_reg (Wops_run rfl rfl (Wops_eq (v := false) rfl rfl (by simpa using ht) (Wops_run rfl rfl (K_fin [(0, _), (1, _), (5, _), (11, _)] rfl (?_)))))
  refine K_cond rfl (fun hc => by cases hc) (fun _ => ?_)
  refine K_reg (Wops_run rfl rfl (Wops_run rfl rfl (Wops_call rfl (C59 g k) ?_)))
  rintro v _ ⟨hf, rfl⟩
  rcases hf with ⟨hix, hno, rfl⟩ | ⟨i, hi, id0, hix, htk, rfl, rfl⟩
  rotate_left
  · refine Wops_run rfl rfl (Wops_run rfl rfl (K_fin [(0, _), (1, _), (5, _), (14, _)] rfl (?_)))
    refine K_cond rfl (fun _ => ?_) (fun hc => by cases hc)
    refine K_reg (Wops_run rfl rfl (K_fin [(6, _)] rfl (?_)))
    exact K_ret (Told.mk _ rfl ⟨S, t1, .inr (.inl ⟨ht, by rw [any_ix, hix]; simp, rfl, q1⟩)⟩)
  have hany : es.any (tkf t) = false := by rw [any_ix, hix]; rfl
  refine Wops_run rfl rfl (Wops_run rfl rfl (K_fin [(0, _), (1, _), (5, _), (14, _)] rfl (?_)))
  refine K_cond rfl (fun hc => by cases hc) (fun _ => ?_)
  refine K_skip ?_
  refine K_join (fun e h' => (e = [(0, ptr p), (1, .int .u64 t), (5, ptr h.next)] ∨ e = [(0, ptr p), (1, .int .u64 t), (5, ptr h.next), (24, .bool false)]) ∧ ∃ es1 S1, begE es = some es1 ∧ es1.length < 4 ∧ Kc h' p es1 S1 ∧ Turn h1 h' S S1) ?_ ?_
  · refine K_reg (Wops_run rfl rfl (Wops_run rfl rfl (Wops_run rfl rfl (Wops_ld rfl g (by rfl) ?_))))
    have hkn := k.len
    have hkl := k.le
    by_cases h4 : n0 < 4
    · refine Wops_run rfl rfl (Wops_as (w := .bool false) rfl rfl (by rw [decide_eq_false (by omega)]) (K_fin [(0, _), (1, _), (5, _), (24, _)] rfl (?_)))
      refine K_cond rfl (fun hc => by cases hc) (fun _ => ?_)
      refine K_skip ⟨.inr rfl, es, S, by unfold begE; rw [if_pos (by omega)], by omega, q1, Turn.refl _ _⟩
    obtain rfl : n0 = 4 := by omega
    refine Wops_run rfl rfl (Wops_as (w := .bool true) rfl rfl rfl (K_fin [(0, _), (1, _), (5, _), (24, _)] rfl (?_)))
    refine K_cond rfl (fun _ => ?_) (fun hc => by cases hc)
    refine K_reg (Wops_run rfl rfl (Wops_run rfl rfl (Wops_run rfl rfl (Wops_ld rfl g (by rfl) (Wops_call rfl (C60 k.ow.sl hkn (by omega)) ?_)))))
    rintro _ _ ⟨rfl, rfl⟩
    refine Wops_run rfl rfl (K_fin [(0, _), (1, _), (5, _), (7, _)] rfl (?_))
    rcases ixG_cases E.dn es with ⟨hix2, hall⟩ | ⟨i, hi, hix2, hdn, hall⟩
    · rw [hix2]
      refine K_ss (K_reg (Wops_run rfl rfl (Wops_run rfl rfl (K_fin [(0, _), (1, _), (5, _), (7, _), (31, _)] rfl (?_)))))
      refine K_scond rfl (fun _ => ?_) (fun hc => by cases hc)
      refine K_ss (K_reg (Wops_run rfl rfl (K_fin [(6, _)] rfl (?_))))
      exact K_sret (Told.mk _ rfl ⟨S, t1, .inr (.inr (.inl ⟨ht, hany, by unfold begE; rw [if_neg (by omega), hix2]; rfl, rfl, q1⟩))⟩)
    · rw [hix2]
      refine K_ss (K_reg (Wops_run rfl rfl (Wops_as (w := .bool false) rfl rfl (by rw [decide_eq_false (by omega)]) (K_fin [(0, _), (1, _), (5, _), (7, _), (31, _)] rfl (?_)))))
      refine K_scond rfl (fun hc => by cases hc) (fun _ => ?_)
      rcases k with ⟨rfl, hz, rfl, rfl⟩ | ⟨id1, vs, rfl, k1, k2, k3, k4, k5, k6⟩
      · omega
      have hvs : vs = en ent es := by rw [← k5, List.drop_zero, List.take_of_length_le (by omega)]
      subst hvs
      obtain ⟨e0, e1, e2, e3, rfl⟩ : ∃ e0 e1 e2 e3, es = [e0, e1, e2, e3] := by
        match es, k6 with
        | [e0, e1, e2, e3], _ => exact ⟨e0, e1, e2, e3, rfl⟩
      refine K_sskip (K_last (Wops_run rfl rfl (Wops_run rfl rfl (Wops_run rfl rfl (Wops_run rfl rfl (Wops_ld rfl g (by rfl) ?_))))))
      refine Wops_run rfl rfl (Wops_run rfl rfl (Wops_as (w := .int .i64 ((i + 1 : Nat) : Int)) rfl rfl (by rw [w64s (by omega)]) (Wops_call rfl (C62 (fun e => by have := k1 e; omega) k2 (i := i) (by omega)) ?_)))
      rintro _ h2 ⟨rfl, kk, x2⟩
      have x2' : Ext S h1 h2 := x2.mono fun j _ r => (hS j).2 (.inr (Blk.at.2 r.symm))
      refine Wops_run rfl rfl (Wops_run rfl rfl (Wops_st rfl rfl rfl rfl (g.ext x2 (fun r => hpa (Blk.at.2 r.symm))) (by simp) rfl fun h3 n3 x3 g3 => ?_))
      refine K_finL [(0, _), (1, _), (5, _)] rfl (?_)
      refine ⟨.inl rfl, _, S, by unfold begE; rw [if_neg (by simp), if_neg (by omega), hix2], ?_, ⟨_, 3, c0, g3, ?_, ?_, hS⟩, ⟨x2'.then x3 fun j r => .inl ((hS j).2 (.inl r)), fun j r => .inl r⟩⟩
      · have := kk.len; rw [Int.toNat_natCast]; omega
      · rw [Int.toNat_natCast]; exact kk.ext x3 fun j r e => by rw [Blk.at] at r; exact hpa (Blk.at.2 (r.trans e))
      · exact hpa
  · rintro e h2 ⟨rfl | rfl, es1, S1, hes1, hl1, q2, t2⟩
    all_goals
      have s2 := s1.ext t2.ext (fun i r e => hda i r e)
      have g12 : At h2 h.next (.cells [r0, r1, r2, r3, .slice none 0 0, .slice a n c, r6, r7] 0 false) := At.ext (o := .cells [r0, r1, r2, r3, .slice none 0 0, .slice a n c, r6, r7] 0 false) g1 t2.ext (fun r => by have := qlt _ r; omega)
      obtain ⟨a3, n3, c3, g3, k3, hpa3, hS3⟩ := id q2
      have hn3 := k3.len
      refine K_reg (Wops_run rfl rfl (Wops_run rfl rfl (Wops_run rfl rfl (Wops_run rfl rfl (Wops_ld rfl g3 (by rfl) ?_)))))
      refine Wops_ldA (l := [r0, r1, r2, r3, .slice none 0 0, .slice a n c, r6, r7]) rfl g12 (by simp) rfl ?_
      refine Wops_run rfl rfl (Wops_call rfl (C63 hr s2 hb) ?_)
      rintro _ h4 ⟨a', c', rfl, o4, x4, b4, f4⟩
      have hx : [r0, r1, r2, r3, .slice a' n c', r6, r7].all isCell = true := by simp [hr', cell_slice]
      refine Wops_chk rfl rfl (x4.some0 g3) (by rfl) k3.ow.sl.same ?_
      refine Wops_run rfl rfl (Wops_run rfl rfl ?_)
      refine Wops_bslice (l := ent (newE r0 r1 r2 r3 (.slice a' n c') r6 r7 t hx)) rfl rfl fun h5 n5 x5 g5 => ?_
      refine Wops_kapp rfl rfl (show At h5 h4.next (.cells (ent (newE r0 r1 r2 r3 (.slice a' n c') r6 r7 t hx)) 15 false) from g5) ((k3.ext x4).ext x5) (by omega) fun h6 a6 c6 x6 k6 b6 => ?_
      have z4 := x4.next
      have z5 := x5.next
      have z2 := t2.ext.next
      have hp2 : p < h2.next := g3.lt
      have hp6 : ¬ Blk a6 p := fun r => (b6 p r).elim hpa3 fun r => by omega
      refine Wops_run rfl rfl (Wops_run rfl rfl (Wops_st rfl rfl rfl rfl (((g3.ext x4).ext x5).ext x6 hpa3) (by simp) rfl fun h7 n7 x7 g7 => ?_))
      refine K_fin [] rfl (?_)
      refine K_reg (Wops_run rfl rfl (K_fin [(6, _)] rfl (?_)))
      have x27 : Ext S1 h2 h7 := (((x4.of0 (S := S1)).then0 x5).then x6 fun i r => .inl ((hS3 i).2 (.inr r))).then x7 fun i r => .inl ((hS3 i).2 (.inl r))
      have t3 : Turn h2 h7 S1 (fun i => i = p ∨ Blk a6 i) := ⟨x27, fun i r => by
        rcases r with rfl | r
        · exact .inl ((hS3 _).2 (.inl rfl))
        · rcases b6 i r with r | r
          · exact .inl ((hS3 _).2 (.inr r))
          · exact .inr (by omega)⟩
      have dn : ∀ i, Blk a' i → ¬ (i = p ∨ Blk a6 i) := fun i r e => by
        have w1 := b4 i r
        have w2 := o4.lt r
        rcases e with e | e
        · omega
        · rcases b6 i e with e | e
          · have := k3.ow.lt e; omega
          · omega
      refine K_ret (Told.mk _ rfl ⟨_, (t1.trans t2).trans t3, .inr (.inr (.inr ⟨ht, hany, es1, a', c', hx, hes1, rfl, ⟨a6, n3 + 1, c6, g7, k6.ext x7 (fun i r e => hp6 (by rw [← e]; exact r)), hp6, fun i => Iff.rfl⟩, ?_, fun i r => ⟨by have := b4 i r; have := x1.next; omega, ?_, dn i r⟩, f4⟩))⟩)
      · exact ((o4.sl.ext x5).ext x6 (fun i r e => dn i r (.inr (by
          exact Classical.byContradiction fun _ => by have := b4 i r; have := k3.ow.lt e; omega)))).ext x7 (fun i r e => dn i r (.inl e))
      · have := o4.lt r; have := x6.next; omega
end Go.Dx.SYtpbibdlmiomhbaa
