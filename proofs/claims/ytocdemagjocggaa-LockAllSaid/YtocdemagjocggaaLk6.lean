/- LockAll: the walk. -/
import Derived.Test.YtocdemagjocggaaLk4
namespace Go.Dx.SYtocdemagjocggaa
open Go.Proofs
set_option linter.unusedVariables false
set_option linter.unusedSimpArgs false

/-- Operations that came in. -/
def InOps (h : Heap) (l : List Value) (n : Nat) : Prop :=
  ∀ i, i < n → ∃ (k : Int) (a : Option Addr) (m c : Nat) (ids : List Int), l[i * 2 + 0]? = some (.int .i64 k) ∧ l[i * 2 + 1]? = some (.slice a m c) ∧ InS h a m c (us ids)

structure Two (h h' : Heap) (pa pb : Nat) (xs : List Int) (Sa Sb : Nat → Prop) : Prop where
  x : Ext0 h h'
  qa : Qu h' pa xs Sa
  qb : Qu h' pb xs Sb
  d : Dis Sa Sb
  na : ∀ i, Sa i → h.next ≤ i
  nb : ∀ i, Sb i → h.next ≤ i
  nd : xs.Nodup
  le : xs.length ≤ 4

theorem askR_nodup {xs : List Int} {x : Int} (h : xs.Nodup) (hl : xs.length ≤ 4) : (askR xs x).2.2.Nodup ∧ (askR xs x).2.2.length ≤ 4 := by
  unfold askR
  split
  · exact ⟨h, hl⟩
  · rename_i hx
    split
    · exact ⟨h, hl⟩
    · refine ⟨?_, by simp; omega⟩
      rw [List.nodup_append]
      exact ⟨h, by simp, fun a ha b hb => by simp at hb; subst hb; intro e; subst e; exact hx ha⟩
theorem leaveL_nodup (ids : List Int) : ∀ xs : List Int, xs.Nodup → (leaveL xs ids).Nodup := by
  induction ids with
  | nil => intro xs h; exact h
  | cons y ids ih => intro xs h; exact ih _ (h.filter _)

/-- Waits, Owner, all the same behind an operation. -/
theorem C24nil {h : Heap} : Fn Try.prog 24 [.pointer none, .int .u64 1] h fun v h' => v = .tuple ⟨[.bool false, .int .i64 1]⟩ ∧ h = h' := by
  refine fnK F24.fok rfl ?_
  refine K_reg (Wops_run rfl rfl (Wops_run rfl rfl (K_fin [(0, _), (1, _)] rfl (?_))))
  refine K_sblock ?_
  refine K_reg (Wops_run rfl rfl (Wops_run rfl rfl (Wops_run rfl rfl (K_fin [(0, _), (1, _), (6, _)] rfl (?_)))))
  refine K_cond rfl (fun hc => ?_) (fun hc => by cases hc)
  refine K_reg (Wops_run rfl rfl (Wops_run rfl rfl (K_fin [(4, _), (5, _)] rfl (?_))))
  exact K_ret (Told.mk _ rfl ⟨rfl, rfl⟩)
theorem C25nil {h : Heap} {v : Value} : Fn Try.prog 25 [.pointer none, v] h fun v h' => v = .tuple ⟨[.int .u64 0, .bool false]⟩ ∧ h = h' := by
  refine fnK F25.fok rfl ?_
  refine K_reg (Wops_run rfl rfl (Wops_run rfl rfl (K_fin [(0, _), (1, _)] rfl (?_))))
  refine K_ss (K_reg (Wops_run rfl rfl (Wops_run rfl rfl (K_fin [(0, _), (1, _), (13, _)] rfl (?_)))))
  refine K_scond rfl (fun hc => ?_) (fun hc => by cases hc)
  refine K_ss (K_reg (Wops_run rfl rfl (Wops_run rfl rfl (K_fin [(4, _), (5, _)] rfl (?_)))))
  exact K_sret (Told.mk _ rfl ⟨rfl, rfl⟩)
theorem C26nil {h : Heap} : Fn Try.prog 26 [.pointer none] h fun v h' => v = .tuple ⟨[.int .u64 0, .bool false]⟩ ∧ h = h' := by
  refine fnK F26.fok rfl ?_
  refine K_reg (Wops_run rfl rfl (Wops_run rfl rfl (K_fin [(0, _)] rfl (?_))))
  refine K_ss (K_reg (Wops_run rfl rfl (Wops_run rfl rfl (K_fin [(0, _), (5, _)] rfl (?_)))))
  refine K_scond rfl (fun hc => ?_) (fun hc => by cases hc)
  refine K_ss (K_reg (Wops_run rfl rfl (Wops_run rfl rfl (K_fin [(2, _), (3, _)] rfl (?_)))))
  exact K_sret (Told.mk _ rfl ⟨rfl, rfl⟩)
theorem C27nil {h : Heap} : Fn Try.prog 27 [.pointer none] h fun v h' => v = .slice none 0 0 ∧ h = h' := by
  refine fnK F27.fok rfl ?_
  refine K_reg (Wops_run rfl rfl (K_fin [(0, _)] rfl (?_)))
  refine K_ss (K_reg (Wops_run rfl rfl (Wops_run rfl rfl (Wops_run rfl rfl (Wops_skip rfl (Wops_skip rfl (Wops_skip rfl (Wops_skip rfl (Wops_skip rfl (Wops_skip rfl (Wops_skip rfl (Wops_run rfl rfl (K_fin [(0, _), (13, _)] rfl (?_))))))))))))))
  refine K_scond rfl (fun hc => ?_) (fun hc => by cases hc)
  refine K_ss (K_reg (Wops_run rfl rfl (K_fin [(2, _)] rfl (?_))))
  exact K_sret (Told.mk _ rfl ⟨rfl, rfl⟩)
theorem C32nil {h : Heap} : Fn Try.prog 32 [.pointer none] h fun v h' => v = .pointer none ∧ h = h' := by
  refine fnK F32.fok rfl ?_
  refine K_reg (Wops_run rfl rfl (K_fin [(0, _)] rfl (?_)))
  refine K_ss (K_reg (Wops_run rfl rfl (Wops_run rfl rfl (K_fin [(0, _), (4, _)] rfl (?_)))))
  refine K_scond rfl (fun hc => ?_) (fun hc => by cases hc)
  refine K_ss (K_reg (Wops_run rfl rfl (K_fin [(2, _)] rfl (?_))))
  exact K_sret (Told.mk _ rfl ⟨rfl, rfl⟩)

theorem C10 {h : Heap} {a0 : Option Addr} {n0 c0 : Nat} {l0 : List Value} (s0 : SlA h 2 a0 n0 c0 l0) (hlt0 : ∀ i, Blk a0 i → i < h.next) (hin : InOps h l0 n0) : Fn Try.prog 10 [.slice a0 n0 c0] h fun v _ => v = .bool true := by
  refine fnK F10.fok rfl ?_
  refine K_reg (Wops_run rfl rfl (K_fin [(0, _)] rfl (?_)))
  refine K_ss (K_reg (Wops_call rfl C22 ?_))
  rintro _ _ ⟨rfl, rfl⟩
  refine Wops_run rfl rfl (K_fin [(0, _), (29, _)] rfl (?_))
  refine K_scond rfl (fun hc => by cases hc) (fun _ => ?_)
  refine K_sskip (K_ss (K_reg (Wops_run rfl rfl (Wops_run rfl rfl (Wops_run rfl rfl (K_fin [(0, _), (32, _)] rfl (?_)))))))
  refine K_scond rfl (fun hc => ?_) (fun hc => ?_)
  · refine K_ss (K_reg (Wops_run rfl rfl (K_fin [(2, _)] rfl (?_))))
    exact K_sret (Told.mk _ rfl rfl)
  have h30 : n0 ≤ 30 := by have := of_decide_eq_false hc; omega
  refine K_sskip (K_reg (Wops_call rfl C23 ?_))
  rintro _ h1 ⟨pa, rfl, qa, xa, la⟩
  refine Wops_run rfl rfl (Wops_box rfl rfl fun h2 n2 x2 g2 => ?_)
  have hpa := qa.lt (i := pa) rfl
  have t0 : Two h h2 pa h1.next [] (· = pa) (· = h1.next) := ⟨xa.trans x2, qa.ext x2 fun _ _ r => r, ⟨none, 0, 0, g2, OwS.none, Blk.none, fun i => ⟨.inl, fun q => q.elim id fun r => absurd r Blk.none⟩⟩, fun i r t => by omega, fun i r => by omega, fun i r => by have := xa.next; omega, List.nodup_nil, by simp⟩
  generalize h1.next = pb at *
  refine Wops_run rfl rfl (Wops_run rfl rfl (K_fin [(0, _), (3, _), (4, _)] rfl (?_)))
  refine K_ss (K_reg (Wops_run rfl rfl (K_fin [(0, _), (3, _), (4, _), (5, _)] rfl (?_))))
  refine K_sblock ?_
  refine K_loop (fun k e h' => ∃ (i pa : Nat) (xs : List Int) (Sa Sb : Nat → Prop), e = [(0, .slice a0 n0 c0), (3, ptr pa), (4, ptr pb), (5, .int .i64 i)] ∧ i ≤ n0 ∧ k = n0 - i ∧ Two h h' pa pb xs Sa Sb) ?_ (k := n0) ⟨0, pa, [], _, _, rfl, by omega, rfl, t0⟩
  clear t0 g2 qa hpa la xa x2 n2
  rintro k e h' ⟨i, pa, xs, Sa, Sb, rfl, hi, rfl, t⟩
  have arg : ∀ {h'}, Ext0 h h' → SlA h' 2 a0 n0 c0 l0 := fun x => s0.ext x
  refine K_ss (K_reg (Wops_run rfl rfl (Wops_run rfl rfl (Wops_run rfl rfl (Wops_run rfl rfl (K_fin [(0, _), (3, _), (4, _), (5, _), (39, _)] rfl (?_)))))))
  refine K_scond rfl (fun hc => ?_) (fun hc => ?_)
  · have hlt : i < n0 := by have := of_decide_eq_true hc; omega
    obtain ⟨kd, a1, m1, c1, ids, u0, u1, s1⟩ := hin i hlt
    have hm1 : ids.length = m1 := by simpa using s1.sl.len
    have dS : ∀ {S : Nat → Prop}, (∀ i, S i → h.next ≤ i) → ∀ i, Blk a1 i → ¬ S i := fun n i r t => by have := s1.lt i r; have := n i t; omega
    refine K_sskip (K_sblock ?_)
    refine K_ss (K_reg (Wops_run rfl rfl (Wops_run rfl rfl (Wops_idxF (u := .slice a1 m1 c1) rfl rfl (arg t.x) ⟨by omega, by omega⟩ (by decide) (by simpa using u1) fun _ _ => ?_))))
    refine Wops_run rfl rfl (Wops_run rfl rfl (K_fin [(0, _), (3, _), (4, _), (5, _), (48, _)] rfl (?_)))
    refine K_scond rfl (fun hc => ?_) (fun hc => ?_)
    · refine K_ss (K_reg (Wops_run rfl rfl (K_fin [(2, _)] rfl (?_))))
      exact K_sret (Told.mk _ rfl rfl)
    have h6 : m1 ≤ 6 := by have := of_decide_eq_false hc; omega
    refine K_sskip (K_ss (K_reg (Wops_run rfl rfl (Wops_run rfl rfl (Wops_idxF (u := .int .i64 kd) rfl rfl (arg t.x) ⟨by omega, by omega⟩ (by decide) (by simpa using u0) fun _ _ => ?_)))))
    refine Wops_run rfl rfl (Wops_run rfl rfl (Wops_run rfl rfl (Wops_run rfl rfl (K_fin [(0, _), (3, _), (4, _), (5, _), (6, _)] rfl (?_)))))
    generalize (Int.tmod _ 8) = kk
    refine K_jblock (fun e h' => ∃ (rest : Env) (pa : Nat) (xs : List Int) (Sa Sb : Nat → Prop), e = (0, .slice a0 n0 c0) :: (3, ptr pa) :: (4, ptr pb) :: (5, .int .i64 i) :: rest ∧ Two h h' pa pb xs Sa Sb) ?_ ?_
    · refine K_reg (Wops_run rfl rfl (Wops_run rfl rfl (Wops_run rfl rfl (K_fin [(0, _), (3, _), (4, _), (5, _), (6, _), (66, _)] rfl (?_)))))
      refine K_cond rfl (fun hc => ?_) (fun hc => ?_)
      · refine K_reg (Wops_run rfl rfl (K_fin [(0, _), (3, _), (4, _), (5, _), (7, _)] rfl (?_)))
        refine K_block ?_
        refine K_loop (fun k e h' => ∃ (j : Nat) (xs : List Int) (Sa Sb : Nat → Prop), e = [(0, .slice a0 n0 c0), (3, ptr pa), (4, ptr pb), (5, .int .i64 i), (7, .int .i64 j)] ∧ j ≤ m1 ∧ k = m1 - j ∧ Two h h' pa pb xs Sa Sb) ?_ (k := m1) ⟨0, xs, Sa, Sb, rfl, by omega, rfl, t⟩
        clear t
        rintro k e h' ⟨j, xs, Sa, Sb, rfl, hj, rfl, t⟩
        refine K_ss (K_reg (Wops_run rfl rfl (Wops_run rfl rfl (Wops_run rfl rfl (Wops_idxF (u := .slice a1 m1 c1) rfl rfl (arg t.x) ⟨by omega, by omega⟩ (by decide) (by simpa using u1) fun _ _ => ?_)))))
        refine Wops_run rfl rfl (Wops_run rfl rfl (K_fin [(0, _), (3, _), (4, _), (5, _), (7, _), (76, _)] rfl (?_)))
        refine K_scond rfl (fun hc => ?_) (fun hc => ?_)
        · have hlj : j < m1 := by have := of_decide_eq_true hc; omega
          have hl1 : xs.length ≤ 1000 := by have := t.le; omega
          refine K_sskip (K_sblock ?_)
          refine K_reg (Wops_run rfl rfl (Wops_run rfl rfl (Wops_run rfl rfl (Wops_idxF (u := .slice a1 m1 c1) rfl rfl (arg t.x) ⟨by omega, by omega⟩ (by decide) (by simpa using u1) fun _ _ => ?_))))
          refine Wops_run rfl rfl (Wops_idx (u := .int .u64 ids[j]) rfl rfl (s1.sl.ext t.x) ⟨by omega, by omega⟩ (by simp [us, hm1, hlj]) fun p => ?_)
          refine Wops_call rfl (C24 t.qa hl1) ?_
          rintro _ h1 ⟨rfl, Sa', qa', ta⟩
          have x1 := ta.ext0 t.x t.na
          refine Wops_run rfl rfl (Wops_run rfl rfl (Wops_run rfl rfl (Wops_run rfl rfl (Wops_run rfl rfl (K_fin [(0, _), (3, _), (4, _), (5, _), (7, _), (8, _), (9, _)] rfl (?_))))))
          refine K_reg (Wops_run rfl rfl (Wops_run rfl rfl (Wops_run rfl rfl (Wops_idxF (u := .slice a1 m1 c1) rfl rfl (arg x1) ⟨by omega, by omega⟩ (by decide) (by simpa using u1) fun _ _ => ?_))))
          refine Wops_run rfl rfl (Wops_idx (u := .int .u64 ids[j]) rfl rfl (s1.sl.ext x1) ⟨by omega, by omega⟩ (by simp [us, hm1, hlj]) fun p => ?_)
          have qb1 := t.qb.ext ta.ext t.d.symm
          have d1 : Dis Sa' Sb := (t.d.symm.turn (fun i r => t.qb.lt r) ta).symm
          refine Wops_call rfl (C30 qb1 hl1) ?_
          rintro _ h2 ⟨rfl, Sb', qb', tb⟩
          have t' : Two h h2 pa pb (askR xs ids[j]).2.2 Sa' Sb' := ⟨tb.ext0 x1 t.nb, qa'.ext tb.ext d1, qb', d1.turn (fun i r => qa'.lt r) tb, ta.new t.x t.na, tb.new x1 t.nb, (askR_nodup t.nd t.le).1, (askR_nodup t.nd t.le).2⟩
          refine Wops_run rfl rfl (Wops_run rfl rfl (Wops_run rfl rfl (Wops_run rfl rfl (Wops_run rfl rfl (K_fin [(0, _), (3, _), (4, _), (5, _), (7, _), (8, _), (9, _), (10, _), (11, _)] rfl (?_))))))
          generalize askR xs ids[j] = w at *
          refine K_reg (Wops_run rfl rfl (Wops_run rfl rfl (Wops_as (w := .bool false) rfl rfl (by cases w.1 <;> rfl) (Wops_run rfl rfl (Wops_go rfl (Wops_run rfl rfl (Wops_go rfl (Wops_run rfl rfl (Wops_go rfl (Wops_neq (v := false) rfl rfl (by simp) (Wops_run rfl rfl (K_fin [(0, _), (3, _), (4, _), (5, _), (7, _), (112, _)] rfl (?_)))))))))))))
          refine K_cond rfl (fun hc => by cases hc) (fun _ => ?_)
          refine K_skip (K_last (Wops_run rfl rfl (Wops_run rfl rfl (Wops_run rfl rfl (K_finL [(0, _), (3, _), (4, _), (5, _), (7, _)] rfl (?_))))))
          exact ⟨m1 - (j + 1), by omega, j + 1, _, Sa', Sb', by rw [w64s (by omega)], by omega, rfl, t'⟩
        · refine K_sexit (bx_same ?_)
          exact ⟨_, pa, xs, Sa, Sb, rfl, t⟩
      · refine K_reg (Wops_run rfl rfl (Wops_run rfl rfl (Wops_run rfl rfl (K_fin [(0, _), (3, _), (4, _), (5, _), (113, _)] rfl (?_)))))
        have hl1 : xs.length ≤ 1000 := by have := t.le; omega
        refine K_cond rfl (fun hc => ?_) (fun hc => ?_)
        · refine K_reg (Wops_run rfl rfl (Wops_run rfl rfl (Wops_run rfl rfl (Wops_idxF (u := .slice a1 m1 c1) rfl rfl (arg t.x) ⟨by omega, by omega⟩ (by decide) (by simpa using u1) fun _ _ => ?_))))
          refine Wops_call rfl (C25 t.qa (s1.sl.ext t.x) (dS t.na) hl1 (by omega)) ?_
          rintro _ h1 ⟨rfl, Sa', qa', ta⟩
          have x1 := ta.ext0 t.x t.na
          refine Wops_run rfl rfl (Wops_run rfl rfl (Wops_run rfl rfl (Wops_run rfl rfl (Wops_run rfl rfl (K_fin [(0, _), (3, _), (4, _), (5, _), (12, _), (13, _)] rfl (?_))))))
          refine K_reg (Wops_run rfl rfl (Wops_run rfl rfl (Wops_run rfl rfl (Wops_idxF (u := .slice a1 m1 c1) rfl rfl (arg x1) ⟨by omega, by omega⟩ (by decide) (by simpa using u1) fun _ _ => ?_))))
          have qb1 := t.qb.ext ta.ext t.d.symm
          have d1 : Dis Sa' Sb := (t.d.symm.turn (fun i r => t.qb.lt r) ta).symm
          refine Wops_call rfl (C31 t.nd qb1 (s1.sl.ext x1) (dS t.nb) hl1 (by omega)) ?_
          rintro _ h2 ⟨rfl, Sb', qb', tb⟩
          have t' : Two h h2 pa pb (leaveL xs ids) Sa' Sb' := ⟨tb.ext0 x1 t.nb, qa'.ext tb.ext d1, qb', d1.turn (fun i r => qa'.lt r) tb, ta.new t.x t.na, tb.new x1 t.nb, leaveL_nodup _ _ t.nd, Nat.le_trans (leaveL_le _ _) t.le⟩
          refine Wops_run rfl rfl (Wops_run rfl rfl (Wops_run rfl rfl (Wops_run rfl rfl (Wops_run rfl rfl (K_fin [(0, _), (3, _), (4, _), (5, _), (12, _), (13, _), (14, _), (15, _)] rfl (?_))))))
          generalize leaveR xs (leaveL xs ids) = w at *
          refine K_reg (Wops_run rfl rfl (Wops_run rfl rfl (Wops_neq (v := false) rfl rfl (by simp) (Wops_run rfl rfl (Wops_go rfl (Wops_run rfl rfl (Wops_go rfl (Wops_run rfl rfl (Wops_go rfl (Wops_as (w := .bool false) rfl rfl (by cases w.2 <;> rfl) (Wops_run rfl rfl (K_fin [(0, _), (3, _), (4, _), (5, _), (143, _)] rfl (?_)))))))))))))
          refine K_cond rfl (fun hc => by cases hc) (fun _ => ?_)
          exact K_skip ⟨_, pa, _, Sa', Sb', rfl, t'⟩
        · refine K_reg (Wops_run rfl rfl (Wops_call rfl (C32 t.qa hl1) ?_))
          rintro _ h1 ⟨pc, Sc, rfl, qc, xc, lc⟩
          refine Wops_run rfl rfl (K_fin [(0, _), (3, _), (4, _), (5, _), (16, _)] rfl (?_))
          have qa1 := t.qa.ext xc fun _ _ r => r
          have qb1 := t.qb.ext xc fun _ _ r => r
          refine K_reg (Wops_run rfl rfl (Wops_run rfl rfl (Wops_call rfl (C27 qa1 hl1) ?_)))
          rintro _ h2 ⟨aw, cw, rfl, ow, xw, lw⟩
          have qa2 := qa1.ext xw fun _ _ r => r
          refine Wops_call rfl (C25 qa2 ow.sl (fun i r q => by have := lw i r; have := qa1.lt q; omega) hl1 (by omega)) ?_
          rintro _ h3 ⟨_, Sa3, qa3, t3⟩
          refine K_fin [(0, _), (3, _), (4, _), (5, _), (16, _)] rfl (?_)
          refine K_reg (Wops_run rfl rfl (Wops_call rfl (C24 qa3 (Nat.le_trans (leaveL_le _ _) hl1)) ?_))
          rintro _ h4 ⟨_, Sa4, qa4, t4⟩
          refine K_fin [(0, _), (4, _), (5, _), (16, _)] rfl (?_)
          refine K_last (Wops_run rfl rfl (Wops_run rfl rfl (K_finL [(0, _), (3, _), (4, _), (5, _)] rfl (?_))))
          have T := t3.trans t4
          have dc : Dis Sc Sa := fun i r q => by have := lc i r; have := t.qa.lt q; omega
          have db : Dis Sc Sb := fun i r q => by have := lc i r; have := t.qb.lt q; omega
          have nx := t.x.next
          exact ⟨[], pc, xs, Sc, Sb, rfl, T.ext0 ((t.x.trans xc).trans xw) t.na, (qc.ext xw fun _ _ r => r).ext T.ext dc, (qb1.ext xw fun _ _ r => r).ext T.ext t.d.symm, db, fun i r => Nat.le_trans nx (lc i r), t.nb, t.nd, t.le⟩
    · clear t
      rintro e h' ⟨rest, pa, xs, Sa, Sb, rfl, t⟩
      have hl1 : xs.length ≤ 1000 := by have := t.le; omega
      obtain ⟨ab, nb', cb, gb, ob, hpb, hSb⟩ := id t.qb
      refine K_reg (Wops_run rfl rfl (Wops_call rfl (C26 t.qa) ?_))
      rintro _ _ ⟨rfl, rfl⟩
      refine Wops_run rfl rfl (Wops_run rfl rfl (Wops_run rfl rfl (Wops_run rfl rfl (Wops_run rfl rfl (K_fin [(0, _), (3, _), (4, _), (5, _), (17, _), (18, _)] rfl (?_))))))
      refine K_reg (Wops_run rfl rfl (Wops_call rfl (C33 gb ob.sl) ?_))
      rintro _ _ ⟨rfl, rfl⟩
      refine Wops_run rfl rfl (Wops_run rfl rfl (Wops_run rfl rfl (Wops_run rfl rfl (Wops_run rfl rfl (K_fin [(0, _), (3, _), (4, _), (5, _), (17, _), (18, _), (19, _), (20, _)] rfl (?_))))))
      generalize fst' xs = w at *
      refine K_reg (Wops_run rfl rfl (Wops_run rfl rfl (Wops_neq (v := false) rfl rfl (by simp) (Wops_run rfl rfl (Wops_go rfl (Wops_run rfl rfl (Wops_go rfl (Wops_run rfl rfl (Wops_go rfl (Wops_as (w := .bool false) rfl rfl (by cases w.2 <;> rfl) ?_))))))))))
      refine Wops_run rfl rfl (Wops_run rfl rfl (Wops_go rfl (Wops_run rfl rfl (Wops_go rfl (Wops_call rfl (C27 t.qa hl1) ?_)))))
      rintro _ h1 ⟨aw, cw, rfl, ow, xw, lw⟩
      refine Wops_go rfl (Wops_run rfl rfl (Wops_go rfl (Wops_call rfl (C35 (t.qb.ext xw fun _ _ r => r) hl1) ?_)))
      rintro _ h2 ⟨av, cv, rfl, ov, xv, lv⟩
      have ow2 := ow.ext xv
      refine Wops_go rfl (Wops_call rfl (C34 ow2.sl ov.sl (by omega)) ?_)
      rintro _ _ ⟨rfl, rfl⟩
      refine Wops_go rfl (Wops_as (w := .bool false) rfl rfl (by simp) (Wops_run rfl rfl (K_fin [(0, _), (3, _), (4, _), (5, _), (169, _)] rfl (?_))))
      refine K_cond rfl (fun hc => by cases hc) (fun _ => ?_)
      refine K_skip (K_last (Wops_run rfl rfl (Wops_run rfl rfl (Wops_run rfl rfl (K_finL [(0, _), (3, _), (4, _), (5, _)] rfl (?_))))))
      have X := xw.trans xv
      exact ⟨n0 - (i + 1), by omega, i + 1, pa, xs, Sa, Sb, by rw [w64s (by omega)], by omega, rfl, t.x.trans X, t.qa.ext X fun _ _ r => r, t.qb.ext X fun _ _ r => r, t.d, t.na, t.nb, t.nd, t.le⟩
  · refine K_sexit (bx_same ?_)
    refine K_reg (Wops_run rfl rfl (K_fin [(21, _)] rfl (?_)))
    refine K_reg (Wops_run rfl rfl (Wops_call rfl C24nil ?_))
    rintro _ _ ⟨rfl, rfl⟩
    refine Wops_run rfl rfl (Wops_run rfl rfl (Wops_run rfl rfl (Wops_run rfl rfl (Wops_run rfl rfl (K_fin [(21, _), (23, _)] rfl (?_))))))
    refine K_reg (Wops_run rfl rfl (Wops_bslice (l := [.int .u64 1]) rfl rfl fun h1 n1 x1 g1 => ?_))
    refine Wops_call rfl C25nil ?_
    rintro _ _ ⟨rfl, rfl⟩
    refine Wops_run rfl rfl (Wops_run rfl rfl (Wops_run rfl rfl (Wops_run rfl rfl (Wops_run rfl rfl (K_fin [(21, _), (23, _), (25, _)] rfl (?_))))))
    refine K_reg (Wops_run rfl rfl (Wops_call rfl C26nil ?_))
    rintro _ _ ⟨rfl, rfl⟩
    refine Wops_run rfl rfl (Wops_run rfl rfl (Wops_run rfl rfl (Wops_run rfl rfl (Wops_run rfl rfl (K_fin [(21, _), (23, _), (25, _), (27, _)] rfl (?_))))))
    refine K_reg (Wops_run rfl rfl (Wops_run rfl rfl (Wops_run rfl rfl (Wops_go rfl (Wops_run rfl rfl (Wops_go rfl (Wops_run rfl rfl (Wops_run rfl rfl (Wops_run rfl rfl (Wops_go rfl (Wops_run rfl rfl (Wops_go rfl ?_))))))))))))
    refine Wops_run rfl rfl (Wops_run rfl rfl (Wops_run rfl rfl (Wops_go rfl (Wops_run rfl rfl (Wops_go rfl (Wops_call rfl C27nil ?_))))))
    rintro _ _ ⟨rfl, rfl⟩
    refine Wops_go rfl (Wops_run rfl rfl (Wops_go rfl (Wops_run rfl rfl (Wops_run rfl rfl (Wops_run rfl rfl (Wops_go rfl (Wops_run rfl rfl (Wops_go rfl (Wops_call rfl C32nil ?_)))))))))
    rintro _ _ ⟨rfl, rfl⟩
    refine Wops_go rfl (Wops_run rfl rfl (Wops_run rfl rfl (Wops_run rfl rfl (K_fin [(2, _)] rfl (?_)))))
    exact K_ret (Told.mk _ rfl rfl)
end Go.Dx.SYtocdemagjocggaa
