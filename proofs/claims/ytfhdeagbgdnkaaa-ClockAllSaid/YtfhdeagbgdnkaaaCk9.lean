/- ClockAll: the walk. -/
import Derived.Test.YtfhdeagbgdnkaaaCk8
namespace Go.Dx.SYtfhdeagbgdnkaaa
open Go.Proofs
set_option linter.unusedVariables false
set_option linter.unusedSimpArgs false

theorem CC.both {h h1 h2 h3 : Heap} {pa pb po : Nat} {ds ds' : List D} {now now' : Int} {Sa Sb Sa' Sb' : Nat → Prop} {cs : List Value} (t : CC h h1 pa pb ds now Sa Sb po cs) (ta : Turn h1 h2 Sa Sa') (qa' : Ck h2 pa ds' now' Sa') (tb : Turn h2 h3 Sb Sb') (qb' : Dk h3 pb ds' now' Sb') (u' : Uq ds') (f' : ∀ d ∈ ds', now' < d.2) : CC h h3 pa pb ds' now' Sa' Sb' po cs := by
  have ltpo := t.g.lt
  have d' : Dis Sa' Sb := fun j r s => (ta.own j r).elim (fun r => t.d j r s) fun r => by have := t.qb.lt s; omega
  exact ⟨tb.ext0 (ta.ext0 t.x t.na) t.nb, qa'.ext tb.ext d', qb', fun j r s => (tb.own j s).elim (d' j r) fun s => by have := qa'.lt r; omega, ta.new t.x t.na, tb.new (ta.ext0 t.x t.na) t.nb, u', f', (t.g.ext ta.ext t.ga).ext tb.ext t.gb,
    fun r => (ta.own po r).elim t.ga fun s => by omega, fun r => (tb.own po r).elim t.gb fun s => by have := ta.ext.next; omega⟩
theorem CC.mid {h h1 h2 : Heap} {pa pb po : Nat} {ds : List D} {now : Int} {Sa Sb Sa' : Nat → Prop} {cs : List Value} (t : CC h h1 pa pb ds now Sa Sb po cs) (ta : Turn h1 h2 Sa Sa') : Dk h2 pb ds now Sb ∧ At h2 po (.cells cs 0 false) := ⟨t.qb.ext ta.ext fun j r s => t.d j s r, t.g.ext ta.ext t.ga⟩

theorem C14 {h : Heap} {a0 : Option Addr} {n0 c0 : Nat} {l0 : List Value} (s0 : SlA h 4 a0 n0 c0 l0) (hin : InOps h l0 n0) : Fn Try.prog 14 [.slice a0 n0 c0] h fun v _ => v = .bool true := by
  refine fnK F14.fok rfl ?_
  refine K_reg (Wops_run rfl rfl (K_fin [(0, _)] rfl (?_)))
  refine K_ss (K_reg (Wops_call rfl C31 ?_))
  rintro _ _ ⟨rfl, rfl⟩
  refine Wops_run rfl rfl (K_fin [(0, _), (20, _)] rfl (?_))
  refine K_scond rfl (fun hc => by cases hc) (fun _ => ?_)
  refine K_sskip (K_ss (K_reg (Wops_run rfl rfl (Wops_run rfl rfl (Wops_run rfl rfl (K_fin [(0, _), (23, _)] rfl (?_)))))))
  refine K_scond rfl (fun hc => ?_) (fun hc => ?_)
  · refine K_ss (K_reg (Wops_run rfl rfl (K_fin [(2, _)] rfl (?_))))
    exact K_sret (Told.mk _ rfl rfl)
  have h40 : n0 ≤ 40 := by have := of_decide_eq_false hc; omega
  clear hc
  refine K_sskip (K_reg (Wops_call rfl C32 ?_))
  rintro _ h1 ⟨pa, rfl, qa, xa, la⟩
  have lta := qa.lt (i := pa) rfl
  refine Wops_run rfl rfl (Wops_box rfl rfl fun h2 n2 x2 g2 => ?_)
  refine Wops_run rfl rfl (Wops_run rfl rfl (K_fin [(0, _), (3, _), (4, _)] rfl (?_)))
  refine K_ss (K_reg (Wops_run rfl rfl (K_fin [(0, _), (3, _), (4, _), (5, _)] rfl (?_))))
  refine K_sblock ?_
  have ea := xa.next
  refine K_loop (fun k e h' => ∃ (i : Nat) (pa pb : Nat) (ds : List D) (now : Nat) (Sa Sb : Nat → Prop), e = [(0, .slice a0 n0 c0), (3, ptr pa), (4, ptr pb), (5, .int .i64 i)] ∧ i ≤ n0 ∧ k = n0 - i ∧ now ≤ i ∧ ds.length ≤ i ∧
    Ext0 h h' ∧ Ck h' pa ds now Sa ∧ Dk h' pb ds now Sb ∧ Dis Sa Sb ∧ (∀ j, Sa j → h.next ≤ j) ∧ (∀ j, Sb j → h.next ≤ j) ∧ Uq ds ∧ ∀ d ∈ ds, (now : Int) < d.2) ?_ (k := n0)
    ⟨0, pa, h1.next, [], 0, _, (· = h1.next), rfl, by omega, rfl, by omega, by simp, xa.trans x2, qa.ext0 x2, ⟨none, 0, 0, none, 0, 0, g2, SlA.none, SlA.none, Blk.none, Blk.none, fun i r => r.elim (fun r => absurd r Blk.none) fun r => absurd r Blk.none, fun i => ⟨.inl, fun r => r.elim (fun r => r) fun r => r.elim (fun r => absurd r Blk.none) fun r => absurd r Blk.none⟩⟩, fun j r s => by rw [r] at s; omega, fun j r => by rw [r]; exact la, fun j r => by rw [r]; exact ea, List.nodup_nil, fun d hd => by cases hd⟩
  clear qa xa la lta g2 x2 n2 ea h1 h2 pa
  rintro k e h1 ⟨i, pa, pb, ds, now, Sa, Sb, rfl, hi, rfl, hni, hdi, X, qa, qb, dd, na, nb, u, f⟩
  refine K_ss (K_reg (Wops_run rfl rfl (Wops_run rfl rfl (Wops_run rfl rfl (Wops_run rfl rfl (K_fin [(0, _), (3, _), (4, _), (5, _), (30, _)] rfl (?_)))))))
  refine K_scond rfl (fun hc => ?_) (fun hc => ?_)
  · have hlt : i < n0 := by have := of_decide_eq_true hc; omega
    obtain ⟨kk, id, tk, ai, mi, ci, ids, e0, e1, e2, e3, si, htk⟩ := hin i hlt
    have hmi : ids.length = mi := by simpa using si.sl.len
    refine K_sskip (K_sblock ?_)
    refine K_reg (Wops_run rfl rfl (Wops_run rfl rfl (Wops_iaS rfl rfl (s0.ext X) ⟨by omega, by omega⟩ fun id' off vs ez ro _ h3 h4 h5 => ?_)))
    refine Wops_ldA (l := [.int .i64 kk, .int .u64 id, .int .u64 tk, .slice ai mi ci]) rfl h3 (by rw [Int.toNat_natCast]; omega) (by rw [Int.toNat_natCast]; exact row4 h5 hlt e0 e1 e2 e3) ?_
    clear h3 h4 h5
    refine Wops_new fun h2 n2 x2 g2 => Wops_st rfl rfl rfl rfl g2 (by simp) rfl fun h3 n3 x3 g3 => ?_
    have X13 : Ext0 h1 h3 := x2.then x3 fun j r => .inr (by omega)
    have t : CC h h3 pa pb ds now Sa Sb h1.next [.int .i64 kk, .int .u64 id, .int .u64 tk, .slice ai mi ci] :=
      ⟨X.trans X13, qa.ext0 X13, qb.ext0 X13, dd, na, nb, u, f, g3, fun r => by have := qa.lt r; omega, fun r => by have := qb.lt r; omega⟩
    clear qa qb dd na nb u f g2 g3 x2 x3 n2
    have npo : h.next ≤ h1.next := X.next
    generalize h1.next = po at *
    clear X13 X
    refine K_fin [(0, _), (3, _), (4, _), (5, _), (6, _)] rfl (?_)
    refine K_ss (K_reg (Wops_run rfl rfl (Wops_ld rfl t.g (by rfl) ?_)))
    refine Wops_run rfl rfl (Wops_run rfl rfl (K_fin [(0, _), (3, _), (4, _), (5, _), (6, _), (40, _)] rfl (?_)))
    refine K_scond rfl (fun hc => ?_) (fun hc => ?_)
    · refine K_ss (K_reg (Wops_run rfl rfl (K_fin [(2, _)] rfl (?_))))
      exact K_sret (Told.mk _ rfl rfl)
    have h6 : mi ≤ 6 := by have := of_decide_eq_false hc; omega
    clear hc
    obtain ⟨K, hK, hKe⟩ : ∃ K : Nat, K < 10 ∧ (kk.tmod 10 + 10).tmod 10 = K := by
      have r1 := Int.tmod_lt_of_pos kk (show (0 : Int) < 10 by omega)
      have r2 : -10 < kk.tmod 10 := Int.lt_tmod_of_pos kk (show (0 : Int) < 10 by omega)
      have r3 := Int.tmod_nonneg 10 (show 0 ≤ kk.tmod 10 + 10 by omega)
      have r4 := Int.tmod_lt_of_pos (kk.tmod 10 + 10) (show (0 : Int) < 10 by omega)
      exact ⟨((kk.tmod 10 + 10).tmod 10).toNat, by omega, by omega⟩
    have hkr : -10 < kk.tmod 10 ∧ kk.tmod 10 < 10 := ⟨Int.lt_tmod_of_pos kk (show (0 : Int) < 10 by omega), Int.tmod_lt_of_pos kk (show (0 : Int) < 10 by omega)⟩
    refine K_sskip (K_ss (K_reg (Wops_run rfl rfl (Wops_ld rfl t.g (by rfl) (Wops_rem rfl rfl (by decide) (Wops_as (w := .int .i64 (kk.tmod 10 + 10)) rfl rfl (by rw [w64 (by omega)]) (Wops_rem rfl rfl (by decide) (Wops_as (w := .int .i64 (K : Int)) rfl rfl (by rw [hKe]) (K_fin [(0, _), (3, _), (4, _), (5, _), (6, _), (7, _)] rfl (?_)))))))))) 
    refine K_jblock (fun e h' => ∃ (pa' : Nat) (ds' : List D) (now' : Nat) (Sa' Sb' : Nat → Prop) (l : Env), e = [(0, .slice a0 n0 c0), (3, ptr pa'), (4, ptr pb), (5, .int .i64 i), (6, ptr po)] ++ l ∧ now' ≤ i + 1 ∧ ds'.length ≤ i + 1 ∧ CC h h' pa' pb ds' now' Sa' Sb' po [.int .i64 kk, .int .u64 id, .int .u64 tk, .slice ai mi ci]) ?_ ?_
    · have sarg : ∀ {h'}, Ext0 h h' → SlA h' 1 ai mi ci (us ids) := fun x => si.sl.ext x
      have darg : ∀ j, Blk ai j → j < h.next := si.lt
      refine K_reg (Wops_run rfl rfl (Wops_run rfl rfl (Wops_run rfl rfl (K_fin [(0, _), (3, _), (4, _), (5, _), (6, _), (7, _), (53, _)] rfl (?_)))))
      refine K_cond rfl (fun hc => ?_) (fun hc => ?_)
      · refine K_reg (Wops_run rfl rfl (Wops_run rfl rfl (Wops_ld rfl t.g (by rfl) (Wops_run rfl rfl (Wops_ld rfl t.g (by rfl) (Wops_run rfl rfl (Wops_run rfl rfl (Wops_ld rfl t.g (by rfl) (Wops_run rfl rfl (Wops_ld rfl t.g (by rfl) ?_))))))))))
        refine Wops_call rfl (C33 t.qa (by omega) (by omega) htk) ?_
        rintro _ h4 ⟨rfl, Sa', qa', ta⟩
        obtain ⟨u', f', l'⟩ := setR_uq (x := id) (t := tk) t.u t.f htk
        obtain ⟨qb4, g4⟩ := t.mid ta
        refine Wops_chk rfl rfl g4 (by rfl) (by simp [sameV, sameCell]) (Wops_chk rfl rfl g4 (by rfl) (by simp [sameV, sameCell]) ?_)
        refine Wops_call rfl (C39 qb4 (by omega) (by omega) htk) ?_
        rintro _ h5 ⟨rfl, Sb', qb', tb⟩
        refine Wops_neq (v := false) rfl rfl (by simp) (K_fin [(0, _), (3, _), (4, _), (5, _), (6, _), (68, _)] rfl (?_))
        refine K_cond rfl (fun hc => by cases hc) (fun _ => ?_)
        exact K_skip ⟨pa, _, now, Sa', Sb', _, rfl, by omega, by omega, t.both ta qa' tb qb' u' f'⟩
      refine K_reg (Wops_run rfl rfl (Wops_run rfl rfl (Wops_run rfl rfl (K_fin [(0, _), (3, _), (4, _), (5, _), (6, _), (7, _), (69, _)] rfl (?_)))))
      refine K_cond rfl (fun hc4 => ?_) (fun hc4 => ?_)
      · have hlen := dropR_len ds ids
        refine K_reg (Wops_run rfl rfl (Wops_run rfl rfl (Wops_ld rfl t.g (by rfl) ?_)))
        refine Wops_call rfl (C37 t.qa (sarg t.x) (fun j r s => by have := darg j r; have := t.na j s; omega) (by omega) (by omega)) ?_
        rintro _ h4 ⟨Sa', qa', ta⟩
        obtain ⟨qb4, g4⟩ := t.mid ta
        refine K_fin [(0, _), (3, _), (4, _), (5, _), (6, _)] rfl (?_)
        refine K_last (Wops_run rfl rfl (Wops_run rfl rfl (Wops_ld rfl g4 (by rfl) ?_)))
        refine Wops_call rfl (C40 t.u qb4 (sarg (ta.ext0 t.x t.na)) (fun j r => ⟨by have := darg j r; have := t.x.next; have := ta.ext.next; omega, fun s => by have := darg j r; have := t.nb j s; omega⟩) (by omega) (by omega)) ?_
        rintro _ h5 ⟨Sb', qb', tb⟩
        refine K_finL [(0, _), (3, _), (4, _), (5, _), (6, _)] rfl (?_)
        exact ⟨pa, _, now, Sa', Sb', [], rfl, by omega, by omega, t.both ta qa' tb qb' (t.u.filter _) (dropR_fut t.f)⟩
      refine K_reg (Wops_run rfl rfl (Wops_run rfl rfl (Wops_run rfl rfl (K_fin [(0, _), (3, _), (4, _), (5, _), (6, _), (80, _)] rfl (?_)))))
      refine K_cond rfl (fun hc9 => ?_) (fun hc9 => ?_)
      · have hlen := dropR_len ds (lateL ds ((now : Int) + 1))
        have hll := lateL_len ds ((now : Int) + 1)
        refine K_reg (Wops_run rfl rfl (Wops_call rfl (C34 t.qa (by omega) (by omega)) ?_))
        rintro _ h4 ⟨ao, no, co, Sa', rfl, so, bo, qa', ta⟩
        obtain ⟨qb4, g4⟩ := t.mid ta
        refine Wops_run rfl rfl (Wops_call rfl (C41 t.u t.f qb4 (by omega) (by omega)) ?_)
        rintro _ h5 ⟨ap, np, cp, Sb', rfl, sp, qb', tb⟩
        have hno : (lateL ds ((now : Int) + 1)).length = no := by simpa using so.len
        refine Wops_call rfl (C35 (so.ext tb.ext fun j r s => by have := (bo j r).1; have := t.qb.lt s; omega) sp (by omega)) ?_
        rintro _ _ ⟨rfl, rfl⟩
        rw [decide_eq_true rfl]
        refine Wops_run rfl rfl (K_fin [(0, _), (3, _), (4, _), (5, _), (6, _), (88, _)] rfl (?_))
        refine K_cond rfl (fun hc => by cases hc) (fun _ => ?_)
        exact K_skip ⟨pa, _, now + 1, Sa', Sb', _, rfl, by omega, by omega, t.both ta qa' tb qb' (t.u.filter _) (tick_fut t.f)⟩
      · refine K_reg (Wops_run rfl rfl (Wops_call rfl (C42 t.qa (by omega)) ?_))
        rintro _ h4 ⟨pc, Sc, rfl, qc, x4, nc⟩
        have lpo := t.g.lt
        have e4 := x4.next
        refine Wops_run rfl rfl (K_fin [(0, _), (3, _), (4, _), (5, _), (6, _), (8, _)] rfl (?_))
        refine K_reg (Wops_run rfl rfl (Wops_call rfl (C34 (t.qa.ext0 x4) (by omega) (by omega)) ?_))
        rintro _ h5 ⟨_, _, _, S5, rfl, _, _, q5, t5⟩
        have hl5 := dropR_len ds (lateL ds ((now : Int) + 1))
        refine K_fin [(0, _), (3, _), (4, _), (5, _), (6, _), (8, _)] rfl (?_)
        refine K_reg (Wops_run rfl rfl (Wops_call rfl (C33 q5 (by omega) (by omega) (by omega)) ?_))
        rintro _ h6 ⟨rfl, S6, q6, t6⟩
        refine K_fin [(0, _), (4, _), (5, _), (6, _), (8, _)] rfl (?_)
        refine K_last (Wops_run rfl rfl (Wops_run rfl rfl (K_finL [(0, _), (3, _), (4, _), (5, _), (6, _)] rfl (?_))))
        have o5 : ∀ j, j < h4.next → ¬ Sa j → ¬ S5 j := fun j r n s => (t5.own j s).elim n fun s => by omega
        have cS : ∀ j, Sc j → ¬ Sa j := fun j r s => by have := nc j r; have := t.qa.lt s; omega
        have bS : ∀ j, Sb j → ¬ Sa j := fun j r s => t.d j s r
        refine ⟨pc, ds, now, Sc, Sb, [], rfl, by omega, by omega, ⟨t6.ext0 (t5.ext0 (t.x.trans x4) t.na) (t5.new (t.x.trans x4) t.na), (qc.ext t5.ext cS).ext t6.ext fun j r => o5 j (qc.lt r) (cS j r), ((t.qb.ext0 x4).ext t5.ext bS).ext t6.ext fun j r => o5 j (by have := t.qb.lt r; omega) (bS j r), fun j r s => by have := nc j r; have := t.qb.lt s; omega, fun j r => by have := nc j r; have := t.x.next; omega, t.nb, t.u, t.f, ((t.g.ext x4).ext t5.ext t.ga).ext t6.ext (o5 po (by omega) t.ga), fun r => by have := nc po r; omega, t.gb⟩⟩
    · rintro _ h4 ⟨pc, es, now', Ta, Tb, l, rfl, hn', hd', t'⟩
      clear t
      obtain ⟨a, n, c, b, m, d, g, s, s2, hpa, hpb, hl, hS⟩ := t'.qb
      have hn : es.length = n := by have := s.len; simpa using this
      have hm : es.length = m := by have := s2.len; simpa using this
      refine K_ss (K_reg (Wops_run rfl rfl (Wops_run rfl rfl (Wops_run rfl rfl (Wops_run rfl rfl (Wops_ld rfl g (by rfl) (Wops_call rfl (C36 t'.qa) ?_)))))))
      rintro _ _ ⟨rfl, rfl⟩
      refine Wops_chk rfl rfl g (by rfl) (by simp [sameV, sameCell]) (Wops_neq (v := false) rfl rfl (by simp) (K_fin [(0, _), (3, _), (4, _), (5, _), (6, _), (95, _)] rfl (?_)))
      refine K_scond rfl (fun hc => by cases hc) (fun _ => ?_)
      refine K_sskip (K_ss (K_reg (Wops_run rfl rfl (K_fin [(0, _), (3, _), (4, _), (5, _), (6, _), (9, _)] rfl (?_)))))
      refine K_sblock ?_
      refine K_loop (fun k e h' => ∃ j : Nat, e = [(0, .slice a0 n0 c0), (3, ptr pc), (4, ptr pb), (5, .int .i64 i), (6, ptr po), (9, .int .i64 j)] ∧ h4 = h' ∧ j ≤ n ∧ k = n - j) ?_ (k := n) ⟨0, rfl, rfl, by omega, rfl⟩
      rintro k e h' ⟨j, rfl, rfl, hj, rfl⟩
      refine K_ss (K_reg (Wops_run rfl rfl (Wops_run rfl rfl (Wops_run rfl rfl (Wops_run rfl rfl (Wops_ld rfl g (by rfl) (Wops_run rfl rfl (Wops_run rfl rfl (K_fin [(0, _), (3, _), (4, _), (5, _), (6, _), (9, _), (102, _)] rfl (?_))))))))))
      refine K_scond rfl (fun hc => ?_) (fun hc => ?_)
      · have hlt2 : j < n := by have := of_decide_eq_true hc; omega
        refine K_sskip (K_sblock ?_)
        refine K_reg (Wops_run rfl rfl (Wops_run rfl rfl (Wops_run rfl rfl (Wops_run rfl rfl (Wops_ld rfl g (by rfl) (Wops_run rfl rfl ?_))))))
        refine Wops_idx (u := .int .u64 es[j].1) rfl rfl s ⟨by omega, by omega⟩ (by simp [us, hn, hlt2]) fun _ => ?_
        refine Wops_call rfl (C38 t'.qa (by omega)) ?_
        rw [at_own t'.u (show j < es.length by omega)]
        rintro _ _ ⟨rfl, rfl⟩
        refine Wops_run rfl rfl (Wops_run rfl rfl (Wops_run rfl rfl (Wops_run rfl rfl (Wops_run rfl rfl (K_fin [(0, _), (3, _), (4, _), (5, _), (6, _), (9, _), (10, _), (11, _)] rfl (?_))))))
        refine K_reg (Wops_run rfl rfl (Wops_run rfl rfl (Wops_run rfl rfl (Wops_go rfl (Wops_run rfl rfl (Wops_go rfl (Wops_run rfl rfl (Wops_go rfl (Wops_run rfl rfl (Wops_go rfl (Wops_run rfl rfl (Wops_go rfl (Wops_ld rfl g (by rfl) (Wops_go rfl (Wops_run rfl rfl (Wops_go rfl ?_))))))))))))))))
        refine Wops_idxG (u := .int .u64 es[j].2) rfl rfl s2 ⟨by omega, by omega⟩ (by simp [us, List.getElem?_eq_getElem (show j < es.length by omega)]) (fun _ => rfl) fun _ => ?_
        refine Wops_go rfl (Wops_neq (v := false) rfl rfl (by simp) (Wops_run rfl rfl (K_fin [(0, _), (3, _), (4, _), (5, _), (6, _), (9, _), (129, _)] rfl (?_))))
        refine K_cond rfl (fun hc => by cases hc) (fun _ => ?_)
        refine K_skip (K_last (Wops_run rfl rfl (Wops_run rfl rfl (Wops_run rfl rfl (K_finL [(0, _), (3, _), (4, _), (5, _), (6, _), (9, _)] rfl (?_))))))
        exact ⟨n - (j + 1), by omega, j + 1, by rw [w64s (by omega)], rfl, by omega, rfl⟩
      refine K_sexit (bx_same ?_)
      refine K_reg (Wops_run rfl rfl (Wops_run rfl rfl (Wops_ld rfl t'.g (by rfl) (Wops_call rfl (C38 t'.qa (by omega)) ?_))))
      rintro _ _ ⟨rfl, rfl⟩
      refine Wops_run rfl rfl (Wops_run rfl rfl (Wops_run rfl rfl (Wops_run rfl rfl (Wops_run rfl rfl (K_fin [(0, _), (3, _), (4, _), (5, _), (6, _), (13, _)] rfl (?_))))))
      rw [at_is]
      refine K_reg (Wops_run rfl rfl (K_fin [(0, _), (3, _), (4, _), (5, _), (6, _), (13, _), (14, _)] rfl (?_)))
      refine K_ss (K_reg (Wops_run rfl rfl (K_fin [(0, _), (3, _), (4, _), (5, _), (6, _), (13, _), (14, _), (15, _)] rfl (?_))))
      refine K_sblock ?_
      refine K_loop (fun k e h' => ∃ (j : Nat) (w : Bool), e = [(0, .slice a0 n0 c0), (3, ptr pc), (4, ptr pb), (5, .int .i64 i), (6, ptr po), (13, .bool (decide (id ∈ es.map (·.1)))), (14, .bool w), (15, .int .i64 j)] ∧ h4 = h' ∧ j ≤ n ∧ k = n - j ∧ w = decide (id ∈ (es.take j).map (·.1))) ?_ (k := n) ⟨0, false, rfl, rfl, by omega, rfl, by simp⟩
      rintro k e h' ⟨j2, w, rfl, rfl, hj2, rfl, hw⟩
      refine K_ss (K_reg (Wops_run rfl rfl (Wops_run rfl rfl (Wops_run rfl rfl (Wops_run rfl rfl (Wops_ld rfl g (by rfl) (Wops_run rfl rfl (Wops_run rfl rfl (K_fin [(0, _), (3, _), (4, _), (5, _), (6, _), (13, _), (14, _), (15, _), (143, _)] rfl (?_))))))))))
      refine K_scond rfl (fun hc => ?_) (fun hc => ?_)
      · have hlt2 : j2 < n := by have := of_decide_eq_true hc; omega
        have hsn : (id ∈ (es.take (j2 + 1)).map (·.1)) ↔ (id ∈ (es.take j2).map (·.1) ∨ es[j2].1 = id) := by
          rw [List.take_add_one, List.getElem?_eq_getElem (show j2 < es.length by omega), List.map_append, List.mem_append]
          simp [eq_comm]
        refine K_sskip (K_sblock (K_last (Wops_run rfl rfl (Wops_run rfl rfl ?_))))
        cases w with
        | true =>
          have hw := of_decide_eq_true hw.symm
          refine Wops_skip rfl (Wops_skip rfl (Wops_skip rfl (Wops_skip rfl (Wops_skip rfl (Wops_skip rfl (Wops_skip rfl (Wops_skip rfl (Wops_skip rfl (Wops_skip rfl ?_)))))))))
          refine Wops_run rfl rfl (Wops_run rfl rfl (K_finL [(0, _), (3, _), (4, _), (5, _), (6, _), (13, _), (14, _), (15, _)] rfl (?_)))
          refine K_last (Wops_run rfl rfl (Wops_run rfl rfl (Wops_run rfl rfl (K_finL [(0, _), (3, _), (4, _), (5, _), (6, _), (13, _), (14, _), (15, _)] rfl (?_)))))
          exact ⟨n - (j2 + 1), by omega, j2 + 1, true, by rw [w64s (by omega)], rfl, by omega, rfl, (decide_eq_true (hsn.2 (.inl hw))).symm⟩
        | false =>
          have hw := of_decide_eq_false hw.symm
          refine Wops_go rfl (Wops_run rfl rfl (Wops_go rfl (Wops_run rfl rfl (Wops_go rfl (Wops_run rfl rfl (Wops_go rfl (Wops_ld rfl g (by rfl) (Wops_go rfl (Wops_run rfl rfl (Wops_go rfl ?_))))))))))
          refine Wops_idxG (u := .int .u64 es[j2].1) rfl rfl s ⟨by omega, by omega⟩ (by simp [us, hn, hlt2]) (fun _ => rfl) fun _ => ?_
          refine Wops_go rfl (Wops_run rfl rfl (Wops_go rfl (Wops_ld rfl t'.g (by rfl) (Wops_go rfl (Wops_eq (v := decide (es[j2].1 = id)) rfl rfl (by by_cases q : es[j2].1 = id <;> simp [q]) ?_)))))
          refine Wops_run rfl rfl (Wops_run rfl rfl (K_finL [(0, _), (3, _), (4, _), (5, _), (6, _), (13, _), (14, _), (15, _)] rfl (?_)))
          refine K_last (Wops_run rfl rfl (Wops_run rfl rfl (Wops_run rfl rfl (K_finL [(0, _), (3, _), (4, _), (5, _), (6, _), (13, _), (14, _), (15, _)] rfl (?_)))))
          refine ⟨n - (j2 + 1), by omega, j2 + 1, decide (es[j2].1 = id), by rw [w64s (by omega)], rfl, by omega, rfl, decide_eq_decide.2 ?_⟩
          rw [hsn]
          exact ⟨.inr, fun r => r.resolve_left hw⟩
      have hjn : j2 = n := by have := of_decide_eq_false hc; omega
      rw [List.take_of_length_le (show es.length ≤ j2 by omega)] at hw
      subst hw
      refine K_sexit (bx_same ?_)
      refine K_reg (Wops_run rfl rfl (Wops_run rfl rfl (Wops_as (w := .bool false) rfl rfl (by simp) (K_fin [(0, _), (3, _), (4, _), (5, _), (161, _)] rfl (?_)))))
      refine K_cond rfl (fun hc => by cases hc) (fun _ => ?_)
      refine K_skip (K_last (Wops_run rfl rfl (Wops_run rfl rfl (Wops_run rfl rfl (K_finL [(0, _), (3, _), (4, _), (5, _)] rfl (?_))))))
      exact ⟨n0 - (i + 1), by omega, i + 1, pc, pb, es, now', Ta, Tb, by rw [w64s (by omega)], by omega, rfl, by omega, by omega, t'.x, t'.qa, t'.qb, t'.d, t'.na, t'.nb, t'.u, t'.f⟩
  · refine K_sexit (bx_same ?_)
    refine K_reg (Wops_run rfl rfl (K_fin [(16, _)] rfl (?_)))
    refine K_reg (Wops_run rfl rfl (Wops_bslice (l := us [1]) rfl rfl fun h2 n2 x2 g2 => ?_))
    refine Wops_call rfl (C37nil rfl) ?_
    rintro _ h3 x3
    refine K_fin [(16, _)] rfl (?_)
    refine K_reg (Wops_run rfl rfl (Wops_call rfl C38nil ?_))
    rintro _ _ ⟨rfl, rfl⟩
    refine Wops_run rfl rfl (Wops_run rfl rfl (Wops_run rfl rfl (Wops_run rfl rfl (Wops_run rfl rfl (K_fin [(16, _), (18, _)] rfl (?_))))))
    refine K_reg (Wops_run rfl rfl (Wops_call rfl C33nil ?_))
    rintro _ _ ⟨rfl, rfl⟩
    refine Wops_run rfl rfl (Wops_run rfl rfl (Wops_go rfl (Wops_run rfl rfl (Wops_go rfl (Wops_call rfl C34nil ?_)))))
    rintro _ _ ⟨rfl, rfl⟩
    refine Wops_go rfl (Wops_run rfl rfl (Wops_go rfl (Wops_run rfl rfl (Wops_run rfl rfl (Wops_run rfl rfl ?_)))))
    refine Wops_go rfl (Wops_run rfl rfl (Wops_go rfl (Wops_call rfl C36nil ?_)))
    rintro _ _ ⟨rfl, rfl⟩
    refine Wops_go rfl (Wops_run rfl rfl (Wops_run rfl rfl (Wops_run rfl rfl ?_)))
    refine Wops_go rfl (Wops_run rfl rfl (Wops_go rfl (Wops_run rfl rfl (Wops_run rfl rfl (Wops_run rfl rfl ?_)))))
    refine Wops_go rfl (Wops_run rfl rfl (Wops_go rfl (Wops_call rfl C42nil ?_)))
    rintro _ _ ⟨rfl, rfl⟩
    refine Wops_go rfl (Wops_run rfl rfl (Wops_run rfl rfl (Wops_run rfl rfl (K_fin [(2, _)] rfl (?_)))))
    exact K_ret (Told.mk _ rfl rfl)
theorem cells81 : Try.prog.cellsOf 81 = 4 := by kernel_rfl
end Go.Dx.SYtfhdeagbgdnkaaa
