/- TokenAll: the walk. -/
import Derived.Test.YtpbibdlmiomhbaaTk10
namespace Go.Dx.SYtpbibdlmiomhbaa
open Go.Proofs
set_option linter.unusedVariables false
set_option linter.unusedSimpArgs false

/-- Copy -/
theorem C47 {h : Heap} {p : Nat} {es : List E} {S : Nat → Prop} (q : Kc h p es S) : Fn Try.prog 47 [ptr p] h fun v h' => ∃ p' S', v = ptr p' ∧ Kc h' p' es S' ∧ Ext0 h h' ∧ ∀ i, S' i → h.next ≤ i := by
  obtain ⟨a, n, c, g, k, hpa, hS⟩ := id q
  refine fnK F47.fok rfl ?_
  refine K_reg (Wops_run rfl rfl (K_fin [(0, _)] rfl (?_)))
  refine K_ss (K_reg (Wops_run rfl rfl (Wops_run rfl rfl (K_fin [(0, _), (4, _)] rfl (?_)))))
  refine K_scond rfl (fun hc => by cases hc) (fun _ => ?_)
  refine K_sskip (K_reg (Wops_run rfl rfl (Wops_run rfl rfl (Wops_run rfl rfl (Wops_ld rfl g (by rfl) (Wops_call rfl (C68 k) ?_))))))
  rintro _ h1 ⟨a1, c1, rfl, k1, x1, b1⟩
  refine Wops_run rfl rfl (Wops_box rfl rfl fun h2 n2 x2 g2 => ?_)
  refine Wops_run rfl rfl (K_fin [(2, _)] rfl (?_))
  have z1 := x1.next
  refine K_ret (Told.mk _ rfl ⟨h1.next, fun i => i = h1.next ∨ Blk a1 i, rfl, ⟨a1, n, c1, g2, k1.ext x2, fun r => ?_, fun i => Iff.rfl⟩, x1.trans x2, fun i r => ?_⟩)
  · have := k1.ow.lt r; omega
  · rcases r with rfl | r
    · exact z1
    · exact b1 i r

theorem C38nil {h : Heap} {t : Int} {rq : List Value} : Fn Try.prog 38 [.pointer none, .int .u64 t, .agg ⟨rq⟩] h fun v h' => v = .int .i64 1 ∧ Ext0 h h' := by
  refine fnK F38.fok rfl ?_
  refine K_reg (Wops_box rfl rfl fun h1 n1 x1 g1 => Wops_run rfl rfl (K_fin [(0, _), (1, _), (5, _)] rfl (?_)))
  refine K_sblock ?_
  refine K_reg (Wops_run rfl rfl (Wops_run rfl rfl (Wops_run rfl rfl (K_fin [(0, _), (1, _), (5, _), (8, _)] rfl (?_)))))
  refine K_cond rfl (fun _ => ?_) (fun hc => by cases hc)
  refine K_reg (Wops_run rfl rfl (K_fin [(6, _)] rfl (?_)))
  exact K_ret (Told.mk _ rfl ⟨rfl, x1⟩)
theorem C39nil {h : Heap} {t : Int} {rq : List Value} : Fn Try.prog 39 [.pointer none, .int .u64 t, .agg ⟨rq⟩] h fun v h' => v = askV false false rp0 1 ∧ Ext0 h h' := by
  refine fnK F39.fok rfl ?_
  refine K_reg (Wops_box rfl rfl fun h1 n1 x1 g1 => Wops_run rfl rfl (Wops_run rfl rfl (Wops_new fun h2 n2 x2 g2 => Wops_run rfl rfl (K_fin [(0, _), (1, _), (5, _), (8, _)] rfl (?_)))))
  refine K_ss (K_reg (Wops_run rfl rfl (Wops_run rfl rfl (K_fin [(0, _), (1, _), (5, _), (8, _), (12, _)] rfl (?_)))))
  refine K_scond rfl (fun _ => ?_) (fun hc => by cases hc)
  refine K_ss (K_reg (Wops_run rfl rfl (Wops_run rfl rfl (Wops_run rfl rfl (Wops_st (l := rp0) rfl rfl rfl rfl g2 (by simp) rfl fun h3 n3 x3 g3 => ?_)))))
  refine Wops_run rfl rfl (K_fin [(6, _), (7, _), (8, _), (9, _)] rfl (?_))
  refine K_sret (Told.mk _ (resL_cons rfl (resL_cons rfl (resL_cons (res_c (l := rp0) rfl g3 (by rw [putL_length]; decide) rfl) (resL_cons rfl rfl)))) ⟨rfl, (x1.trans x2).then x3 fun i r => .inr (by have := x1.next; omega)⟩)
theorem C40nil {h : Heap} {t : Int} {rp : List Value} : Fn Try.prog 40 [.pointer none, .int .u64 t, .agg ⟨rp⟩] h fun v h' => v = .int .i64 0 ∧ Ext0 h h' := by
  refine fnK F40.fok rfl ?_
  refine K_reg (Wops_box rfl rfl fun h1 n1 x1 g1 => Wops_run rfl rfl (K_fin [(0, _), (1, _), (5, _)] rfl (?_)))
  refine K_ss (K_reg (Wops_run rfl rfl (Wops_run rfl rfl (K_fin [(0, _), (1, _), (5, _), (9, _)] rfl (?_)))))
  refine K_scond rfl (fun _ => ?_) (fun hc => by cases hc)
  refine K_ss (K_reg (Wops_run rfl rfl (K_fin [(6, _)] rfl (?_))))
  exact K_sret (Told.mk _ rfl ⟨rfl, x1⟩)
theorem C42nil {h : Heap} : Fn Try.prog 42 [.pointer none] h fun v h' => v = .slice none 0 0 ∧ h = h' := by
  refine fnK F42.fok rfl ?_
  refine K_reg (Wops_run rfl rfl (K_fin [(0, _)] rfl (?_)))
  refine K_ss (K_reg (Wops_run rfl rfl (Wops_run rfl rfl (K_fin [(0, _), (7, _)] rfl (?_)))))
  refine K_scond rfl (fun _ => ?_) (fun hc => by cases hc)
  refine K_ss (K_reg (Wops_run rfl rfl (K_fin [(2, _)] rfl (?_))))
  exact K_sret (Told.mk _ rfl ⟨rfl, rfl⟩)
theorem C47nil {h : Heap} : Fn Try.prog 47 [.pointer none] h fun v h' => v = .pointer none ∧ h = h' := by
  refine fnK F47.fok rfl ?_
  refine K_reg (Wops_run rfl rfl (K_fin [(0, _)] rfl (?_)))
  refine K_ss (K_reg (Wops_run rfl rfl (Wops_run rfl rfl (K_fin [(0, _), (4, _)] rfl (?_)))))
  refine K_scond rfl (fun _ => ?_) (fun hc => by cases hc)
  refine K_ss (K_reg (Wops_run rfl rfl (K_fin [(2, _)] rfl (?_))))
  exact K_sret (Told.mk _ rfl ⟨rfl, rfl⟩)

/-- What TokenAll's entries are like. -/
structure Fam (B : Nat) (x : E) : Prop where
  rq : ∃ k d, x.rq = rqK k d
  rp : ∃ w, x.rp = rpW w ∧ (x.dn = false → w = 0)
  tk : x.tk ≠ 0
  tm : 0 ≤ x.tm ∧ x.tm ≤ B
theorem Fam.mono {B B' : Nat} {x : E} (f : Fam B x) (h : B ≤ B') : Fam B' x := ⟨f.rq, f.rp, f.tk, f.tm.1, by have := f.tm.2; omega⟩
theorem begE_mem {es es1 : List E} (h : begE es = some es1) : ∀ x ∈ es1, x ∈ es := by
  unfold begE at h
  split at h
  · cases h; exact fun x hx => hx
  · split at h
    · cases h
    · cases h; exact fun x hx => List.mem_of_mem_eraseIdx hx

/-- Both caches. -/
structure Two (h0 h : Heap) (p p2 : Nat) (es : List E) (S S2 : Nat → Prop) (B : Nat) : Prop where
  x : Ext0 h0 h
  qa : Kc h p es S
  qb : Kd h p2 es S2
  d : Dis S S2
  na : ∀ i, S i → h0.next ≤ i
  nb : ∀ i, S2 i → h0.next ≤ i
  f : ∀ x ∈ es, Fam B x
theorem Two.ext0 {h0 h h' : Heap} {p p2 : Nat} {es : List E} {S S2 : Nat → Prop} {B : Nat} (t : Two h0 h p p2 es S S2 B) (x : Ext0 h h') : Two h0 h' p p2 es S S2 B :=
  ⟨t.x.trans x, t.qa.ext0 x, t.qb.ext0 x, t.d, t.na, t.nb, t.f⟩
/-- The first has turned, then the second. -/
theorem Two.step {h0 h h1 h2 h3 : Heap} {p p2 : Nat} {es es' : List E} {S S2 S' S2' : Nat → Prop} {B : Nat} (t : Two h0 h p p2 es S S2 B) (ta : Turn h h1 S S') (x : Ext0 h1 h2) (tb : Turn h2 h3 S2 S2') (qa : Kc h1 p es' S') (qb : Kd h3 p2 es' S2') (hf : ∀ x ∈ es', Fam (B + 1) x) : Two h0 h3 p p2 es' S' S2' (B + 1) := by
  have na := ta.new t.x t.na
  have d1 : Dis S' S2 := (Dis.turn t.d.symm (fun i r => t.qb.lt r) ta).symm
  have x02 : Ext0 h0 h2 := (ta.ext0 t.x t.na).trans x
  have qa2 := qa.ext0 x
  exact ⟨tb.ext0 x02 t.nb, qa2.ext tb.ext (fun i r e => d1 i r e), qb, Dis.turn d1 (fun i r => qa2.lt r) tb, na, tb.new x02 t.nb, hf⟩

abbrev opv (k t n : Int) : List Value := [.int .i64 k, .int .u64 t, .int .u8 n]
/-- Operations that came in. -/
def InOps (l : List Value) (n : Nat) : Prop := ∀ i, i < n → ∃ k t m : Int, -9223372036854775808 ≤ k ∧ k ≤ 9223372036854775807 ∧ 0 ≤ m ∧ m ≤ 255 ∧ (l.drop (i * 3)).take 3 = opv k t m

def kd (x : E) : Int × Int := (match x.r0 with | .int _ k => k | _ => 0, match x.r2 with | .int _ d => d | _ => 0)
theorem kd_of {x : E} {k d : Int} (h : x.rq = rqK k d) : kd x = (k, d) := by
  simp only [E.rq, rqK, rqL, List.cons.injEq] at h
  obtain ⟨h0, _, h2, _⟩ := h
  unfold kd; rw [h0, h2]

set_option maxHeartbeats 8000000 in
theorem C14 {h : Heap} {a0 : Option Addr} {n0 c0 : Nat} {l0 : List Value} (s0 : SlA h 3 a0 n0 c0 l0) (hlt0 : ∀ i, Blk a0 i → i < h.next) (hin : InOps l0 n0) : Fn Try.prog 14 [.slice a0 n0 c0] h fun v _ => v = .bool true := by
  refine fnK F14.fok rfl ?_
  refine K_reg (Wops_run rfl rfl (K_fin [(0, _)] rfl (?_)))
  refine K_ss (K_reg (Wops_call rfl C36 ?_))
  rintro _ _ ⟨rfl, rfl⟩
  refine Wops_run rfl rfl (K_fin [(0, _), (23, _)] rfl (?_))
  refine K_scond rfl (fun hc => by cases hc) (fun _ => ?_)
  refine K_sskip (K_ss (K_reg (Wops_run rfl rfl (Wops_run rfl rfl (Wops_run rfl rfl (K_fin [(0, _), (26, _)] rfl (?_)))))))
  refine K_scond rfl (fun hc => ?_) (fun hc => ?_)
  · refine K_ss (K_reg (Wops_run rfl rfl (K_fin [(2, _)] rfl (?_))))
    exact K_sret (Told.mk _ rfl rfl)
  have hn50 : n0 ≤ 50 := by have := of_decide_eq_false hc; omega
  refine K_sskip (K_reg (Wops_call rfl C37 ?_))
  rintro _ h1 ⟨p, rfl, qa, xa, la⟩
  refine Wops_run rfl rfl (Wops_box rfl rfl fun h2 n2 x2 g2 => ?_)
  have hpa := qa.lt (i := p) rfl
  have t0 : Two h h2 p h1.next [] (· = p) (· = h1.next) 0 := ⟨xa.trans x2, qa.ext0 x2, ⟨none, 0, 0, g2, OwS.none, rfl, by omega, Blk.none, fun i => ⟨.inl, fun q => q.elim id fun r => absurd r Blk.none⟩⟩, fun i r t => by omega, fun i r => by omega, fun i r => by have := xa.next; omega, fun x hx => by cases hx⟩
  generalize h1.next = p2 at *
  refine Wops_run rfl rfl (Wops_run rfl rfl (K_fin [(0, _), (3, _), (4, _)] rfl (?_)))
  refine K_ss (K_reg (Wops_run rfl rfl (K_fin [(0, _), (3, _), (4, _), (5, _)] rfl (?_))))
  refine K_sblock ?_
  refine K_loop (fun k e h' => ∃ (i p : Nat) (es : List E) (S S2 : Nat → Prop), e = [(0, .slice a0 n0 c0), (3, ptr p), (4, ptr p2), (5, .int .i64 i)] ∧ i ≤ n0 ∧ k = n0 - i ∧ Two h h' p p2 es S S2 i) ?_ (k := n0) ⟨0, p, [], _, _, rfl, by omega, rfl, t0⟩
  clear t0 g2 qa hpa la xa x2 n2
  rintro k e h' ⟨i, p, es, S, S2, rfl, hi, rfl, T⟩
  refine K_ss (K_reg (Wops_run rfl rfl (Wops_run rfl rfl (Wops_run rfl rfl (Wops_run rfl rfl (K_fin [(0, _), (3, _), (4, _), (5, _), (33, _)] rfl (?_)))))))
  refine K_scond rfl (fun hc => ?_) (fun hc => ?_)
  · have hlt : i < n0 := by have := of_decide_eq_true hc; omega
    obtain ⟨kk, t, nn, hk1, hk2, hn1, hn2, hrow⟩ := hin i hlt
    have hnn : 0 ≤ nn ∧ nn ≤ 255 := ⟨hn1, hn2⟩
    refine K_sskip (K_sblock ?_)
    refine K_reg (Wops_run rfl rfl (Wops_run rfl rfl (Wops_iaS rfl rfl (s0.ext T.x) ⟨by omega, by omega⟩ fun id off vs ez ro hid v1 v2 v3 => ?_)))
    have hvw : (vs.drop (off + (i : Int).toNat * 3)).take 3 = opv kk t nn := by
      rw [Int.toNat_natCast, ← hrow]
      apply List.ext_getElem?
      intro m
      by_cases hm : m < 3
      · rw [List.getElem?_take_of_lt hm, List.getElem?_take_of_lt hm, List.getElem?_drop, List.getElem?_drop, Nat.add_assoc, v3 _ (by omega)]
      · rw [List.getElem?_eq_none (by simp; omega), List.getElem?_eq_none (by simp; omega)]
    refine Wops_ldA (l := opv kk t nn) rfl v1 (by rw [Int.toNat_natCast]; omega) hvw ?_
    refine Wops_new fun h3 n3 x3 g3 => Wops_st (l := opv kk t nn) rfl rfl rfl rfl g3 (by simp) rfl fun h4 n4 x4 g4 => ?_
    have z3 := x3.next
    have x34 : Ext0 h' h4 := x3.then x4 fun j r => .inr (by omega)
    have T4 := T.ext0 x34
    have hpo : ∀ j, S j ∨ S2 j → j ≠ h'.next := fun j r e => by rcases r with r | r; · { have := T.qa.lt r; omega }; · { have := T.qb.lt r; omega }
    have hpo0 : h.next ≤ h'.next := T.x.next
    have g6 : h4.get h'.next = some (.cells (opv kk t nn) 0 false) := g4
    have hpl : h'.next < h4.next := by omega
    generalize h'.next = po at *
    refine K_fin [(0, _), (3, _), (4, _), (5, _), (6, _)] rfl (?_)
    obtain ⟨K, hK, hKe⟩ : ∃ K : Nat, K < 10 ∧ (kk.tmod 10 + 10).tmod 10 = K := by
      have r1 := Int.lt_tmod_of_pos kk (show (0 : Int) < 10 by omega)
      have r3 := Int.tmod_nonneg 10 (show (0 : Int) ≤ kk.tmod 10 + 10 by omega)
      have r4 := Int.tmod_lt_of_pos (kk.tmod 10 + 10) (show (0 : Int) < 10 by omega)
      exact ⟨((kk.tmod 10 + 10).tmod 10).toNat, by omega, by omega⟩
    have hkr : -10 < kk.tmod 10 ∧ kk.tmod 10 < 10 := ⟨Int.lt_tmod_of_pos kk (show (0 : Int) < 10 by omega), Int.tmod_lt_of_pos kk (show (0 : Int) < 10 by omega)⟩
    refine K_ss (K_reg (Wops_run rfl rfl (Wops_ld rfl g6 (by rfl) (Wops_rem rfl rfl (by decide) (Wops_as (w := .int .i64 (kk.tmod 10 + 10)) rfl rfl (by rw [w64 (by omega)]) (Wops_rem rfl rfl (by decide) (Wops_as (w := .int .i64 (K : Int)) rfl rfl (by rw [hKe]) (K_fin [(0, _), (3, _), (4, _), (5, _), (6, _), (7, _)] rfl (?_)))))))))
    have hz4 : ∀ x ∈ es, x.tk ≠ 0 := fun x hx => (T.f x hx).tk
    have htm4 : ∀ x ∈ es, 0 ≤ x.tm ∧ x.tm ≤ 1000000 := fun x hx => by have := (T.f x hx).tm; omega
    refine K_jblock (fun e h' => ∃ (p : Nat) (es : List E) (S S2 : Nat → Prop) (l : Env), e = [(0, .slice a0 n0 c0), (3, ptr p), (4, ptr p2), (5, .int .i64 i)] ++ l ∧ Two h h' p p2 es S S2 (i + 1)) ?_ ?_
    · refine K_reg (Wops_run rfl rfl ?_)
      by_cases hK3 : K < 3
      · refine Wops_as (w := .bool true) rfl rfl (by rw [decide_eq_true (by omega)]) (Wops_run rfl rfl (K_fin [(0, _), (3, _), (4, _), (5, _), (6, _), (7, _), (56, _)] rfl (?_)))
        refine K_cond rfl (fun _ => ?_) (fun hc => by cases hc)
        refine K_reg (Wops_run rfl rfl (Wops_run rfl rfl (Wops_ld rfl g6 (by rfl) (Wops_run rfl rfl (Wops_ld rfl g6 (by rfl) (Wops_run rfl rfl (Wops_run rfl rfl (Wops_ld rfl g6 (by rfl) (Wops_run rfl rfl (Wops_ld rfl g6 (by rfl) ?_))))))))))
        refine Wops_call rfl (C41 hnn) ?_
        rintro _ h5 ⟨rfl, x5⟩
        have T5 := T4.ext0 x5
        have g65 := x5.some0 g6
        refine Wops_chk rfl rfl g65 (by rfl) (by simp [sameV, sameCell]) (Wops_chk rfl rfl g65 (by rfl) (by simp [sameV, sameCell]) (Wops_chk rfl rfl g65 (by rfl) (by simp [sameV, sameCell]) ?_))
        refine Wops_call rfl (C38 (xs := []) T5.qa rfl SlA.none (by omega) (fun j r => absurd r Blk.none)) ?_
        rintro v h6 ⟨S6, t6, hv⟩
        have g66 := t6.ext.some g65 (fun r => hpo _ (.inl r) rfl)
        refine Wops_chk rfl rfl g66 (by rfl) (by simp [sameV, sameCell]) (Wops_chk rfl rfl g66 (by rfl) (by simp [sameV, sameCell]) ?_)
        refine Wops_call rfl (C41 hnn) ?_
        rintro _ h7 ⟨rfl, x7⟩
        refine Wops_chk rfl rfl (x7.some0 g66) (by rfl) (by simp [sameV, sameCell]) ?_
        have qb7 : Kd h7 p2 es S2 := (T5.qb.ext t6.ext (fun j r e => T5.d j e r)).ext0 x7
        refine Wops_call rfl (C43 (t := t) (r0 := .int .i64 (1 + nn % 3)) (r1 := .int .u64 0) (r2 := .int .u64 (nn % 2)) (r3 := .string ByteArray.empty) (r5 := .slice none 0 0) (r6 := .int .u64 0) (r7 := .int .u64 0) qb7 rfl hz4) ?_
        rintro v2 h8 ⟨S8, t8, hv2⟩
        obtain ⟨err, es', rfl, rfl, qa', qb', hf'⟩ : ∃ (err : Int) (es' : List E), v = .int .i64 err ∧ v2 = .int .i64 err ∧ Kc h6 p es' S6 ∧ Kd h8 p2 es' S8 ∧ ∀ x ∈ es', Fam (i + 1) x := by
          have hf1 : ∀ x ∈ es, Fam (i + 1) x := fun x hx => (T.f x hx).mono (by omega)
          rcases hv with ⟨e, rfl, qa⟩ | ⟨e, e2, rfl, qa⟩ | ⟨e, e2, e3, rfl, qa⟩ | ⟨e, e2, es1, a', c', hx, e3, rfl, qa, _, _, f⟩ <;>
            rcases hv2 with ⟨u, rfl, qb⟩ | ⟨u, u2, rfl, qb⟩ | ⟨u, u2, u3, rfl, qb⟩ | ⟨u, u2, es2, u3, rfl, qb⟩
          all_goals first
            | exact absurd e u
            | exact absurd u e
            | (rw [e2] at u2; cases u2; done)
            | (rw [e3] at u3; cases u3; done)
            | exact ⟨_, es, rfl, rfl, qa, qb, hf1⟩
            | skip
          obtain ⟨rfl, rfl⟩ := f rfl
          rw [e3] at u3
          cases u3
          refine ⟨_, _, rfl, rfl, qa, qb, fun x hx => ?_⟩
          rcases List.mem_append.1 hx with hx | hx
          · exact hf1 x (begE_mem e3 x hx)
          · rw [List.mem_singleton] at hx; subst hx
            exact ⟨⟨_, _, rfl⟩, ⟨0, rfl, fun _ => rfl⟩, e, by show (0 : Int) ≤ 1; omega, by show (1 : Int) ≤ _; omega⟩
        refine Wops_neq (v := false) rfl rfl (by simp) (K_fin [(0, _), (3, _), (4, _), (5, _), (73, _)] rfl (?_))
        refine K_cond rfl (fun hc => by cases hc) (fun _ => ?_)
        exact K_skip ⟨p, es', S6, S8, [(73, .bool false)], rfl, T5.step t6 x7 t8 qa' qb' hf'⟩
      refine Wops_as (w := .bool false) rfl rfl (by rw [decide_eq_false (by omega)]) (Wops_run rfl rfl (K_fin [(0, _), (3, _), (4, _), (5, _), (6, _), (7, _), (56, _)] rfl (?_)))
      refine K_cond rfl (fun hc => by cases hc) (fun _ => ?_)
      refine K_reg (Wops_run rfl rfl ?_)
      by_cases hK6 : K < 6
      · refine Wops_as (w := .bool true) rfl rfl (by rw [decide_eq_true (by omega)]) (Wops_run rfl rfl (K_fin [(0, _), (3, _), (4, _), (5, _), (6, _), (7, _), (74, _)] rfl (?_)))
        refine K_cond rfl (fun _ => ?_) (fun hc => by cases hc)
        refine K_reg (Wops_run rfl rfl (Wops_run rfl rfl (Wops_ld rfl g6 (by rfl) (Wops_run rfl rfl (Wops_ld rfl g6 (by rfl) (Wops_new fun h5 n5 x5 g5 => ?_))))))
        refine Wops_call rfl (C41 hnn) ?_
        rintro _ h6 ⟨rfl, x6⟩
        have z5 := x5.next
        have z6 := x6.next
        have T6 := (T4.ext0 x5).ext0 x6
        have S4lt : ∀ j, S j ∨ S2 j → j < h4.next := fun j r => by rcases r with r | r; · { exact T4.qa.lt r }; · { exact T4.qb.lt r }
        have g66 := x6.some0 (x5.some0 g6)
        refine Wops_chk rfl rfl g66 (by rfl) (by simp [sameV, sameCell]) ?_
        refine Wops_call rfl (C39 (rq := rqK (1 + nn % 3) (nn % 2)) (b := fun x => (kd x).1 == 1 + nn % 3 && (kd x).2 == nn % 2) T6.qa rfl (fun x hx _ h1 x1 => ?_) (fun x hx _ => ?_) htm4) ?_
        · obtain ⟨k1, d1, e⟩ := (T.f x hx).rq
          rw [e, kd_of e]; exact C64k
        · obtain ⟨w, e, _⟩ := (T.f x hx).rp
          simp only [E.rp, List.cons.injEq] at e
          exact ⟨none, 0, 0, [], e.2.2.2.1, SlA.none, by omega⟩
        rintro v h7 ⟨t7, hv⟩
        obtain ⟨kb, db, w, er, es', rfl, qa7, hcase⟩ : ∃ (kb db : Bool) (w er : Int) (es' : List E), v = askV kb db (rpW w) er ∧ Kc h7 p es' S ∧
            ((ixG (tkf t) es = -1 ∧ kb = false ∧ db = false ∧ w = 0 ∧ er = 0 ∧ es' = es) ∨ ∃ (j : Nat) (hj : j < es.length), ixG (tkf t) es = j ∧
              ((((kd es[j]).1 == 1 + nn % 3 && (kd es[j]).2 == nn % 2) = false ∧ kb = true ∧ db = false ∧ w = 0 ∧ er = 16 ∧ es' = es) ∨
               (((kd es[j]).1 == 1 + nn % 3 && (kd es[j]).2 == nn % 2) = true ∧ es[j].dn = false ∧ kb = true ∧ db = false ∧ w = 0 ∧ er = 0 ∧ es' = es.set j { es[j] with tm := es[j].tm + 1 }) ∨
               (((kd es[j]).1 == 1 + nn % 3 && (kd es[j]).2 == nn % 2) = true ∧ es[j].dn = true ∧ kb = true ∧ db = true ∧ es[j].rp = rpW w ∧ er = 0 ∧ es' = es))) := by
          rcases hv with ⟨e, rfl, q⟩ | ⟨_, j, hj, e, _, hh⟩
          · refine ⟨false, false, 0, 0, es, rfl, q, .inl ⟨?_, rfl, rfl, rfl, rfl, rfl⟩⟩
            rcases ixG_cases (tkf t) es with ⟨e2, _⟩ | ⟨j, hj, _, e2, _⟩
            · exact e2
            · have e3 : es[j].tk = t := by simpa using e2
              rcases e with e | e
              · exact absurd (e3.trans e) (hz4 _ (List.getElem_mem _))
              · exact absurd e3 (e _ (List.getElem_mem _))
          · rcases hh with ⟨e1, rfl, q⟩ | ⟨e1, e2, rfl, q⟩ | ⟨e1, e2, q, a, n, c, xs, a', c', hp3, _, rfl, _, f⟩
            · exact ⟨true, false, 0, 16, es, rfl, q, .inr ⟨j, hj, e, .inl ⟨e1, rfl, rfl, rfl, rfl, rfl⟩⟩⟩
            · exact ⟨true, false, 0, 0, _, rfl, q, .inr ⟨j, hj, e, .inr (.inl ⟨e1, e2, rfl, rfl, rfl, rfl, rfl⟩)⟩⟩
            · obtain ⟨w, ew, _⟩ := (T.f es[j] (List.getElem_mem _)).rp
              have ew' := ew
              simp only [E.rp, List.cons.injEq] at ew'
              obtain ⟨w0, w1, w2, w3, _⟩ := ew'
              rw [w3] at hp3
              cases hp3
              obtain ⟨rfl, rfl⟩ := f rfl
              exact ⟨true, true, w, 0, es, by rw [w0, w1, w2], q, .inr ⟨j, hj, e, .inr (.inr ⟨e1, e2, rfl, rfl, ew, rfl, rfl⟩)⟩⟩
        have b10 : h7.get h4.next = some (.cells rp0 0 false) := t7.ext.some (x6.some0 g5) (fun r => by have := S4lt _ (.inl r); omega)
        have g67 := t7.ext.some g66 (fun r => hpo _ (.inl r) rfl)
        refine Wops_run rfl rfl (Wops_run rfl rfl (Wops_run rfl rfl (Wops_run rfl rfl (Wops_run rfl rfl (Wops_run rfl rfl (Wops_run rfl rfl (Wops_st (l := rpW w) rfl rfl rfl rfl b10 (by simp) rfl fun h8 n8 x8 g8 => ?_)))))))
        refine Wops_run rfl rfl (K_fin [(0, _), (3, _), (4, _), (5, _), (6, _), (8, _), (9, _), (10, _), (11, _)] rfl (?_))
        have qb7 : Kd h7 p2 es S2 := T6.qb.ext t7.ext (fun j r e => T6.d j e r)
        have qb8 : Kd h8 p2 es S2 := qb7.ext x8 (fun j r e => by have := S4lt j (.inr r); omega)
        have qa8 : Kc h8 p es' S := qa7.ext x8 (fun j r e => by have := S4lt j (.inl r); omega)
        have g68 := x8.some g67 (by omega)
        have z7 := t7.ext.next
        have z8 := x8.next
        refine K_reg (Wops_run rfl rfl (Wops_run rfl rfl (Wops_ld rfl g68 (by rfl) (Wops_run rfl rfl (Wops_ld rfl g68 (by rfl) (Wops_new fun h9 n9 x9 g9 => ?_))))))
        refine Wops_call rfl (C41 hnn) ?_
        rintro _ h10 ⟨rfl, x10⟩
        have g610 := x10.some0 (x9.some0 g68)
        refine Wops_chk rfl rfl g610 (by rfl) (by simp [sameV, sameCell]) ?_
        have X810 : Ext0 h8 h10 := x9.trans x10
        have z9 := x9.next
        have z10 := x10.next
        refine Wops_call rfl (C44 (rq := rqK (1 + nn % 3) (nn % 2)) (b := fun x => (kd x).1 == 1 + nn % 3 && (kd x).2 == nn % 2) (qb8.ext0 X810) hz4 rfl (fun x hx h1 x1 => ?_) htm4) ?_
        · obtain ⟨k1, d1, e⟩ := (T.f x hx).rq
          rw [e, kd_of e]; exact C67
        rintro v2 h11 ⟨S11, t11, hv2⟩
        obtain ⟨rfl, qb11, hf'⟩ : v2 = askV kb db (rpW w) er ∧ Kd h11 p2 es' S11 ∧ ∀ x ∈ es', Fam (i + 1) x := by
          have hf1 : ∀ x ∈ es, Fam (i + 1) x := fun x hx => (T.f x hx).mono (by omega)
          rcases hcase with ⟨e, rfl, rfl, rfl, rfl, rfl⟩ | ⟨j, hj, e, hh⟩
          · rcases hv2 with ⟨_, rfl, q⟩ | ⟨j, hj, u, _⟩
            · exact ⟨rfl, q, hf1⟩
            · omega
          · rcases hv2 with ⟨u, _⟩ | ⟨j', hj', u, hh2⟩
            · omega
            · obtain rfl : j' = j := by omega
              have hfj := T.f es[j'] (List.getElem_mem _)
              rcases hh with ⟨e1, rfl, rfl, rfl, rfl, rfl⟩ | ⟨e1, e2, rfl, rfl, rfl, rfl, rfl⟩ | ⟨e1, e2, rfl, rfl, e3, rfl, rfl⟩ <;>
                rcases hh2 with ⟨u1, rfl, q⟩ | ⟨u1, u2, rfl, q⟩ | ⟨u1, u2, rfl, q⟩
              · exact ⟨rfl, q, hf1⟩
              · rw [e1] at u1; cases u1
              · rw [e1] at u1; cases u1
              · rw [e1] at u1; cases u1
              · obtain ⟨w, ew, e0⟩ := hfj.rp
                obtain rfl := e0 e2
                refine ⟨by rw [ew], q, fun x hx => ?_⟩
                rcases List.mem_or_eq_of_mem_set hx with hx | rfl
                · exact hf1 x hx
                · exact ⟨hfj.rq, ⟨0, ew, fun _ => rfl⟩, hfj.tk, by have := hfj.tm; show 0 ≤ es[j'].tm + 1; omega, by have := hfj.tm; show es[j'].tm + 1 ≤ _; omega⟩
              · rw [e2] at u2; cases u2
              · rw [e1] at u1; cases u1
              · rw [e2] at u2; cases u2
              · exact ⟨by rw [e3], q, hf1⟩
        have S2lt : ∀ j, S2 j → j < h4.next := fun j r => S4lt j (.inr r)
        have b14 : h11.get h8.next = some (.cells rp0 0 false) := t11.ext.some (x10.some0 g9) (fun r => by have := S2lt _ r; omega)
        have b10' : h11.get h4.next = some (.cells (rpW w) 0 false) := t11.ext.some (X810.some0 g8) (fun r => by have := S2lt _ r; omega)
        refine Wops_run rfl rfl (Wops_run rfl rfl (Wops_run rfl rfl (Wops_run rfl rfl (Wops_run rfl rfl (Wops_run rfl rfl (Wops_run rfl rfl (Wops_st (l := rpW w) rfl rfl rfl rfl b14 (by simp) rfl fun h12 n12 x12 g12 => ?_)))))))
        refine Wops_run rfl rfl (K_fin [(0, _), (3, _), (4, _), (5, _), (8, _), (9, _), (10, _), (11, _), (12, _), (13, _), (14, _), (15, _)] rfl (?_))
        have b1012 : h12.get h4.next = some (.cells (rpW w) 0 false) := x12.some b10' (by omega)
        have b1412 : h12.get h8.next = some (.cells (rpW w) 0 false) := g12
        refine K_reg (Wops_run rfl rfl (Wops_run rfl rfl (Wops_as (w := .bool false) rfl rfl (by cases kb <;> rfl) (Wops_run rfl rfl (Wops_go rfl (Wops_run rfl rfl (Wops_go rfl (Wops_run rfl rfl (Wops_go rfl (Wops_as (w := .bool false) rfl rfl (by cases db <;> rfl) (Wops_run rfl rfl (Wops_run rfl rfl ?_))))))))))))
        refine Wops_go rfl (Wops_run rfl rfl (Wops_go rfl (Wops_run rfl rfl (Wops_go rfl (Wops_neq (v := false) rfl rfl (by simp) (Wops_run rfl rfl (Wops_run rfl rfl ?_)))))))
        refine Wops_go rfl (Wops_ldA (l := rpW w) rfl b1012 (by simp) rfl (Wops_go rfl (Wops_ldA (l := rpW w) rfl b1412 (by simp) rfl (Wops_go rfl (Wops_call rfl C45 ?_)))))
        rintro _ _ ⟨rfl, rfl⟩
        refine Wops_go rfl (Wops_run rfl rfl (Wops_run rfl rfl (K_fin [(0, _), (3, _), (4, _), (5, _), (119, _)] rfl (?_))))
        refine K_cond rfl (fun hc => by cases hc) (fun _ => ?_)
        have qa10 : Kc h10 p es' S := qa8.ext0 X810
        have S11n : ∀ j, S11 j → S2 j ∨ h10.next ≤ j := t11.own
        have dS11 : Dis S S11 := fun j r e => by rcases S11n j e with e | e; · { exact T.d j r e }; · { have := qa10.lt r; omega }
        have x06 : Ext0 h h6 := T6.x
        have x07 : Ext0 h h7 := t7.ext0 x06 T6.na
        have x08 : Ext0 h h8 := x07.then x8 fun j r => .inr (by omega)
        have x010 : Ext0 h h10 := x08.trans X810
        have x011 : Ext0 h h11 := t11.ext0 x010 T6.nb
        have nS11 : ∀ j, S11 j → h.next ≤ j := t11.new x010 T6.nb
        exact K_skip ⟨p, es', S, S11, [(119, .bool false)], rfl, ⟨x011.then x12 fun j r => .inr (by omega), (qa10.ext t11.ext (fun j r e => T.d j r e)).ext x12 (fun j r e => by have := S4lt j (.inl r); omega), qb11.ext x12 (fun j r e => by rcases S11n j r with r | r; · { have := S2lt j r; omega }; · { omega }), dS11, T.na, nS11, hf'⟩⟩
      refine Wops_as (w := .bool false) rfl rfl (by rw [decide_eq_false (by omega)]) (Wops_run rfl rfl (K_fin [(0, _), (3, _), (4, _), (5, _), (6, _), (7, _), (74, _)] rfl (?_)))
      refine K_cond rfl (fun hc => by cases hc) (fun _ => ?_)
      refine K_reg (Wops_run rfl rfl ?_)
      by_cases hK9 : K < 9
      · refine Wops_as (w := .bool true) rfl rfl (by rw [decide_eq_true (by omega)]) (Wops_run rfl rfl (K_fin [(0, _), (3, _), (4, _), (5, _), (6, _), (120, _)] rfl (?_)))
        refine K_cond rfl (fun _ => ?_) (fun hc => by cases hc)
        refine K_reg (Wops_run rfl rfl (Wops_run rfl rfl (Wops_ld rfl g6 (by rfl) (Wops_run rfl rfl (Wops_ld rfl g6 (by rfl) (Wops_as (w := .int .u64 nn) rfl rfl (by rw [wu64 (by omega)]) (Wops_run rfl rfl ?_)))))))
        refine Wops_run rfl rfl (Wops_run rfl rfl (Wops_ld rfl g6 (by rfl) (Wops_run rfl rfl (Wops_ld rfl g6 (by rfl) (Wops_as (w := .int .u64 nn) rfl rfl (by rw [wu64 (by omega)]) (Wops_run rfl rfl ?_))))))
        refine Wops_call rfl (C40 (p0 := .int .u64 0) (p1 := .int .i64 0) (p2 := .int .u64 nn) (a := none) (n := 0) (c := 0) (xs := []) T4.qa rfl SlA.none (by omega)) ?_
        rintro v h5 ⟨t5, hv⟩
        have g65 := t5.ext.some g6 (fun r => hpo _ (.inl r) rfl)
        refine Wops_chk rfl rfl g65 (by rfl) (by simp [sameV, sameCell]) (Wops_chk rfl rfl g65 (by rfl) (by simp [sameV, sameCell]) ?_)
        have qb5 : Kd h5 p2 es S2 := T4.qb.ext t5.ext (fun j r e => T4.d j e r)
        refine Wops_call rfl (C46 (t := t) (w := nn) qb5 hz4) ?_
        rintro v2 h6 ⟨S6, t6, hv2⟩
        obtain ⟨err, es', rfl, rfl, qa', qb', hf'⟩ : ∃ (err : Int) (es' : List E), v = .int .i64 err ∧ v2 = .int .i64 err ∧ Kc h5 p es' S ∧ Kd h6 p2 es' S6 ∧ ∀ x ∈ es', Fam (i + 1) x := by
          have hf1 : ∀ x ∈ es, Fam (i + 1) x := fun x hx => (T.f x hx).mono (by omega)
          rcases hv with ⟨e, rfl, qa⟩ | ⟨e, j, hj, e2, e3, hh⟩
          · have hix : ixG (tkf t) es = -1 := by
              rcases ixG_cases (tkf t) es with ⟨e2, _⟩ | ⟨j, hj, _, e2, _⟩
              · exact e2
              · have e3 : es[j].tk = t := by simpa using e2
                rcases e with e | e
                · exact absurd (e3.trans e) (hz4 _ (List.getElem_mem _))
                · exact absurd e3 (e _ (List.getElem_mem _))
            rcases hv2 with ⟨_, rfl, qb⟩ | ⟨j, hj, u, _⟩
            · exact ⟨_, es, rfl, rfl, qa, qb, hf1⟩
            · omega
          · rcases hv2 with ⟨u, _⟩ | ⟨j', hj', u, hh2⟩
            · omega
            · obtain rfl : j' = j := by omega
              have hfj := T.f es[j'] (List.getElem_mem _)
              rcases hh with ⟨e4, rfl, qa⟩ | ⟨e4, rfl, a', c', hx, qa, _, _, f⟩ <;> rcases hh2 with ⟨u4, rfl, qb⟩ | ⟨u4, rfl, qb⟩
              · exact ⟨_, es, rfl, rfl, qa, qb, hf1⟩
              · rw [e4] at u4; cases u4
              · rw [e4] at u4; cases u4
              · obtain ⟨rfl, rfl⟩ := f rfl
                refine ⟨_, _, rfl, rfl, qa, qb, fun x hx => ?_⟩
                rcases List.mem_or_eq_of_mem_set hx with hx | rfl
                · exact hf1 x hx
                · exact ⟨hfj.rq, ⟨nn, rfl, fun q => by cases q⟩, hfj.tk, hfj.tm.1, by have := hfj.tm.2; show es[j'].tm ≤ _; omega⟩
        refine Wops_neq (v := false) rfl rfl (by simp) (K_fin [(0, _), (3, _), (4, _), (5, _), (139, _)] rfl (?_))
        refine K_cond rfl (fun hc => by cases hc) (fun _ => ?_)
        exact K_skip ⟨p, es', S, S6, [(139, .bool false)], rfl, T4.step t5 (Ext.refl _ _) t6 qa' qb' hf'⟩
      refine Wops_as (w := .bool false) rfl rfl (by rw [decide_eq_false (by omega)]) (Wops_run rfl rfl (K_fin [(0, _), (3, _), (4, _), (5, _), (6, _), (120, _)] rfl (?_)))
      refine K_cond rfl (fun hc => by cases hc) (fun _ => ?_)
      refine K_reg (Wops_run rfl rfl (Wops_call rfl (C47 T4.qa) ?_))
      rintro _ h5 ⟨p', S', rfl, qc, x5, nS'⟩
      refine Wops_run rfl rfl (K_fin [(0, _), (3, _), (4, _), (5, _), (6, _), (16, _)] rfl (?_))
      have T5 := T4.ext0 x5
      have z5 := x5.next
      have S4lt : ∀ j, S j ∨ S2 j → j < h4.next := fun j r => by rcases r with r | r; · { exact T4.qa.lt r }; · { exact T4.qb.lt r }
      refine K_reg (Wops_run rfl rfl (Wops_call rfl (C41 (x := 1) (by omega)) ?_))
      rintro _ h6 ⟨rfl, x6⟩
      have T6 := T5.ext0 x6
      refine Wops_call rfl (C38 (xs := []) T6.qa rfl SlA.none (by omega) (fun j r => absurd r Blk.none)) ?_
      rintro v h7 ⟨S7, t7, hv⟩
      obtain ⟨es7, qa7⟩ : ∃ es7, Kc h7 p es7 S7 := by
        rcases hv with ⟨_, _, q⟩ | ⟨_, _, _, q⟩ | ⟨_, _, _, _, q⟩ | ⟨_, _, _, _, _, _, _, _, q, _⟩ <;> exact ⟨_, q⟩
      refine K_fin [(0, _), (3, _), (4, _), (5, _), (6, _), (16, _)] rfl (?_)
      have g65 := x6.some0 (x5.some0 g6)
      have g67 := t7.ext.some g65 (fun r => hpo _ (.inl r) rfl)
      have z6 := x6.next
      refine K_reg (Wops_run rfl rfl (Wops_run rfl rfl (Wops_ld rfl g67 (by rfl) (Wops_run rfl rfl ?_))))
      refine Wops_call rfl (C40 (p0 := .int .u64 0) (p1 := .int .i64 0) (p2 := .int .u64 0) (a := none) (n := 0) (c := 0) (xs := []) qa7 rfl SlA.none (by omega)) ?_
      rintro v2 h8 ⟨t8, _⟩
      refine K_fin [(0, _), (4, _), (5, _), (16, _)] rfl (?_)
      refine K_last (Wops_run rfl rfl (Wops_run rfl rfl (K_finL [(0, _), (3, _), (4, _), (5, _)] rfl (?_))))
      have t78 := t7.trans t8
      have qc6 := qc.ext0 x6
      have qc8 : Kc h8 p' es S' := (qc6.ext t7.ext (fun j r e => by have := nS' j r; have := S4lt j (.inl e); omega)).ext t8.ext (fun j r e => by
        have h1 := nS' j r
        rcases t7.own j e with e | e
        · have := S4lt j (.inl e); omega
        · have := qc6.lt r; omega)
      have qb8 : Kd h8 p2 es S2 := (T6.qb.ext t7.ext (fun j r e => T.d j e r)).ext t8.ext (fun j r e => by
        rcases t7.own j e with e | e
        · exact T.d j e r
        · have := S4lt j (.inr r); omega)
      exact ⟨p', es, S', S2, [], rfl, ⟨t78.ext0 T6.x T.na, qc8, qb8, fun j r e => by have := nS' j r; have := S4lt j (.inr e); omega, fun j r => by have := nS' j r; have := T4.x.next; omega, T.nb, fun x hx => (T.f x hx).mono (by omega)⟩⟩
    · rintro e h9 ⟨p, es, S, S2, l, rfl, T9⟩
      refine K_reg (Wops_run rfl rfl (Wops_call rfl (C42 T9.qa) ?_))
      rintro _ h10 ⟨ao, no, co, rfl, so, hno, x10⟩
      refine Wops_run rfl rfl (Wops_call rfl (C48 (T9.qb.ext0 x10)) ?_)
      rintro _ h11 ⟨bo, mo, do', rfl, so2, hmo, x11⟩
      have hle : no ≤ 4 := by
        obtain ⟨_, _, _, _, k, _⟩ := T9.qa
        rw [hno, k.len]; exact k.le
      refine Wops_call rfl (C34 (so.ext x11) so2 (by omega)) ?_
      rintro _ _ ⟨rfl, rfl⟩
      rw [decide_eq_true rfl]
      refine Wops_run rfl rfl (K_fin [(0, _), (3, _), (4, _), (5, _), (145, _)] rfl (?_))
      refine K_cond rfl (fun hc => by cases hc) (fun _ => ?_)
      refine K_skip ?_
      refine K_last (Wops_run rfl rfl (Wops_run rfl rfl (Wops_run rfl rfl (K_finL [(0, _), (3, _), (4, _), (5, _)] rfl (?_)))))
      exact ⟨n0 - (i + 1), by omega, i + 1, p, es, S, S2, by rw [w64s (by omega)], by omega, rfl, (T9.ext0 x10).ext0 x11⟩
  · refine K_sexit (bx_same ?_)
    refine K_reg (Wops_run rfl rfl (K_fin [(17, _)] rfl (?_)))
    refine K_reg (Wops_run rfl rfl (Wops_call rfl (C41 (x := 0) (by omega)) ?_))
    rintro _ h3 ⟨rfl, x3⟩
    refine Wops_call rfl C39nil ?_
    rintro _ h4 ⟨rfl, x4⟩
    refine Wops_run rfl rfl (Wops_run rfl rfl (Wops_run rfl rfl (Wops_run rfl rfl (Wops_run rfl rfl (Wops_new fun h5 n5 x5 g5 => ?_)))))
    refine Wops_run rfl rfl (Wops_run rfl rfl (Wops_st (l := rp0) rfl rfl rfl rfl g5 (by simp) rfl fun h6 n6 x6 g6 => ?_))
    refine Wops_run rfl rfl (K_fin [(17, _), (18, _), (19, _), (21, _)] rfl (?_))
    refine K_reg ?_
    repeat (first | refine Wops_go rfl ?_ | refine Wops_run rfl rfl ?_)
    refine Wops_call rfl (C41 (x := 0) (by omega)) ?_
    rintro _ h7 ⟨rfl, x7⟩
    refine Wops_go rfl (Wops_call rfl C38nil ?_)
    rintro _ h8 ⟨rfl, x8⟩
    repeat (first | refine Wops_go rfl ?_ | refine Wops_run rfl rfl ?_)
    refine Wops_call rfl C40nil ?_
    rintro _ h9 ⟨rfl, x9⟩
    repeat (first | refine Wops_go rfl ?_ | refine Wops_run rfl rfl ?_)
    refine Wops_call rfl C42nil ?_
    rintro _ _ ⟨rfl, rfl⟩
    repeat (first | refine Wops_go rfl ?_ | refine Wops_run rfl rfl ?_)
    refine Wops_call rfl C47nil ?_
    rintro _ _ ⟨rfl, rfl⟩
    repeat (first | refine Wops_go rfl ?_ | refine Wops_run rfl rfl ?_)
    refine K_fin [(2, .bool true)] rfl (?_)
    exact K_ret (Told.mk _ rfl rfl)
end Go.Dx.SYtpbibdlmiomhbaa
