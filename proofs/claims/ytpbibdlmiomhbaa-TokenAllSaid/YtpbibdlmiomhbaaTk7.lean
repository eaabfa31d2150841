/- TokenOnce: the walk. -/
import Derived.Test.YtpbibdlmiomhbaaTk6
namespace Go.Dx.SYtpbibdlmiomhbaa
open Go.Proofs
set_option linter.unusedVariables false
set_option linter.unusedSimpArgs false

theorem rem_nat {a : Int} (ha : 0 ≤ a) {m : Nat} (hm : 0 < m) : ∃ A : Nat, A < m ∧ a.tmod (m : Int) = A := by
  have h1 := Int.tmod_nonneg (m : Int) ha
  have h2 := Int.tmod_lt_of_pos a (show (0 : Int) < (m : Int) by omega)
  exact ⟨(a.tmod m).toNat, by omega, by omega⟩
theorem wr8 {y : Int} (h : 0 ≤ y ∧ y ≤ 255) : IntKind.wrap .u8 y = y := by simp [IntKind.wrap, IntKind.signed, IntKind.bits]; omega
abbrev sx : ByteArray := { data := #[120] }
abbrev sy : ByteArray := { data := #[121] }
theorem sxx : (sx.toList == sx.toList) = true := by simp
theorem sxy : (sx.toList == sy.toList) = false := by decide +kernel

set_option maxHeartbeats 4000000 in
theorem C11 {h0 : Heap} {t n m : Int} {av : Option Addr} {nv cv : Nat} {xs : List Int} (hn : 0 ≤ n ∧ n ≤ 255) (hm : 0 ≤ m ∧ m ≤ 255) (sv : InS h0 av nv cv (us xs)) :
    Fn Try.prog 11 [.int .u64 t, .int .u8 n, .int .u8 m, .slice av nv cv] h0 fun v _ => v = .bool true := by
  obtain ⟨N, hN, hNe⟩ := rem_nat hn.1 (m := 9) (by omega)
  obtain ⟨M, hM, hMe⟩ := rem_nat hm.1 (m := 9) (by omega)
  have hNe' : n.tmod 9 = N := hNe
  have hMe' : m.tmod 9 = M := hMe
  refine fnK F11.fok rfl ?_
  refine K_reg (Wops_run rfl rfl (K_fin [(0, _), (1, _), (2, _), (3, _)] rfl (?_)))
  refine K_ss (K_reg (Wops_call rfl C36 ?_))
  rintro _ _ ⟨rfl, rfl⟩
  refine Wops_run rfl rfl (K_fin [(0, _), (1, _), (2, _), (3, _), (27, _)] rfl (?_))
  refine K_scond rfl (fun hc => by cases hc) (fun _ => ?_)
  refine K_sskip ?_
  by_cases ht : t = 0
  · refine K_ss (K_reg (Wops_run rfl rfl (Wops_eq (v := true) rfl rfl (by rw [ht]; rfl) (Wops_run rfl rfl (Wops_skip rfl (Wops_skip rfl (Wops_skip rfl (Wops_run rfl rfl (K_fin [(0, _), (1, _), (2, _), (3, _), (34, _)] rfl (?_))))))))))
    refine K_scond rfl (fun _ => ?_) (fun hc => by cases hc)
    refine K_ss (K_reg (Wops_run rfl rfl (K_fin [(8, _)] rfl (?_))))
    exact K_sret (Told.mk _ rfl rfl)
  refine K_ss (K_reg (Wops_run rfl rfl (Wops_eq (v := false) rfl rfl (by simpa using ht) (Wops_run rfl rfl (Wops_go rfl (Wops_run rfl rfl (Wops_go rfl (Wops_run rfl rfl (Wops_go rfl (Wops_run rfl rfl (Wops_run rfl rfl (K_fin [(0, _), (1, _), (2, _), (3, _), (34, _)] rfl (?_)))))))))))))
  refine K_scond rfl (fun hc => ?_) (fun hc => ?_)
  · refine K_ss (K_reg (Wops_run rfl rfl (K_fin [(8, _)] rfl (?_))))
    exact K_sret (Told.mk _ rfl rfl)
  have hnv : nv ≤ 6 := by have := of_decide_eq_false hc; omega
  refine K_sskip (K_reg (Wops_call rfl C37 ?_))
  rintro _ h1 ⟨p, rfl, q1, x1, n1⟩
  refine Wops_run rfl rfl (K_fin [(0, _), (1, _), (2, _), (3, _), (9, _)] rfl (?_))
  refine K_reg (Wops_run rfl rfl (Wops_run rfl rfl (Wops_run rfl rfl (Wops_new fun h2 n2 x2 g2 => Wops_st (l := rqL 4 t 0 sx av nv cv) rfl rfl rfl rfl g2 (by simp) rfl fun h3 n3 x3 g3 => ?_))))
  refine K_fin [(0, _), (1, _), (2, _), (3, _), (9, _), (10, _)] rfl (?_)
  refine K_reg (Wops_run rfl rfl (Wops_run rfl rfl (Wops_run rfl rfl (Wops_new fun h4 n4 x4 g4 => Wops_st (l := rqL 4 t 0 sy av nv cv) rfl rfl rfl rfl g4 (by simp) rfl fun h5 n5 x5 g5 => ?_))))
  refine K_fin [(0, _), (1, _), (2, _), (3, _), (9, _), (10, _), (11, _)] rfl (?_)
  have y1 := x1.next
  have hp1 : p < h1.next := q1.lt rfl
  have X15 : Ext0 h1 h5 := ((x2.then x3 fun i r => .inr (by omega)).trans x4).then x5 fun i r => .inr (by omega)
  have q5 := q1.ext0 X15
  have b1 : h5.get h1.next = some (.cells (rqL 4 t 0 sx av nv cv) 0 false) := by
    have := x5.some (x4.some0 g3) (show ¬ h1.next = h3.next by omega)
    exact this
  have b2 : h5.get h3.next = some (.cells (rqL 4 t 0 sy av nv cv) 0 false) := g5
  have sv5 := sv.sl.ext (x1.trans X15)
  have hlt0 : ∀ j, Blk av j → j < h0.next := sv.lt
  refine K_ss (K_reg (Wops_run rfl rfl (Wops_run rfl rfl (Wops_ldA (l := rqL 4 t 0 sx av nv cv) rfl b1 (by simp) rfl ?_))))
  refine Wops_call rfl (C38 (es := []) q5 rfl sv5 (by omega) (fun j r e => by have := hlt0 j r; have e' : j = p := e; omega)) ?_
  rintro v h6 ⟨S, t6, hp6⟩
  obtain ⟨a', c', hx, rfl, q6, s6, f6⟩ : ∃ a' c' hx, v = .int .i64 0 ∧ Kc h6 p [newE (.int .i64 4) (.int .u64 t) (.int .u64 0) (.string sx) (.slice a' nv c') (.int .u64 0) (.int .u64 0) t hx] S ∧ SlA h6 1 a' nv c' (us xs) ∧ ∀ i, Blk a' i → ¬ S i := by
    rcases hp6 with ⟨e0, _⟩ | ⟨_, e0, _⟩ | ⟨_, _, e1, _⟩ | ⟨_, _, es1, a', c', hx, e1, rfl, q, s, f, _⟩
    · exact absurd e0 ht
    · simp at e0
    · unfold begE at e1; simp at e1
    · unfold begE at e1
      simp only [List.length_nil, Nat.zero_lt_succ, if_true, Option.some.injEq] at e1
      subst e1
      exact ⟨a', c', hx, rfl, q, s, fun i r => (f i r).2.2⟩
  have Snew : ∀ j, S j → j = p ∨ h5.next ≤ j := t6.own
  have nb1 : ¬ S h1.next := fun r => by rcases Snew _ r with r | r <;> omega
  have nb2 : ¬ S h3.next := fun r => by rcases Snew _ r with r | r <;> omega
  have nav : ∀ j, Blk av j → ¬ S j := fun j r e => by have := hlt0 j r; rcases Snew _ e with r | r <;> omega
  have x56 : Ext (fun j => j = p) h5 h6 := t6.ext
  have b1 : h6.get h1.next = some (.cells (rqL 4 t 0 sx av nv cv) 0 false) := x56.some b1 (by omega)
  have b2 : h6.get h3.next = some (.cells (rqL 4 t 0 sy av nv cv) 0 false) := x56.some b2 (by omega)
  have sv6 : SlA h6 1 av nv cv (us xs) := sv5.ext x56 (fun j r e => by have := hlt0 j r; omega)
  let x0 := newE (.int .i64 4) (.int .u64 t) (.int .u64 0) (.string sx) (.slice a' nv c') (.int .u64 0) (.int .u64 0) t hx
  refine Wops_run rfl rfl (K_fin [(0, _), (1, _), (2, _), (3, _), (9, _), (10, _), (11, _), (46, _)] rfl (?_))
  refine K_scond rfl (fun hc => by cases hc) (fun _ => ?_)
  refine K_sskip (K_ss (K_reg (Wops_run rfl rfl (K_fin [(0, _), (1, _), (2, _), (3, _), (9, _), (10, _), (11, _), (12, _)] rfl (?_)))))
  refine K_jblock (fun e h' => e = [(0, .int .u64 t), (1, .int .u8 n), (2, .int .u8 m), (3, .slice av nv cv), (9, ptr p), (10, ptr h1.next), (11, ptr h3.next), (12, .int .i64 N), (51, .bool false)] ∧ Ext S h6 h' ∧ Kc h' p [{ x0 with tm := 1 + (N : Int) }] S) ?_ ?_
  · refine K_loop (fun k e h' => ∃ i : Nat, e = [(0, .int .u64 t), (1, .int .u8 n), (2, .int .u8 m), (3, .slice av nv cv), (9, ptr p), (10, ptr h1.next), (11, ptr h3.next), (12, .int .i64 i)] ∧ i ≤ N ∧ k = N - i ∧ Ext S h6 h' ∧ Kc h' p [{ x0 with tm := 1 + (i : Int) }] S) ?_ (k := N) ⟨0, rfl, by omega, rfl, Ext.refl _ _, q6⟩
    rintro k e h' ⟨i, rfl, hi, rfl, x', q'⟩
    refine K_ss (K_reg (Wops_run rfl rfl (Wops_run rfl rfl (Wops_rem rfl rfl (by decide) (Wops_as (w := .int .i64 (N : Int)) rfl rfl (by rw [hNe']; first | rw [wr8 (by omega), w64 (by omega)] | rw [w64 (by omega)]) ?_)))))
    by_cases hiN : i < N
    · refine Wops_as (w := .bool true) rfl rfl (by rw [decide_eq_true (by omega)]) (K_fin [(0, _), (1, _), (2, _), (3, _), (9, _), (10, _), (11, _), (12, _), (51, _)] rfl (?_))
      refine K_scond rfl (fun _ => ?_) (fun hc => by cases hc)
      refine K_sskip (K_sblock ?_)
      refine K_reg (Wops_run rfl rfl (Wops_run rfl rfl (Wops_ldA (l := rqL 4 t 0 sx av nv cv) rfl (x'.some b1 nb1) (by simp) rfl ?_)))
      have svx : SlA h' 1 av nv cv (us xs) := sv6.ext x' nav
      have sax : SlA h' 1 a' nv c' (us xs) := s6.ext x' f6
      refine Wops_call rfl (C39 (b := fun _ => true) q' rfl (fun x hx _ h2 x2 => ?_) (fun x hx _ => ?_) (fun x hx => ?_)) ?_
      · rw [List.mem_singleton] at hx; subst hx
        have := C64 (k1 := 4) (k2 := 4) (t1 := t) (t2 := t) (d1 := 0) (d2 := 0) (s1 := sx) (s2 := sx) (sax.ext x2) (svx.ext x2) (by omega)
        refine this.mono ?_
        rintro v h3 ⟨rfl, rfl⟩
        exact ⟨by rw [sxx, decide_eq_true rfl]; simp, rfl⟩
      · rw [List.mem_singleton] at hx; subst hx
        exact ⟨none, 0, 0, [], rfl, SlA.none, by omega⟩
      · rw [List.mem_singleton] at hx; subst hx
        show 0 ≤ 1 + (i : Int) ∧ 1 + (i : Int) ≤ 1000000
        omega
      rintro v h7 ⟨t7, hv⟩
      obtain ⟨rfl, q7⟩ : v = askV true false rp0 0 ∧ Kc h7 p [{ x0 with tm := 1 + ((i + 1 : Nat) : Int) }] S := by
        rcases hv with ⟨e | e, _⟩ | ⟨_, j, hj, _, _, e⟩
        · exact absurd e ht
        · exact absurd rfl (e _ (List.mem_singleton.2 rfl))
        · obtain rfl : j = 0 := by simp at hj; exact hj
          rcases e with ⟨e, _⟩ | ⟨_, _, e, q⟩ | ⟨_, e, _⟩
          · cases e
          · refine ⟨e, ?_⟩
            have e2 : ((i + 1 : Nat) : Int) = (i : Int) + 1 := rfl
            rw [e2, ← Int.add_assoc]; exact q
          · cases e
      refine Wops_run rfl rfl (Wops_run rfl rfl (Wops_run rfl rfl (Wops_run rfl rfl (Wops_run rfl rfl (Wops_new fun h8 n8 x8 g8 => ?_)))))
      refine Wops_run rfl rfl (Wops_run rfl rfl (Wops_st (l := rp0) rfl rfl rfl rfl g8 (by simp) rfl fun h9 n9 x9 g9 => ?_))
      refine Wops_run rfl rfl (K_fin [(0, _), (1, _), (2, _), (3, _), (9, _), (10, _), (11, _), (12, _), (13, _), (14, _), (16, _)] rfl (?_))
      have x79 : Ext0 h7 h9 := x8.then x9 fun j r => .inr (by omega)
      have q9 := q7.ext0 x79
      have x'9 : Ext S h6 h9 := (x'.trans t7.ext).then0 x79
      refine K_reg (Wops_run rfl rfl (Wops_run rfl rfl (Wops_ldA (l := rqL 4 t 0 sy av nv cv) rfl (x'9.some b2 nb2) (by simp) rfl ?_)))
      have svx9 : SlA h9 1 av nv cv (us xs) := sv6.ext x'9 nav
      have sax9 : SlA h9 1 a' nv c' (us xs) := s6.ext x'9 f6
      refine Wops_call rfl (C39 (b := fun _ => false) q9 rfl (fun x hx _ h2 x2 => ?_) (fun x hx _ => ?_) (fun x hx => ?_)) ?_
      · rw [List.mem_singleton] at hx; subst hx
        have := C64 (k1 := 4) (k2 := 4) (t1 := t) (t2 := t) (d1 := 0) (d2 := 0) (s1 := sx) (s2 := sy) (sax9.ext x2) (svx9.ext x2) (by omega)
        refine this.mono ?_
        rintro v h3 ⟨rfl, rfl⟩
        exact ⟨by rw [sxy]; simp, rfl⟩
      · rw [List.mem_singleton] at hx; subst hx
        exact ⟨none, 0, 0, [], rfl, SlA.none, by omega⟩
      · rw [List.mem_singleton] at hx; subst hx
        show 0 ≤ 1 + ((i + 1 : Nat) : Int) ∧ 1 + ((i + 1 : Nat) : Int) ≤ 1000000
        omega
      rintro v h10 ⟨t10, hv⟩
      obtain ⟨rfl, q10⟩ : v = askV true false rp0 16 ∧ Kc h10 p [{ x0 with tm := 1 + ((i + 1 : Nat) : Int) }] S := by
        rcases hv with ⟨e | e, _⟩ | ⟨_, j, hj, _, _, e⟩
        · exact absurd e ht
        · exact absurd rfl (e _ (List.mem_singleton.2 rfl))
        · rcases e with ⟨_, e, q⟩ | ⟨e, _⟩ | ⟨e, _⟩
          · exact ⟨e, q⟩
          · cases e
          · cases e
      refine Wops_run rfl rfl (Wops_run rfl rfl (Wops_run rfl rfl (Wops_run rfl rfl (Wops_run rfl rfl (Wops_new fun h11 n11 x11 g11 => ?_)))))
      refine Wops_run rfl rfl (Wops_run rfl rfl (Wops_st (l := rp0) rfl rfl rfl rfl g11 (by simp) rfl fun h12 n12 x12 g12 => ?_))
      refine Wops_run rfl rfl (K_fin [(0, _), (1, _), (2, _), (3, _), (9, _), (10, _), (11, _), (12, _), (13, _), (14, _), (16, _), (17, _), (20, _)] rfl (?_))
      have x1012 : Ext0 h10 h12 := x11.then x12 fun j r => .inr (by omega)
      refine K_reg ?_
      repeat (first | refine Wops_skip rfl ?_ | refine Wops_go rfl ?_ | refine Wops_run rfl rfl ?_)
      refine K_fin [(0, _), (1, _), (2, _), (3, _), (9, _), (10, _), (11, _), (12, _), (88, .bool false)] rfl (?_)
      refine K_cond rfl (fun hc => by cases hc) (fun _ => ?_)
      refine K_skip ?_
      refine K_last (Wops_run rfl rfl (Wops_run rfl rfl (Wops_run rfl rfl (K_finL [(0, _), (1, _), (2, _), (3, _), (9, _), (10, _), (11, _), (12, _)] rfl (?_)))))
      exact ⟨N - (i + 1), by omega, i + 1, by rw [w64s (by omega)], by omega, rfl, (x'9.trans t10.ext).then0 x1012, q10.ext0 x1012⟩
    · obtain rfl : i = N := by omega
      refine Wops_as (w := .bool false) rfl rfl (by rw [decide_eq_false (by omega)]) (K_fin [(0, _), (1, _), (2, _), (3, _), (9, _), (10, _), (11, _), (12, _), (51, _)] rfl (?_))
      refine K_scond rfl (fun hc => by cases hc) (fun _ => ?_)
      exact K_sexit (bx_same ⟨rfl, x', q'⟩)
  rintro e h7 ⟨rfl, x67, q7⟩
  have sv7 : SlA h7 1 av nv cv (us xs) := sv6.ext x67 nav
  refine K_ss (K_reg (Wops_run rfl rfl (Wops_run rfl rfl (Wops_run rfl rfl (Wops_run rfl rfl (Wops_run rfl rfl ?_))))))
  refine Wops_call rfl (C40 (p0 := .int .u64 t) (p1 := .int .i64 0) (p2 := .int .u64 0) q7 rfl sv7 (by omega)) ?_
  rintro v h8 ⟨t8, hv⟩
  obtain ⟨a8, c8, hx8, rfl, q8, s8, f8⟩ : ∃ a8 c8 hx8, v = .int .i64 (1 + (N : Int)) ∧ Kc h8 p [finE { x0 with tm := 1 + (N : Int) } (.int .u64 t) (.int .i64 0) (.int .u64 0) (.slice a8 nv c8) hx8] S ∧ SlA h8 1 a8 nv c8 (us xs) ∧ ∀ i, Blk a8 i → ¬ S i := by
    rcases hv with ⟨e | e, _⟩ | ⟨_, j, hj, _, _, e⟩
    · exact absurd e ht
    · exact absurd rfl (e _ (List.mem_singleton.2 rfl))
    · obtain rfl : j = 0 := by simp at hj; exact hj
      rcases e with ⟨e, _⟩ | ⟨_, e, a8, c8, hx8, q, s, f, _⟩
      · cases e
      · exact ⟨a8, c8, hx8, e, q, s, fun i r => (f i r).2.2⟩
  refine Wops_run rfl rfl (Wops_rem rfl rfl (by decide) (Wops_as (w := .int .i64 (N : Int)) rfl rfl (by rw [hNe']; first | rw [wr8 (by omega), w64 (by omega)] | rw [w64 (by omega)]) (Wops_as (w := .int .i64 (1 + (N : Int))) rfl rfl (by rw [w64 (by omega)]) (Wops_neq (v := false) rfl rfl (by simp) (Wops_run rfl rfl ?_)))))
  refine Wops_go rfl (Wops_run rfl rfl (Wops_go rfl (Wops_run rfl rfl (Wops_go rfl (Wops_run rfl rfl (Wops_go rfl ?_))))))
  refine Wops_call rfl (C40 (p0 := .int .u64 0) (p1 := .int .i64 0) (p2 := .int .u64 0) (a := none) (n := 0) (c := 0) (xs := []) q8 rfl SlA.none (by omega)) ?_
  rintro v h9 ⟨t9, hv⟩
  obtain ⟨rfl, q9⟩ : v = .int .i64 0 ∧ Kc h9 p [finE { x0 with tm := 1 + (N : Int) } (.int .u64 t) (.int .i64 0) (.int .u64 0) (.slice a8 nv c8) hx8] S := by
    rcases hv with ⟨e | e, _⟩ | ⟨_, j, hj, _, _, e⟩
    · exact absurd e ht
    · exact absurd rfl (e _ (List.mem_singleton.2 rfl))
    · obtain rfl : j = 0 := by simp at hj; exact hj
      rcases e with ⟨_, e, q⟩ | ⟨e, _⟩
      · exact ⟨e, q⟩
      · cases e
  have s9 : SlA h9 1 a8 nv c8 (us xs) := s8.ext t9.ext f8
  have x69 : Ext S h6 h9 := (x67.trans t8.ext).trans t9.ext
  refine Wops_go rfl (Wops_run rfl rfl (Wops_run rfl rfl (K_fin [(0, _), (2, _), (3, _), (9, _), (10, _), (106, _)] rfl (?_))))
  refine K_scond rfl (fun hc => by cases hc) (fun _ => ?_)
  refine K_sskip (K_ss (K_reg (Wops_run rfl rfl (K_fin [(0, _), (2, _), (3, _), (9, _), (10, _), (21, _)] rfl (?_)))))
  refine K_sblock ?_
  refine K_loop (fun k e h' => ∃ i : Nat, e = [(0, .int .u64 t), (2, .int .u8 m), (3, .slice av nv cv), (9, ptr p), (10, ptr h1.next), (21, .int .i64 i)] ∧ i ≤ M ∧ k = M - i ∧ Ext S h9 h' ∧ Kc h' p [finE { x0 with tm := 1 + (N : Int) } (.int .u64 t) (.int .i64 0) (.int .u64 0) (.slice a8 nv c8) hx8] S) ?_ (k := M) ⟨0, rfl, by omega, rfl, Ext.refl _ _, q9⟩
  rintro k e h' ⟨i, rfl, hi, rfl, x', q'⟩
  have x6' := x69.trans x'
  refine K_ss (K_reg (Wops_run rfl rfl (Wops_run rfl rfl (Wops_rem rfl rfl (by decide) (Wops_as (w := .int .i64 (M : Int)) rfl rfl (by rw [hMe']; first | rw [wr8 (by omega), w64 (by omega)] | rw [w64 (by omega)]) ?_)))))
  by_cases hiM : i < M
  · refine Wops_as (w := .bool true) rfl rfl (by rw [decide_eq_true (by omega)]) (K_fin [(0, _), (2, _), (3, _), (9, _), (10, _), (21, _), (111, _)] rfl (?_))
    refine K_scond rfl (fun _ => ?_) (fun hc => by cases hc)
    refine K_sskip (K_sblock ?_)
    refine K_reg (Wops_run rfl rfl (Wops_run rfl rfl (Wops_ldA (l := rqL 4 t 0 sx av nv cv) rfl (x6'.some b1 nb1) (by simp) rfl ?_)))
    have svx : SlA h' 1 av nv cv (us xs) := sv6.ext x6' nav
    have sax : SlA h' 1 a' nv c' (us xs) := s6.ext x6' f6
    have srx : SlA h' 1 a8 nv c8 (us xs) := s9.ext x' f8
    refine Wops_call rfl (C39 (b := fun _ => true) q' rfl (fun x hx _ h2 x2 => ?_) (fun x hx _ => ?_) (fun x hx => ?_)) ?_
    · rw [List.mem_singleton] at hx; subst hx
      have := C64 (k1 := 4) (k2 := 4) (t1 := t) (t2 := t) (d1 := 0) (d2 := 0) (s1 := sx) (s2 := sx) (sax.ext x2) (svx.ext x2) (by omega)
      refine this.mono ?_
      rintro v h3 ⟨rfl, rfl⟩
      exact ⟨by rw [sxx, decide_eq_true rfl]; simp, rfl⟩
    · rw [List.mem_singleton] at hx; subst hx
      exact ⟨a8, nv, c8, xs, rfl, srx, by omega⟩
    · rw [List.mem_singleton] at hx; subst hx
      show 0 ≤ 1 + (N : Int) ∧ 1 + (N : Int) ≤ 1000000
      omega
    rintro v h10 ⟨t10, hv⟩
    obtain ⟨a3, c3, ys, rfl, hys, q10, o10⟩ : ∃ a3 c3 ys, v = askV true true [.int .u64 t, .int .i64 0, .int .u64 0, .slice a3 nv c3] 0 ∧ ys = xs ∧ Kc h10 p [finE { x0 with tm := 1 + (N : Int) } (.int .u64 t) (.int .i64 0) (.int .u64 0) (.slice a8 nv c8) hx8] S ∧ SlA h10 1 a3 nv c3 (us ys) := by
      rcases hv with ⟨e | e, _⟩ | ⟨_, j, hj, _, _, e⟩
      · exact absurd e ht
      · exact absurd rfl (e _ (List.mem_singleton.2 rfl))
      · obtain rfl : j = 0 := by simp at hj; exact hj
        rcases e with ⟨e, _⟩ | ⟨_, e, _⟩ | ⟨_, _, q, a, n, c, zs, a3, c3, hp3, sl, hv, o, _⟩
        · cases e
        · cases e
        · have e3 : Value.slice a8 nv c8 = Value.slice a n c := hp3
          cases e3
          have hzs : zs = xs := by
            have h1 := sl.first
            rw [srx.first] at h1
            have h2 : us xs = us zs := by simpa using h1
            have := congrArg (List.map fun v : Value => match v with | .int _ n => n | _ => 0) h2
            simpa [us, Function.comp_def] using this.symm
          exact ⟨a3, c3, zs, hv, hzs, q, o.sl⟩
    subst hys
    refine Wops_run rfl rfl (Wops_run rfl rfl (Wops_run rfl rfl (Wops_run rfl rfl (Wops_run rfl rfl (Wops_new fun h11 n11 x11 g11 => ?_)))))
    refine Wops_run rfl rfl (Wops_run rfl rfl (Wops_st (l := [.int .u64 t, .int .i64 0, .int .u64 0, .slice a3 nv c3]) rfl rfl rfl rfl g11 (by simp) rfl fun h12 n12 x12 g12 => ?_))
    refine Wops_run rfl rfl (K_fin [(0, _), (2, _), (3, _), (9, _), (10, _), (21, _), (22, _), (23, _), (24, _), (25, _)] rfl (?_))
    have x1012 : Ext0 h10 h12 := x11.then x12 fun j r => .inr (by omega)
    refine K_reg (Wops_run rfl rfl (Wops_run rfl rfl (Wops_run rfl rfl (Wops_go rfl (Wops_run rfl rfl (Wops_go rfl (Wops_run rfl rfl (Wops_run rfl rfl (Wops_run rfl rfl (Wops_go rfl (Wops_run rfl rfl (Wops_go rfl (Wops_run rfl rfl (Wops_run rfl rfl (Wops_run rfl rfl ?_)))))))))))))))
    refine Wops_go rfl (Wops_run rfl rfl (Wops_go rfl (Wops_ld (v := .int .u64 t) rfl g12 (by rfl) (Wops_go rfl (Wops_run rfl rfl (Wops_go rfl (Wops_neq (v := false) rfl rfl (by simp) (Wops_run rfl rfl (Wops_run rfl rfl ?_)))))))))
    refine Wops_go rfl (Wops_run rfl rfl (Wops_go rfl (Wops_ld (v := .slice a3 nv c3) rfl g12 (by rfl) (Wops_go rfl (Wops_run rfl rfl (Wops_go rfl ?_))))))
    have svx12 : SlA h12 1 av nv cv (us ys) := (svx.ext t10.ext nav).ext x1012
    refine Wops_call rfl (C34 (o10.ext x1012) svx12 (by omega)) ?_
    rintro _ _ ⟨rfl, rfl⟩
    rw [decide_eq_true rfl]
    refine Wops_go rfl (Wops_run rfl rfl (Wops_run rfl rfl (K_fin [(0, _), (2, _), (3, _), (9, _), (10, _), (21, _), (145, _)] rfl (?_))))
    refine K_cond rfl (fun hc => by cases hc) (fun _ => ?_)
    refine K_skip ?_
    refine K_last (Wops_run rfl rfl (Wops_run rfl rfl (Wops_run rfl rfl (K_finL [(0, _), (2, _), (3, _), (9, _), (10, _), (21, _)] rfl (?_)))))
    exact ⟨M - (i + 1), by omega, i + 1, by rw [w64s (by omega)], by omega, rfl, (x'.trans t10.ext).then0 x1012, q10.ext0 x1012⟩
  · refine Wops_as (w := .bool false) rfl rfl (by rw [decide_eq_false (by omega)]) (K_fin [(0, _), (2, _), (3, _), (9, _), (10, _), (21, _), (111, _)] rfl (?_))
    refine K_scond rfl (fun hc => by cases hc) (fun _ => ?_)
    refine K_sexit (bx_same ?_)
    refine K_reg (Wops_run rfl rfl (K_fin [(8, _)] rfl (?_)))
    exact K_ret (Told.mk _ rfl rfl)

set_option maxRecDepth 100000 in
theorem tokenOnce_fn {L : List (List Value)} {vs : List Value} (hG : FlatG Try.prog 0 [47, 5, 5, 44] vs L) : Fn Try.prog 11 vs (flatH L) fun v _ => v = .bool true := by
  obtain ⟨v, r, rfl, hv, hF⟩ := flat_scal (P := Try.prog) (k := 0) (t := 47) (ts := [5, 5, 44]) (L' := L) (by rw [Try.underlying47]; simp) hG
  obtain ⟨t, rfl, _⟩ := scal_int Try.underlying47 hv
  obtain ⟨v, r, rfl, hv, hF2⟩ := flat_scal (P := Try.prog) (k := 0) (t := 5) (ts := [5, 44]) (L' := L) (by rw [Try.underlying5]; simp) hF
  obtain ⟨n, rfl, hn⟩ := scal_int Try.underlying5 hv
  obtain ⟨v, r, rfl, hv, hF3⟩ := flat_scal (P := Try.prog) (k := 0) (t := 5) (ts := [44]) (L' := L) (by rw [Try.underlying5]; simp) hF2
  obtain ⟨m, rfl, hm⟩ := scal_int Try.underlying5 hv
  obtain ⟨a, c, d, l, r, k2, L2, L3, rfl, s, hl, _, _, hF4⟩ := flat_slice (P := Try.prog) (k := 0) (t := 44) (ts := []) (L0 := []) (L := L) (L' := L) Try.underlying44 rfl rfl hF3
  obtain rfl := flat_nil hF4
  obtain ⟨xs, rfl, _⟩ := scal_ints Try.underlying47 hl
  exact C11 (wf_u8 hn) (wf_u8 hm) s
end Go.Dx.SYtpbibdlmiomhbaa
