/- ClockAgain: the walk. -/
import Derived.Test.YtfhdeagbgdnkaaaCk2
namespace Go.Dx.SYtfhdeagbgdnkaaa
open Go.Proofs
set_option linter.unusedVariables false
set_option linter.unusedSimpArgs false

/-- SameNums -/
theorem C35 {h : Heap} {a b : Option Addr} {n c m d : Nat} {xs ys : List Int} (s : SlA h 1 a n c (us xs)) (s2 : SlA h 1 b m d (us ys)) (hb : n ≤ 1000000) :
    Fn Try.prog 35 [.slice a n c, .slice b m d] h fun v h' => v = .bool (decide (xs = ys)) ∧ h = h' := by
  have hn : xs.length = n := by simpa using s.len
  have hm : ys.length = m := by simpa using s2.len
  refine fnK F35.fok rfl ?_
  refine K_reg (Wops_run rfl rfl (K_fin [(0, _), (1, _)] rfl (?_)))
  refine K_ss (K_reg (Wops_run rfl rfl (Wops_run rfl rfl (Wops_run rfl rfl (Wops_run rfl rfl (Wops_run rfl rfl (K_fin [(0, _), (1, _), (10, _)] rfl (?_))))))))
  refine K_scond rfl (fun hc => ?_) (fun hc => ?_)
  · have hne : n ≠ m := fun e => by subst e; simp at hc
    refine K_ss (K_reg (Wops_run rfl rfl (K_fin [(4, _)] rfl (?_))))
    refine K_sret (Told.mk _ rfl (show _ ∧ _ from ⟨?_, rfl⟩))
    rw [decide_eq_false (fun e => hne (by rw [← hn, ← hm, e]))]; rfl
  · have hnm : n = m := by
      have h1 : ((n : Int) != (m : Int)) = false := hc
      simp at h1; omega
    subst hnm
    refine K_sskip (K_ss (K_reg (Wops_run rfl rfl (K_fin [(0, _), (1, _), (5, _)] rfl (?_)))))
    refine K_sblock ?_
    refine K_loop (fun k e h' => ∃ i : Nat, e = [(0, .slice a n c), (1, .slice b n d), (5, .int .i64 i)] ∧ h = h' ∧ i ≤ n ∧ k = n - i ∧ xs.take i = ys.take i) ?_ (k := n) ⟨0, rfl, rfl, by omega, rfl, rfl⟩
    rintro k e h' ⟨i, rfl, rfl, hi, rfl, ht⟩
    refine K_ss (K_reg (Wops_run rfl rfl (Wops_run rfl rfl (Wops_run rfl rfl (Wops_run rfl rfl (K_fin [(0, _), (1, _), (5, _), (14, _)] rfl (?_)))))))
    refine K_scond rfl (fun hc => ?_) (fun hc => ?_)
    · have hlt : i < n := by have := of_decide_eq_true hc; omega
      refine K_sskip (K_sblock ?_)
      refine K_reg (Wops_run rfl rfl (Wops_run rfl rfl (Wops_idx (u := .int .u64 xs[i]) rfl rfl s ⟨by omega, by omega⟩ (by simp [hn, hlt]) fun p => ?_)))
      refine Wops_run rfl rfl (Wops_run rfl rfl (Wops_idx (u := .int .u64 ys[i]) rfl rfl s2 ⟨by omega, by omega⟩ (by simp [hm, hlt]) fun p => ?_))
      refine Wops_neq (v := xs[i] != ys[i]) rfl rfl rfl (K_fin [(0, _), (1, _), (5, _), (25, _)] rfl (?_))
      refine K_cond rfl (fun hd => ?_) (fun hd => ?_)
      · refine K_reg (Wops_run rfl rfl (K_fin [(4, _)] rfl (?_)))
        refine K_ret (Told.mk _ rfl (show _ ∧ _ from ⟨?_, rfl⟩))
        rw [decide_eq_false (fun e => by subst e; simp at hd)]; rfl
      · refine K_skip (K_last (Wops_run rfl rfl (Wops_run rfl rfl (Wops_run rfl rfl (K_finL [(0, _), (1, _), (5, _)] rfl (?_))))))
        refine ⟨n - (i + 1), by omega, i + 1, by rw [w64s (by omega)], rfl, by omega, rfl, ?_⟩
        have h2 : xs[i] = ys[i] := by simpa using hd
        rw [List.take_add_one, List.take_add_one, ht, List.getElem?_eq_getElem (by omega), List.getElem?_eq_getElem (by omega), h2]
    · have hin : i = n := by have := of_decide_eq_false hc; omega
      refine K_sexit (bx_same ?_)
      refine K_reg (Wops_run rfl rfl (K_fin [(4, _)] rfl (?_)))
      refine K_ret (Told.mk _ rfl (show _ ∧ _ from ⟨?_, rfl⟩))
      rw [List.take_of_length_le (by omega), List.take_of_length_le (by omega)] at ht
      rw [decide_eq_true ht]; rfl

theorem rem_nat {a : Int} (ha : 0 ≤ a) {m : Nat} (hm : 0 < m) : ∃ A : Nat, A < m ∧ a.tmod (m : Int) = A := by
  have h1 := Int.tmod_nonneg (m : Int) ha
  have h2 := Int.tmod_lt_of_pos a (show (0 : Int) < (m : Int) by omega)
  exact ⟨(a.tmod m).toNat, by omega, by omega⟩
theorem wf_u64 {n : Int} (h : (Lit.int .u64 n).wf = true) : 0 ≤ n ∧ n ≤ 18446744073709551615 := by
  simp [Lit.wf, IntKind.min, IntKind.max, IntKind.signed, IntKind.bits] at h; omega

def one (id Y t : Int) : List D := if t ≤ Y then [(id, Y)] else []
theorem one_late (id Y t : Int) : lateL (one id Y t) t = if t = Y then [id] else [] := by
  unfold one lateL
  by_cases h1 : t = Y
  · subst h1; simp
  · by_cases h2 : t ≤ Y
    · rw [if_pos h2, if_neg h1]; simp; omega
    · rw [if_neg h2, if_neg h1]; rfl
theorem one_drop (id Y t : Int) : dropR (one id Y t) (if t = Y then [id] else []) = one id Y (t + 1) := by
  unfold one dropR
  by_cases h1 : t = Y
  · subst h1; simp; omega
  · by_cases h2 : t ≤ Y
    · rw [if_pos h2, if_neg h1, if_pos (by omega)]; simp
    · rw [if_neg h2, if_neg h1, if_neg (by omega)]; rfl
theorem one_len (id Y t : Int) : (one id Y t).length ≤ 1 := by
  unfold one; split <;> simp

theorem C12 {h : Heap} {a b id : Int} (ha : 0 ≤ a ∧ a ≤ 255) (hb : 0 ≤ b ∧ b ≤ 255) : Fn Try.prog 12 [.int .u8 a, .int .u8 b, .int .u64 id] h fun v _ => v = .bool true := by
  obtain ⟨A, hA, hAe⟩ := rem_nat ha.1 (m := 9) (by omega)
  obtain ⟨B, hB, hBe⟩ := rem_nat hb.1 (m := 9) (by omega)
  refine fnK F12.fok rfl ?_
  refine K_reg (Wops_run rfl rfl (K_fin [(0, _), (1, _), (2, _)] rfl (?_)))
  refine K_ss (K_reg (Wops_call rfl C31 ?_))
  rintro _ _ ⟨rfl, rfl⟩
  refine Wops_run rfl rfl (K_fin [(0, _), (1, _), (2, _), (18, _)] rfl (?_))
  refine K_scond rfl (fun hc => by cases hc) (fun _ => ?_)
  refine K_sskip (K_reg (Wops_call rfl C32 ?_))
  rintro _ h1 ⟨p, rfl, q1, x1, n1⟩
  refine Wops_run rfl rfl (K_fin [(0, _), (1, _), (2, _), (7, _)] rfl (?_))
  refine K_reg (Wops_run rfl rfl (Wops_rem rfl rfl (by decide) (Wops_as (w := .int .u64 (A : Int)) rfl rfl (by rw [wrapu]; exact congrArg _ hAe; rw [show ((9 : Int)) = ((9 : Nat) : Int) from rfl, hAe]; omega) (Wops_as (w := .int .u64 (1 + (A : Int))) rfl rfl (by rw [wrapu (by omega)]) ?_))))
  refine Wops_run rfl rfl (Wops_rem rfl rfl (by decide) (Wops_as (w := .int .u64 (B : Int)) rfl rfl (by rw [wrapu]; exact congrArg _ hBe; rw [show ((9 : Int)) = ((9 : Nat) : Int) from rfl, hBe]; omega) (Wops_as (w := .int .u64 (1 + (B : Int))) rfl rfl (by rw [wrapu (by omega)]) ?_)))
  refine Wops_run rfl rfl (Wops_run rfl rfl (K_fin [(2, _), (7, _), (8, _), (9, _)] rfl (?_)))
  have r1 : setR [] 0 id (1 + (A : Int)) = (0, [(id, 1 + (A : Int))]) := by unfold setR; rw [if_neg (by omega), if_neg (by simp)]; simp
  have r2 : setR [(id, 1 + (A : Int))] 0 id (1 + (B : Int)) = (11, [(id, 1 + (A : Int))]) := by unfold setR; rw [if_neg (by omega), if_pos (by simp)]
  have r3 : setR [] 0 id (1 + (B : Int)) = (0, [(id, 1 + (B : Int))]) := by unfold setR; rw [if_neg (by omega), if_neg (by simp)]; simp
  refine K_reg (Wops_run rfl rfl (Wops_run rfl rfl (Wops_run rfl rfl (Wops_call rfl (C33 q1 (by simp) (by omega) (by omega)) ?_))))
  rw [r1]
  rintro _ h2 ⟨rfl, S2, q2, t2⟩
  refine Wops_run rfl rfl (K_fin [(2, _), (7, _), (9, _), (10, _)] rfl (?_))
  refine K_reg (Wops_run rfl rfl (Wops_run rfl rfl (Wops_run rfl rfl (Wops_call rfl (C33 q2 (by simp) (by omega) (by omega)) ?_))))
  rw [r2]
  rintro _ h3 ⟨rfl, S3, q3, t3⟩
  refine Wops_run rfl rfl (K_fin [(2, _), (7, _), (9, _), (10, _), (11, _)] rfl (?_))
  refine K_reg (Wops_run rfl rfl (Wops_run rfl rfl (Wops_run rfl rfl ?_)))
  refine Wops_bslice (l := us [id, id]) rfl rfl fun h4 n4 x4 g4 => ?_
  refine Wops_call rfl (C37 (q3.ext0 x4) (OwS.new (n := 2) (c := 1) g4 rfl).sl (fun i r e => by rw [Blk.at] at r; have := q3.lt e; omega) (by simp) (by omega)) ?_
  rintro _ h5 ⟨S5, q5, t5⟩
  rw [show dropR [(id, 1 + (A : Int))] [id, id] = [] by simp [dropR]] at q5
  refine K_fin [(2, _), (7, _), (9, _), (10, _), (11, _)] rfl (?_)
  refine K_reg (Wops_run rfl rfl (Wops_run rfl rfl (Wops_call rfl (C38 q5 (by simp)) ?_)))
  rintro _ _ ⟨rfl, rfl⟩
  refine Wops_run rfl rfl (Wops_run rfl rfl (Wops_run rfl rfl (Wops_run rfl rfl (Wops_run rfl rfl (K_fin [(2, _), (7, _), (9, _), (10, _), (11, _), (13, _)] rfl (?_))))))
  refine K_reg (Wops_run rfl rfl (Wops_run rfl rfl (Wops_run rfl rfl (Wops_call rfl (C33 q5 (by simp) (by omega) (by omega)) ?_))))
  rw [r3]
  rintro _ h6 ⟨rfl, S6, q6, t6⟩
  refine Wops_run rfl rfl (K_fin [(2, _), (7, _), (9, _), (10, _), (11, _), (13, _), (14, _)] rfl (?_))
  have q6' : Ck h6 p (one id (1 + (B : Int)) 1) 0 S6 := by unfold one; rw [if_pos (by omega)]; exact q6
  generalize hY : (1 + (B : Int)) = Y at *
  refine K_ss (K_reg (Wops_run rfl rfl (K_fin [(2, _), (7, _), (9, _), (10, _), (11, _), (13, _), (14, _), (15, _)] rfl (?_))))
  refine K_sblock ?_
  refine K_loop (fun k e h' => ∃ (t : Nat) (S : Nat → Prop), e = [(2, .int .u64 id), (7, ptr p), (9, .int .u64 Y), (10, .int .i64 0), (11, .int .i64 11), (13, .bool false), (14, .int .i64 0), (15, .int .u64 ((t : Int) + 1))] ∧ t ≤ 10 ∧ k = 10 - t ∧ Ck h' p (one id Y ((t : Int) + 1)) t S) ?_ (k := 10) ⟨0, S6, rfl, by omega, rfl, by simpa using q6'⟩
  rintro k e h' ⟨t, S, rfl, ht, rfl, q⟩
  refine K_ss (K_reg (Wops_run rfl rfl ?_))
  by_cases hc : (t : Int) + 1 ≤ 10
  · refine Wops_as (w := .bool true) rfl rfl (by rw [decide_eq_true hc]) (K_fin [(2, _), (7, _), (9, _), (10, _), (11, _), (13, _), (14, _), (15, _), (52, _)] rfl (?_))
    refine K_scond rfl (fun _ => ?_) (fun hc => by cases hc)
    refine K_sskip (K_sblock ?_)
    have hl := one_len id Y ((t : Int) + 1)
    refine K_reg (Wops_run rfl rfl (Wops_call rfl (C34 q (by omega) (by omega)) ?_))
    rw [one_late, one_drop]
    rintro _ h7 ⟨ao, no, co, S7, rfl, so, _, q7, t7⟩
    refine Wops_run rfl rfl (K_fin [(2, _), (7, _), (9, _), (10, _), (11, _), (13, _), (14, _), (15, _), (16, _)] rfl (?_))
    have hno : no = if (t : Int) + 1 = Y then 1 else 0 := by
      have := so.len
      by_cases hy : (t : Int) + 1 = Y
      · rw [if_pos hy] at this ⊢; simp at this; omega
      · rw [if_neg hy] at this ⊢; simp at this; omega
    refine K_reg (Wops_run rfl rfl (Wops_run rfl rfl (Wops_eq (v := decide ((t : Int) + 1 = Y)) rfl rfl (by rw [hno]; by_cases hy : (t : Int) + 1 = Y <;> simp [hy]) (Wops_run rfl rfl (Wops_run rfl rfl (Wops_eq (v := decide ((t : Int) + 1 = Y)) rfl rfl (by by_cases hy : (t : Int) + 1 = Y <;> simp [hy]) ?_))))))
    refine Wops_as (w := .bool false) rfl rfl (by cases decide ((t : Int) + 1 = Y) <;> rfl) (Wops_run rfl rfl (Wops_go rfl (Wops_run rfl rfl (Wops_go rfl (Wops_run rfl rfl (Wops_go rfl (Wops_as (w := .bool false) rfl rfl (by rw [decide_eq_false]; rw [hno]; split <;> simp) ?_)))))))
    refine Wops_run rfl rfl (K_fin [(2, _), (7, _), (9, _), (10, _), (11, _), (13, _), (14, _), (15, _), (68, _)] rfl (?_))
    refine K_cond rfl (fun hc => by cases hc) (fun _ => ?_)
    refine K_skip (K_last (Wops_run rfl rfl (Wops_as (w := .int .u64 ((t : Int) + 1 + 1)) rfl rfl (by rw [wrapu (by omega)]) (Wops_run rfl rfl (K_finL [(2, _), (7, _), (9, _), (10, _), (11, _), (13, _), (14, _), (15, _)] rfl (?_))))))
    exact ⟨10 - (t + 1), by omega, t + 1, S7, by simp, by omega, rfl, by simpa using q7⟩
  · refine Wops_as (w := .bool false) rfl rfl (by rw [decide_eq_false hc]) (K_fin [(2, _), (7, _), (9, _), (10, _), (11, _), (13, _), (14, _), (15, _), (52, _)] rfl (?_))
    refine K_scond rfl (fun hc => by cases hc) (fun _ => ?_)
    refine K_sexit (bx_same ?_)
    have hone : one id Y ((t : Int) + 1) = [] := by unfold one; rw [if_neg (by omega)]
    rw [hone] at q
    have s0 : setR [] t id 0 = (1, []) := rfl
    have s1 : setR [] t id 1099511627777 = (1, []) := rfl
    have s2 : setR [] t id 1099511627776 = (0, [(id, (t : Int) + 1099511627776)]) := rfl
    refine K_reg (Wops_run rfl rfl (Wops_run rfl rfl (Wops_run rfl rfl (Wops_go rfl (Wops_run rfl rfl (Wops_go rfl (Wops_run rfl rfl (Wops_run rfl rfl (Wops_run rfl rfl ?_)))))))))
    refine Wops_go rfl (Wops_run rfl rfl (Wops_go rfl (Wops_run rfl rfl (Wops_run rfl rfl (Wops_run rfl rfl ?_)))))
    refine Wops_go rfl (Wops_run rfl rfl (Wops_go rfl (Wops_run rfl rfl (Wops_run rfl rfl (Wops_run rfl rfl ?_)))))
    refine Wops_go rfl (Wops_run rfl rfl (Wops_go rfl (Wops_run rfl rfl (Wops_go rfl (Wops_call rfl (C33 q (by simp) (by omega) (by omega)) ?_)))))
    rw [s0]
    rintro _ h7 ⟨rfl, S7, q7, _⟩
    refine Wops_go rfl (Wops_run rfl rfl (Wops_run rfl rfl (Wops_run rfl rfl ?_)))
    refine Wops_go rfl (Wops_run rfl rfl (Wops_go rfl (Wops_run rfl rfl (Wops_go rfl (Wops_call rfl (C33 q7 (by simp) (by omega) (by omega)) ?_)))))
    rw [s1]
    rintro _ h8 ⟨rfl, S8, q8, _⟩
    refine Wops_go rfl (Wops_run rfl rfl (Wops_run rfl rfl (Wops_run rfl rfl ?_)))
    refine Wops_go rfl (Wops_run rfl rfl (Wops_go rfl (Wops_run rfl rfl (Wops_go rfl (Wops_call rfl (C33 q8 (by simp) (by omega) (by omega)) ?_)))))
    rw [s2]
    rintro _ h9 ⟨rfl, S9, q9, _⟩
    refine Wops_go rfl (Wops_run rfl rfl (Wops_run rfl rfl (Wops_run rfl rfl (K_fin [(6, _)] rfl (?_)))))
    exact K_ret (Told.mk _ rfl rfl)
set_option maxRecDepth 100000 in
theorem clockAgain_fn {L : List (List Value)} {vs : List Value} (hG : FlatG Try.prog 0 [5, 5, 33] vs L) : Fn Try.prog 12 vs (flatH L) fun v _ => v = .bool true := by
  obtain ⟨v, r, rfl, hv, hF⟩ := flat_scal (P := Try.prog) (k := 0) (t := 5) (ts := [5, 33]) (L' := L) (by rw [Try.underlying5]; simp) hG
  obtain ⟨a, rfl, ha⟩ := scal_int Try.underlying5 hv
  obtain ⟨v, r, rfl, hv, hF2⟩ := flat_scal (P := Try.prog) (k := 0) (t := 5) (ts := [33]) (L' := L) (by rw [Try.underlying5]; simp) hF
  obtain ⟨b, rfl, hb⟩ := scal_int Try.underlying5 hv
  obtain ⟨v, r, rfl, hv, hF3⟩ := flat_scal (P := Try.prog) (k := 0) (t := 33) (ts := []) (L' := L) (by rw [Try.underlying33]; simp) hF2
  obtain ⟨id, rfl, _⟩ := scal_int Try.underlying33 hv
  obtain rfl := flat_nil hF3
  exact C12 (wf_u8 ha) (wf_u8 hb)
end Go.Dx.SYtfhdeagbgdnkaaa
