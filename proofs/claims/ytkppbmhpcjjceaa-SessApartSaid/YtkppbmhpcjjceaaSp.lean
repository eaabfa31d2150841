/- Texts merged: Sn.lean, Sa1.lean, Sa2.lean, Sa3.lean. -/
import Derived.Test.YtkppbmhpcjjceaaSm
import Derived.WalkKit
import Derived.Laws.Externs
namespace Go.Dx.SYtkppbmhpcjjceaa
open Go.Proofs
section
/- Texts merged: Rr4.lean, Ss1.lean, Ss2.lean, Ss3.lean, Ss4.lean, Ss5.lean, Ss6.lean, Ss7.lean. -/
section
/- The document's TakeRequest. -/
set_option linter.unusedVariables false
set_option linter.unusedSimpArgs false

/-- What the switch leaves. -/
def Sw (h0 h : Heap) (p p5 B : Nat) (R : Rq × Rd) : Prop :=
  ∃ ba bc aa ac, Cu h p B R.2 [] ∧ At h p5 (.cells (RqV R.1 ba R.1.body.length bc aa R.1.args.length ac) 0 false) ∧ Ext (fun i => i = p ∨ i = p5) h0 h ∧
    OwS h 1 ba R.1.body.length bc (bys R.1.body) ∧ OwS h 1 aa R.1.args.length ac (u64s R.1.args) ∧ (∀ i, Blk ba i → h0.next ≤ i) ∧ ∀ i, Blk aa i → h0.next ≤ i

set_option maxHeartbeats 4000000 in
/-- TakeRequest -/
theorem C15 {h : Heap} {a : Option Addr} {c n : Nat} {xs : List Nat} (s : SlA h 1 a n c (bys xs)) (hb : n ≤ 100000) (hx : ∀ x ∈ xs, x < 256) (ha : ∀ i, Blk a i → i < h.next) :
    Fn Try.prog 15 [.slice a n c] h fun v h' => Ext0 h h' ∧ ∃ ba bc aa ac, v = .tuple ⟨[.agg ⟨RqV (takeQ xs).1 ba (takeQ xs).1.body.length bc aa (takeQ xs).1.args.length ac⟩, .int .i64 (takeQ xs).2]⟩ ∧
      OwS h' 1 ba (takeQ xs).1.body.length bc (bys (takeQ xs).1.body) ∧ OwS h' 1 aa (takeQ xs).1.args.length ac (u64s (takeQ xs).1.args) ∧ (∀ i, Blk ba i → h.next ≤ i) ∧ ∀ i, Blk aa i → h.next ≤ i := by
  have hn : xs.length = n := by simpa using s.len
  subst hn
  refine fnK F15.fok rfl ?_
  refine K_reg (Wops_new fun h1 n1 x1 g1 => Wops_run rfl rfl (K_fin [(0, _), (2, _)] rfl (?_)))
  refine K_reg (Wops_run rfl rfl (Wops_run rfl rfl (Wops_box (cs := [.slice a xs.length c, .int .i64 0]) rfl rfl fun h2 n2 x2 g2 => Wops_run rfl rfl (K_fin [(2, _), (4, _)] rfl (?_)))))
  have q2 : Cu h2 h1.next h.next (xs, 0) [] := ⟨hx, a, c, g2, (s.ext x1).ext x2, hb, by omega, ha⟩
  have g12 : At h2 h.next (.cells (RqV Rq.zero none 0 0 none 0 0) 0 false) := At.ext g1 x2
  have hk1 := fixed1_lt (xs, 0) hx
  refine K_reg (Wops_run rfl rfl (Wops_call rfl (C46 q2) ?_))
  rintro _ h3 ⟨q3, x3, rfl⟩
  have htk : takeQ xs = if (endS (allS xs).2).2 ≠ 0 then (Rq.zero, (endS (allS xs).2).2) else ((allS xs).1, 0) := rfl
  have hkA : kindS (xs, 0) = ((fixedS 1 (xs, 0)).1, failS (decide ((fixedS 1 (xs, 0)).1 < 1 ∨ (fixedS 1 (xs, 0)).1 > 6)) 2 (fixedS 1 (xs, 0)).2) := rfl
  have hall : allS xs = bodyS (kindS (xs, 0)).1 (fixedS 8 (kindS (xs, 0)).2).1 (fixedS 8 (kindS (xs, 0)).2).2 := rfl
  rw [hkA] at hall
  rw [hall] at htk
  rw [htk]
  clear hall hkA htk
  generalize fixedS 1 (xs, 0) = A at q3 hk1 ⊢
  obtain ⟨k, s1⟩ := A
  have hk1' : k < 256 := hk1
  simp only [] at q3 ⊢
  have g13 := g12.ext x3 (by omega)
  refine Wops_as (w := .int .i64 (k : Int)) rfl rfl (by rw [w64 (by omega)]) (Wops_run rfl rfl (Wops_new fun h4 n4 x4 g4 => Wops_st (l := RqV { Rq.zero with kind := k } none 0 0 none 0 0) rfl rfl rfl rfl g4 (by simp) (by simp [RqV, isCell]) fun h5 n5 x5 g5 => K_fin [(2, _), (4, _), (5, _)] rfl (?_)))
  have z1 := x1.next
  have z2 := x2.next
  have z3 := x3.next
  have z4 := x4.next
  have z5 := x5.next
  have q5 : Cu h5 h1.next h.next s1 [] := (q3.ext0 x4).ext x5 (by omega) (fun i r => by omega)
  have gq : At h5 h3.next (.cells (RqV { Rq.zero with kind := k } none 0 0 none 0 0) 0 false) := g5
  have gr : At h5 h.next (.cells (RqV Rq.zero none 0 0 none 0 0) 0 false) := (g13.ext x4).ext x5 (by omega)
  have x05 : Ext0 h h5 := ((((x1.trans x2).then x3 fun i r => .inr (by omega)).trans x4)).then x5 fun i r => .inr (by omega)
  -- its kind
  refine K_join (fun e h' => ∃ l : Env, e = [(2, ptr h.next), (4, ptr h1.next), (5, ptr h3.next)] ++ l ∧ Cu h' h1.next h.next (failS (decide (k < 1 ∨ k > 6)) 2 s1) [] ∧ Ext (· = h1.next) h5 h') ?_ ?_
  · obtain ⟨_, a5, c5, gc, _⟩ := id q5
    refine K_reg (Wops_run rfl rfl (Wops_run rfl rfl (Wops_run rfl rfl (Wops_ld (v := .int .i64 s1.2) rfl gc rfl ?_))))
    by_cases h0 : s1.2 = 0
    case neg =>
      refine Wops_as (w := .bool false) rfl rfl (by simp [h0]) ?_
      (repeat (first | refine Wops_skip rfl ?_ | refine Wops_run rfl rfl ?_))
      refine K_fin [(2, _), (4, _), (5, _), (29, _)] rfl (K_cond rfl (fun hc => by cases hc) (fun _ => K_skip ⟨[_], rfl, ?_, Ext.refl _ _⟩))
      rw [stick_fail h0]; exact q5
    refine Wops_as (w := .bool true) rfl rfl (by simp [h0]) (Wops_run rfl rfl (Wops_go rfl (Wops_run rfl rfl (Wops_go rfl (Wops_ld (v := .int .i64 (k : Int)) rfl gq rfl (Wops_go rfl ?_))))))
    by_cases c1 : k < 1
    · refine Wops_as (w := .bool true) rfl rfl (by rw [decide_eq_true (by omega)]) (Wops_go rfl (Wops_run rfl rfl (Wops_skip rfl (Wops_skip rfl (Wops_skip rfl (Wops_go rfl (Wops_run rfl rfl (Wops_run rfl rfl (K_fin [(2, _), (4, _), (5, _), (29, _)] rfl (?_))))))))))
      refine K_cond rfl (fun _ => ?_) (fun hc => by cases hc)
      refine K_last (Wops_run rfl rfl (Wops_call rfl (C47 q5) ?_))
      rintro _ h6 ⟨q6, x6⟩
      refine K_finL [(2, _), (4, _), (5, _)] rfl ⟨[], rfl, ?_, x6⟩
      rw [decide_eq_true (.inl c1)]; exact q6
    · refine Wops_as (w := .bool false) rfl rfl (by rw [decide_eq_false (by omega)]) (Wops_go rfl (Wops_run rfl rfl (Wops_go rfl (Wops_run rfl rfl (Wops_go rfl (Wops_ld (v := .int .i64 (k : Int)) rfl gq rfl (Wops_go rfl (Wops_as (w := .bool (decide (k < 1 ∨ k > 6))) rfl rfl (by congr 1; exact decide_eq_decide.2 (by omega)) (Wops_go rfl (Wops_run rfl rfl (Wops_run rfl rfl (K_fin [(2, _), (4, _), (5, _), (29, _)] rfl (?_)))))))))))))
      refine K_cond rfl (fun hc => ?_) (fun hc => K_skip ⟨[_], rfl, by rw [hc, fail_no]; exact q5, Ext.refl _ _⟩)
      refine K_last (Wops_run rfl rfl (Wops_call rfl (C47 q5) ?_))
      rintro _ h6 ⟨q6, x6⟩
      refine K_finL [(2, _), (4, _), (5, _)] rfl ⟨[], rfl, ?_, x6⟩
      rw [hc]; exact q6
  rintro _ h6 ⟨l6, rfl, q6, x6⟩
  generalize failS (decide (k < 1 ∨ k > 6)) 2 s1 = sA at q6 ⊢
  refine K_reg (Wops_run rfl rfl (Wops_call rfl (C48 q6) ?_))
  rintro _ h7 ⟨q7, x7, rfl⟩
  generalize fixedS 8 sA = F at q7 ⊢
  obtain ⟨t, s⟩ := F
  simp only [] at q7 ⊢
  have gq7 := (gq.ext x6 (by omega)).ext x7 (by omega)
  refine Wops_run rfl rfl (Wops_st (l := [.int .u64 (t : Int)]) rfl rfl rfl rfl gq7 (by simp [RqV]) rfl fun h8 n8 x8 g8 => K_fin [(2, _), (4, _), (5, _)] rfl (?_))
  have z6 := x6.next
  have z7 := x7.next
  have z8 := x8.next
  have q8 : Cu h8 h1.next h.next s [] := q7.ext x8 (by omega) (fun i r => by omega)
  replace g8 : At h8 h3.next (.cells (RqV { Rq.zero with kind := k, tok := t } none 0 0 none 0 0) 0 false) := g8
  have gr8 := ((gr.ext x6 (by omega)).ext x7 (by omega)).ext x8 (by omega)
  have x08 : Ext0 h h8 := ((x05.then x6 fun i r => .inr (by omega)).then x7 fun i r => .inr (by omega)).then x8 fun i r => .inr (by omega)
  refine K_ss (K_reg (Wops_run rfl rfl (Wops_ld (v := .int .i64 (k : Int)) rfl g8 rfl (K_fin [(2, _), (4, _), (5, _), (36, _)] rfl (?_)))))
  refine K_jblock (fun e h' => ∃ l : Env, e = [(2, ptr h.next), (4, ptr h1.next), (5, ptr h3.next)] ++ l ∧ Sw h8 h' h1.next h3.next h.next (bodyS k t s)) ?_ ?_
  · have hpp : h1.next ≠ h3.next := by omega
    have exP : ∀ {hx hy : Heap}, Ext (· = h1.next) hx hy → Ext (fun i => i = h1.next ∨ i = h3.next) hx hy := fun x => x.mono fun _ _ r => .inl r
    have exQ : ∀ {hx hy : Heap}, Ext (· = h3.next) hx hy → Ext (fun i => i = h1.next ∨ i = h3.next) hx hy := fun x => x.mono fun _ _ r => .inr r
    obtain ⟨_, a8, c8, gc8, sl8, hb8, hd8⟩ := id q8
    by_cases e1 : k = 1
    · subst e1
      refine K_reg (Wops_as (w := .bool true) rfl rfl rfl (Wops_run rfl rfl (K_fin [(2, _), (4, _), (5, _), (36, _), (37, _)] rfl (?_))))
      refine K_cond rfl (fun _ => ?_) (fun hc => by cases hc)
      refine K_last (Wops_run rfl rfl (Wops_run rfl rfl (Wops_run rfl rfl (Wops_run rfl rfl (Wops_ld (v := .slice a8 s.1.length c8) rfl gc8 rfl (Wops_run rfl rfl (Wops_as (w := .int .u32 (s.1.length : Int)) rfl rfl (by rw [wr32m, Nat.mod_eq_of_lt (by omega)]) (Wops_call rfl (C49 q8 (by omega)) ?_))))))))
      rintro _ h9 ⟨q9, x9, ba, bc, rfl, ob, bb⟩
      have z9 := x9.next
      have g9 := g8.ext x9 (by omega)
      refine Wops_run rfl rfl (Wops_st (l := [.slice ba _ bc]) rfl rfl rfl rfl g9 (by simp [RqV]) rfl fun h10 n10 x10 g10 => K_finL [(2, _), (4, _), (5, _)] rfl ?_)
      exact ⟨[], rfl, ba, bc, none, 0, q9.ext x10 (by omega) (fun i r => by omega), g10, (exP x9).trans (exQ x10), ob.ext x10 (fun i r => by have := bb i r; omega), OwS.none, fun i r => bb i r, fun i r => absurd r Blk.none⟩
    refine K_reg (Wops_as (w := .bool false) rfl rfl (by simp; omega) (Wops_run rfl rfl (K_fin [(2, _), (4, _), (5, _), (36, _), (37, _)] rfl (?_))))
    refine K_cond rfl (fun hc => by cases hc) (fun _ => ?_)
    by_cases e2 : k = 2
    · subst e2
      refine K_reg (Wops_as (w := .bool true) rfl rfl rfl (Wops_run rfl rfl (K_fin [(2, _), (4, _), (5, _), (36, _), (48, _)] rfl (?_))))
      refine K_cond rfl (fun _ => ?_) (fun hc => by cases hc)
      refine K_last (Wops_run rfl rfl (Wops_call rfl (C50 q8) ?_))
      rintro _ h9 ⟨q9, x9, rfl⟩
      refine Wops_run rfl rfl (Wops_call rfl (C51 q9) ?_)
      rintro _ h10 ⟨q10, x10, rfl⟩
      have z9 := x9.next
      have z10 := x10.next
      have g10 := (g8.ext x9 (by omega)).ext x10 (by omega)
      refine Wops_run rfl rfl (Wops_st (l := [.int .u64 ((numberS s).1 : Int)]) rfl rfl rfl rfl g10 (by simp [RqV]) rfl fun h11 n11 x11 g11 => ?_)
      refine Wops_run rfl rfl (Wops_st (l := [.string (strOf (nameS (numberS s).2).1)]) rfl rfl rfl rfl g11 (by simp [RqV, putL]) rfl fun h12 n12 x12 g12 => K_finL [(2, _), (4, _), (5, _)] rfl ?_)
      exact ⟨[], rfl, none, 0, none, 0, (q10.ext x11 (by omega) (fun i r => by omega)).ext x12 (by omega) (fun i r => by omega), g12, (((exP x9).trans (exP x10)).trans (exQ x11)).trans (exQ x12), OwS.none, OwS.none, fun i r => absurd r Blk.none, fun i r => absurd r Blk.none⟩
    refine K_reg (Wops_as (w := .bool false) rfl rfl (by simp; omega) (Wops_run rfl rfl (K_fin [(2, _), (4, _), (5, _), (36, _), (48, _)] rfl (?_))))
    refine K_cond rfl (fun hc => by cases hc) (fun _ => ?_)
    by_cases e3 : k = 3
    · subst e3
      refine K_reg (Wops_as (w := .bool true) rfl rfl rfl (Wops_run rfl rfl (K_fin [(2, _), (4, _), (5, _), (36, _), (56, _)] rfl (?_))))
      refine K_cond rfl (fun _ => ?_) (fun hc => by cases hc)
      refine K_last (Wops_run rfl rfl (Wops_call rfl (C51 q8) ?_))
      rintro _ h9 ⟨q9, x9, rfl⟩
      have z9 := x9.next
      have g9 := g8.ext x9 (by omega)
      refine Wops_run rfl rfl (Wops_st (l := [.string (strOf (nameS s).1)]) rfl rfl rfl rfl g9 (by simp [RqV]) rfl fun h10 n10 x10 g10 => K_finL [(2, _), (4, _), (5, _)] rfl ?_)
      exact ⟨[], rfl, none, 0, none, 0, q9.ext x10 (by omega) (fun i r => by omega), g10, (exP x9).trans (exQ x10), OwS.none, OwS.none, fun i r => absurd r Blk.none, fun i r => absurd r Blk.none⟩
    refine K_reg (Wops_as (w := .bool false) rfl rfl (by simp; omega) (Wops_run rfl rfl (K_fin [(2, _), (4, _), (5, _), (36, _), (56, _)] rfl (?_))))
    refine K_cond rfl (fun hc => by cases hc) (fun _ => ?_)
    by_cases e4 : k = 4
    · subst e4
      refine K_reg (Wops_as (w := .bool true) rfl rfl rfl (Wops_run rfl rfl (K_fin [(2, _), (4, _), (5, _), (36, _), (61, _)] rfl (?_))))
      refine K_cond rfl (fun _ => ?_) (fun hc => by cases hc)
      refine K_reg (Wops_run rfl rfl (Wops_call rfl (C50 q8) ?_))
      rintro _ h9 ⟨q9, x9, rfl⟩
      refine Wops_run rfl rfl (Wops_call rfl (C51 q9) ?_)
      rintro _ h10 ⟨q10, x10, rfl⟩
      have z9 := x9.next
      have z10 := x10.next
      have g10 := (g8.ext x9 (by omega)).ext x10 (by omega)
      refine Wops_run rfl rfl (Wops_st (l := [.int .u64 ((numberS s).1 : Int)]) rfl rfl rfl rfl g10 (by simp [RqV]) rfl fun h11 n11 x11 g11 => ?_)
      refine Wops_run rfl rfl (Wops_st (l := [.string (strOf (nameS (numberS s).2).1)]) rfl rfl rfl rfl g11 (by simp [RqV, putL]) rfl fun h12 n12 x12 g12 => K_fin [(2, _), (4, _), (5, _)] rfl ?_)
      have hbody : bodyS 4 t s = (⟨4, t, (numberS s).1, (nameS (numberS s).2).1, [], (numbersS (nameS (numberS s).2).2).1, (numberS (numbersS (nameS (numberS s).2).2).2).1, 0⟩, (numberS (numbersS (nameS (numberS s).2).2).2).2) := rfl
      rw [hbody]
      clear hbody
      have q12 := (q10.ext x11 (by omega) (fun i r => by omega)).ext x12 (by omega) (fun i r => by omega)
      have X12 : Ext (fun i => i = h1.next ∨ i = h3.next) h8 h12 := (((exP x9).trans (exP x10)).trans (exQ x11)).trans (exQ x12)
      replace g12 : At h12 h3.next (.cells (RqV ⟨4, t, (numberS s).1, (nameS (numberS s).2).1, [], [], 0, 0⟩ none 0 0 none 0 0) 0 false) := g12
      generalize (numberS s).1 = han at g12 ⊢
      generalize nameS (numberS s).2 = N0 at q12 g12 ⊢
      obtain ⟨nm, sN⟩ := N0
      simp only [] at q12 g12 ⊢
      have z11 := x11.next
      have z12 := x12.next
      have hN32 := num32_lt sN q12.1
      refine K_reg (Wops_run rfl rfl (Wops_call rfl (C52 q12) ?_))
      rintro _ h13 ⟨q13, x13, rfl⟩
      have z13 := x13.next
      refine Wops_run rfl rfl (K_fin [(2, _), (4, _), (5, _), (6, _)] rfl (?_))
      have hcn := count_num 8 sN
      have hnS : numbersS sN = numbersL (numS 32 sN).1 [] (failS (decide ((numS 32 sN).1 > 8)) 4 (numS 32 sN).2) := by unfold numbersS; rw [hcn]
      generalize numS 32 sN = NN at q13 hN32 hnS ⊢
      obtain ⟨N, sM⟩ := NN
      simp only [] at q13 hN32 hnS ⊢
      refine K_ss (K_reg (Wops_run rfl rfl (Wops_as (w := .bool (decide (N > 8))) rfl rfl (by congr 1; exact decide_eq_decide.2 (by omega)) (K_fin [(2, _), (4, _), (5, _), (6, _), (72, _)] rfl (?_)))))
      refine K_join (fun e h' => ∃ l : Env, e = [(2, ptr h.next), (4, ptr h1.next), (5, ptr h3.next), (6, .int .u32 (N : Int))] ++ l ∧ Cu h' h1.next h.next (failS (decide (N > 8)) 4 sM) [] ∧ Ext (· = h1.next) h13 h') ?_ ?_
      · refine K_cond rfl (fun hc => ?_) (fun hc => K_skip ⟨[_], rfl, by rw [hc, fail_no]; exact q13, Ext.refl _ _⟩)
        refine K_last (Wops_run rfl rfl (Wops_call rfl (C47 q13) ?_))
        rintro _ h14 ⟨q14, x14⟩
        exact K_finL [(2, _), (4, _), (5, _), (6, _)] rfl ⟨[], rfl, by rw [hc]; exact q14, x14⟩
      rintro _ h14 ⟨l14, rfl, q14, x14⟩
      have z14 := x14.next
      have hN8 : (failS (decide (N > 8)) 4 sM).2 = 0 → N ≤ 8 := fun w => by have := of_decide_eq_false (failS_ok (by decide) w).1; omega
      generalize failS (decide (N > 8)) 4 sM = sF at q14 hN8 hnS ⊢
      have g14 := (g12.ext x13 (by omega)).ext x14 (by omega)
      refine K_ss (K_reg (Wops_run rfl rfl (K_fin [(2, _), (4, _), (5, _), (6, _), (7, _)] rfl (?_))))
      refine K_sblock ?_
      refine K_loop (fun kk e h' => ∃ (j : Nat) (l : List Nat) (s' : Rd) (la : Option Addr) (lc : Nat), e = [(2, ptr h.next), (4, ptr h1.next), (5, ptr h3.next), (6, .int .u32 (N : Int)), (7, .int .u32 (j : Int))] ∧ j ≤ N ∧ kk = N - j ∧ numbersL (N - j) l s' = numbersS sN ∧ (s'.2 = 0 → (N - j) + l.length ≤ 8) ∧ Cu h' h1.next h.next s' [] ∧ At h' h3.next (.cells (RqV ⟨4, t, han, nm, [], l, 0, 0⟩ none 0 0 la l.length lc) 0 false) ∧ OwS h' 1 la l.length lc (u64s l) ∧ (∀ i, Blk la i → h8.next ≤ i) ∧ Ext (fun i => i = h1.next ∨ i = h3.next) h8 h') ?_ (k := N) ⟨0, [], sF, none, 0, rfl, by omega, rfl, hnS.symm, fun w => by have := hN8 w; simp; omega, q14, g14, OwS.none, fun i r => absurd r Blk.none, (X12.trans (exP x13)).trans (exP x14)⟩
      rintro kk e h' ⟨j, l, s', la, lc, rfl, hj, rfl, hl, h8', q', g', ol, bl, X'⟩
      have z' := X'.next
      obtain ⟨_, a', c', gc', _⟩ := id q'
      have fin : (N ≤ j ∨ s'.2 ≠ 0) → numbersS sN = (l, s') := fun w => by
        rw [← hl]
        rcases w with w | w
        · rw [show N - j = 0 by omega]; rfl
        · exact stick_numbersL _ _ _ w
      have fini : numbersS sN = (l, s') → ∀ (hq : Heap) (b84 : Bool) (kx : Nat → Env → Heap → Prop) (kr : Env → Heap → Prop), hq = h' → W Try.prog (.region [⟨some 94, none, .mov (.t 4)⟩, ⟨some 95, none, .call 50 [.t 94]⟩, ⟨some 96, none, .fa 6 (.t 5)⟩, ⟨none, none, .st 1 (.t 96) (.t 95)⟩] [2, 4, 5]) [(2, ptr h.next), (4, ptr h1.next), (5, ptr h3.next), (6, .int .u32 (N : Int)), (7, .int .u32 (j : Int)), (84, .bool b84)] hq (K3 (fun e h' => ∃ l : Env, e = [(2, ptr h.next), (4, ptr h1.next), (5, ptr h3.next)] ++ l ∧ Sw h8 h' h1.next h3.next h.next (⟨4, t, han, nm, [], (numbersS sN).1, (numberS (numbersS sN).2).1, 0⟩, (numberS (numbersS sN).2).2)) kx kr) := fun hf hq b84 kx kr e => by
        subst e
        rw [hf]
        refine K_last (Wops_run rfl rfl (Wops_call rfl (C50 q') ?_))
        rintro _ h15 ⟨q15, x15, rfl⟩
        have z15 := x15.next
        have g15 := g'.ext x15 (by omega)
        refine Wops_run rfl rfl (Wops_st (l := [.int .u64 ((numberS s').1 : Int)]) rfl rfl rfl rfl g15 (by simp [RqV]) rfl fun h16 n16 x16 g16 => K_finL [(2, _), (4, _), (5, _)] rfl ?_)
        exact ⟨[], rfl, none, 0, la, lc, q15.ext x16 (by omega) (fun i r => by omega), g16, (X'.trans (exP x15)).trans (exQ x16), OwS.none, (ol.ext x15 (fun i r => by have := bl i r; omega)).ext x16 (fun i r => by have := bl i r; omega), fun i r => absurd r Blk.none, bl⟩
      refine K_ss (K_reg (Wops_run rfl rfl (Wops_run rfl rfl ?_)))
      by_cases hjN : j < N
      case neg =>
        refine Wops_as (w := .bool false) rfl rfl (by rw [decide_eq_false (by omega)]) ?_
        (repeat (first | refine Wops_skip rfl ?_ | refine Wops_run rfl rfl ?_))
        refine K_fin [(2, _), (4, _), (5, _), (6, _), (7, _), (84, _)] rfl (K_scond rfl (fun hc => by cases hc) (fun _ => K_sexit (bx_same ?_)))
        exact fini (fin (.inl (by omega))) h' _ _ _ rfl
      refine Wops_as (w := .bool true) rfl rfl (by rw [decide_eq_true (by omega)]) (Wops_run rfl rfl (Wops_go rfl (Wops_run rfl rfl (Wops_go rfl (Wops_run rfl rfl (Wops_go rfl (Wops_run rfl rfl (Wops_go rfl (Wops_ld (v := .int .i64 s'.2) rfl gc' rfl (Wops_go rfl ?_))))))))))
      by_cases h0 : s'.2 = 0
      case neg =>
        refine Wops_as (w := .bool false) rfl rfl (by simp [h0]) (Wops_run rfl rfl (K_fin [(2, _), (4, _), (5, _), (6, _), (7, _), (84, _)] rfl (?_)))
        refine K_scond rfl (fun hc => by cases hc) (fun _ => K_sexit (bx_same ?_))
        exact fini (fin (.inr h0)) h' _ _ _ rfl
      refine Wops_as (w := .bool true) rfl rfl (by simp [h0]) (Wops_run rfl rfl (K_fin [(2, _), (4, _), (5, _), (6, _), (7, _), (84, _)] rfl (?_)))
      refine K_scond rfl (fun _ => ?_) (fun hc => by cases hc)
      have h88 := h8' h0
      refine K_sskip (K_sblock ?_)
      refine K_last (Wops_run rfl rfl (Wops_ld (v := .slice la l.length lc) rfl g' rfl (Wops_run rfl rfl (Wops_call rfl (C50 q') ?_))))
      rintro _ h15 ⟨q15, x15, rfl⟩
      have z15 := x15.next
      have g15 := g'.ext x15 (by omega)
      have ol15 := ol.ext x15 (fun i r => by have := bl i r; omega)
      refine Wops_chk rfl rfl g15 (v := .slice la l.length lc) rfl ol.sl.same ?_
      refine Wops_bslice (l := u64s [(numberS s').1]) rfl rfl fun h16 n16 x16 g16 => ?_
      have z16 := x16.next
      refine Wops_app rfl rfl (ol15.ext x16) rfl (OwS.new (n := 1) (c := 1) g16 rfl).sl.first ⟨by omega, by omega⟩ rfl rfl (by decide) fun h17 a17 c17 x17 o17 b17 => ?_
      have z17 := x17.next
      have b17' : ∀ i, Blk a17 i → h8.next ≤ i := fun i r => (b17 i r).elim (bl i) fun r => by omega
      have g17 := (g15.ext x16).ext x17 (fun r => by have := bl _ r; omega)
      refine Wops_run rfl rfl (Wops_st (l := [.slice a17 (l.length + 1) c17]) rfl rfl rfl rfl g17 (by simp [RqV]) rfl fun h18 n18 x18 g18 => K_finL [(2, _), (4, _), (5, _), (6, _), (7, _)] rfl (?_))
      have z18 := x18.next
      refine K_last (Wops_run rfl rfl (Wops_as (w := .int .u32 ((j + 1 : Nat) : Int)) rfl rfl (by rw [show (j : Int) + 1 = ((j + 1 : Nat) : Int) by omega, wr32m, Nat.mod_eq_of_lt (by omega)]) (Wops_run rfl rfl (K_finL [(2, _), (4, _), (5, _), (6, _), (7, _)] rfl (?_)))))
      have hll : (l ++ [(numberS s').1]).length = l.length + 1 := by simp
      have q18 : Cu h18 h1.next h.next (numberS s').2 [] := ((q15.ext0 x16).ext x17 (fun r => by have := bl _ r; omega) (fun i r => by have := bl i r; omega)).ext x18 (by omega) (fun i r => by omega)
      refine ⟨N - (j + 1), by omega, j + 1, l ++ [(numberS s').1], (numberS s').2, a17, c17, rfl, by omega, rfl, ?_, fun _ => by rw [hll]; omega, q18, by rw [hll]; exact g18, ?_, b17', (((X'.trans (exP x15)).then0 x16).then x17 fun i r => .inr (bl i r)).trans (exQ x18)⟩
      · rw [← hl]
        obtain ⟨u, hu⟩ : ∃ u, N - j = u + 1 := ⟨N - j - 1, by omega⟩
        rw [hu, show N - (j + 1) = u by omega]
        conv => rhs; unfold numbersL
        rw [if_neg (fun w => w h0)]
      · rw [hll, u64s, List.map_append]; exact o17.ext x18 fun i r => by have := b17' i r; omega
    refine K_reg (Wops_as (w := .bool false) rfl rfl (by simp; omega) (Wops_run rfl rfl (K_fin [(2, _), (4, _), (5, _), (36, _), (61, _)] rfl (?_))))
    refine K_cond rfl (fun hc => by cases hc) (fun _ => ?_)
    by_cases e5 : k = 5
    · subst e5
      refine K_reg (Wops_as (w := .bool true) rfl rfl rfl (Wops_run rfl rfl (K_fin [(2, _), (4, _), (5, _), (36, _), (97, _)] rfl (?_))))
      refine K_cond rfl (fun _ => ?_) (fun hc => by cases hc)
      refine K_last (Wops_run rfl rfl (Wops_call rfl (C50 q8) ?_))
      rintro _ h9 ⟨q9, x9, rfl⟩
      have z9 := x9.next
      have g9 := g8.ext x9 (by omega)
      refine Wops_run rfl rfl (Wops_st (l := [.int .u64 ((numberS s).1 : Int)]) rfl rfl rfl rfl g9 (by simp [RqV]) rfl fun h10 n10 x10 g10 => K_finL [(2, _), (4, _), (5, _)] rfl ?_)
      exact ⟨[], rfl, none, 0, none, 0, q9.ext x10 (by omega) (fun i r => by omega), g10, (exP x9).trans (exQ x10), OwS.none, OwS.none, fun i r => absurd r Blk.none, fun i r => absurd r Blk.none⟩
    refine K_reg (Wops_as (w := .bool false) rfl rfl (by simp; omega) (Wops_run rfl rfl (K_fin [(2, _), (4, _), (5, _), (36, _), (97, _)] rfl (?_))))
    refine K_cond rfl (fun hc => by cases hc) (fun _ => ?_)
    by_cases e6 : k = 6
    · subst e6
      refine K_reg (Wops_as (w := .bool true) rfl rfl rfl (Wops_run rfl rfl (K_fin [(2, _), (4, _), (5, _), (102, _)] rfl (?_))))
      refine K_cond rfl (fun _ => ?_) (fun hc => by cases hc)
      refine K_last (Wops_run rfl rfl (Wops_call rfl (C48 q8) ?_))
      rintro _ h9 ⟨q9, x9, rfl⟩
      have z9 := x9.next
      have g9 := g8.ext x9 (by omega)
      refine Wops_run rfl rfl (Wops_st (l := [.int .u64 ((fixedS 8 s).1 : Int)]) rfl rfl rfl rfl g9 (by simp [RqV]) rfl fun h10 n10 x10 g10 => K_finL [(2, _), (4, _), (5, _)] rfl ?_)
      exact ⟨[], rfl, none, 0, none, 0, q9.ext x10 (by omega) (fun i r => by omega), g10, (exP x9).trans (exQ x10), OwS.none, OwS.none, fun i r => absurd r Blk.none, fun i r => absurd r Blk.none⟩
    refine K_reg (Wops_as (w := .bool false) rfl rfl (by simp; omega) (Wops_run rfl rfl (K_fin [(2, _), (4, _), (5, _), (102, _)] rfl (?_))))
    refine K_cond rfl (fun hc => by cases hc) (fun _ => ?_)
    have hbk : bodyS k t s = (⟨k, t, 0, [], [], [], 0, 0⟩, s) := by
      unfold bodyS
      split <;> first | omega | rfl
    rw [hbk]
    exact K_skip ⟨[_], rfl, none, 0, none, 0, q8, g8, Ext.refl _ _, OwS.none, OwS.none, fun i r => absurd r Blk.none, fun i r => absurd r Blk.none⟩
  rintro _ h9 ⟨l9, rfl, ba, bc, aa, ac, q9, g9, x9, ob, oa, bb, bba⟩
  generalize bodyS k t s = R at q9 g9 ob oa ⊢
  have z9 := x9.next
  have gr9 := gr8.ext x9 (by omega)
  refine K_reg (Wops_run rfl rfl (Wops_call rfl (C53 q9) ?_))
  rintro _ h10 ⟨q10, x10⟩
  have z10 := x10.next
  refine K_fin [(2, _), (4, _), (5, _)] rfl (?_)
  obtain ⟨_, a10, c10, gc10, _⟩ := id q10
  have g10 := g9.ext x10 (by omega)
  have gr10 := gr9.ext x10 (by omega)
  have ob10 := ob.ext x10 (fun i r => by have := bb i r; omega)
  have oa10 := oa.ext x10 (fun i r => by have := bba i r; omega)
  have X : Ext0 h h10 := (x08.then x9 fun i r => .inr (by omega)).then x10 fun i r => .inr (by omega)
  refine K_ss (K_reg (Wops_run rfl rfl (Wops_run rfl rfl (Wops_run rfl rfl (Wops_ld (v := .int .i64 (endS R.2).2) rfl gc10 rfl ?_)))))
  by_cases h0 : (endS R.2).2 = 0
  · rw [if_neg (fun w => w h0)]
    refine Wops_as (w := .bool false) rfl rfl (by simp [h0]) (K_fin [(2, _), (4, _), (5, _), (113, _)] rfl (?_))
    refine K_scond rfl (fun hc => by cases hc) (fun _ => ?_)
    refine K_sskip (K_reg (Wops_ldA (l := RqV R.1 ba R.1.body.length bc aa R.1.args.length ac) rfl g10 (by simp [RqV]) rfl ?_))
    refine Wops_st (l := RqV R.1 ba R.1.body.length bc aa R.1.args.length ac) rfl rfl rfl rfl gr10 (by simp [RqV]) (by simp [RqV, isCell]) fun h11 n11 x11 g11 => ?_
    refine Wops_run rfl rfl (K_fin [(2, _), (3, _)] rfl (?_))
    exact K_ret (Told.mk _ (resL_cons (res_c (l := RqV R.1 ba R.1.body.length bc aa R.1.args.length ac) rfl g11 (by simp [putL_length, RqV]) (by rfl)) (resL_cons rfl rfl)) ⟨X.then x11 fun i r => .inr (by omega), ba, bc, aa, ac, rfl, ob10.ext x11 (fun i r => by have := bb i r; omega), oa10.ext x11 (fun i r => by have := bba i r; omega), fun i r => by have := bb i r; omega, fun i r => by have := bba i r; omega⟩)
  · rw [if_pos h0]
    refine Wops_as (w := .bool true) rfl rfl (by simp [h0]) (K_fin [(2, _), (4, _), (5, _), (113, _)] rfl (?_))
    refine K_scond rfl (fun _ => ?_) (fun hc => by cases hc)
    refine K_ss (K_reg (Wops_run rfl rfl (Wops_run rfl rfl (Wops_run rfl rfl (Wops_run rfl rfl (Wops_ld (v := .int .i64 (endS R.2).2) rfl gc10 rfl ?_))))))
    refine Wops_st (l := RqV Rq.zero none 0 0 none 0 0) rfl rfl rfl rfl gr10 (by simp [RqV]) (by simp [RqV, isCell]) fun h11 n11 x11 g11 => ?_
    have gc11 := gc10.ext x11 (by omega)
    refine Wops_chk rfl rfl gc11 (v := .int .i64 (endS R.2).2) rfl (sameI _ _) ?_
    refine Wops_run rfl rfl (K_fin [(2, _), (3, _)] rfl (?_))
    exact K_sret (Told.mk _ (resL_cons (res_c (l := RqV Rq.zero none 0 0 none 0 0) rfl g11 (by simp [putL_length, RqV]) (by rfl)) (resL_cons rfl rfl)) ⟨X.then x11 fun i r => .inr (by omega), none, 0, none, 0, rfl, OwS.none, OwS.none, fun i r => absurd r Blk.none, fun i r => absurd r Blk.none⟩)

end
section
/- Sessions: the document's PutReply; telling, what was told, nil ones. -/
set_option linter.unusedVariables false
set_option linter.unusedSimpArgs false

section
variable {d : Option Nat} {r : List SOp} {e : Env} {h : Heap} {Q : Env → Heap → Prop}
/-- A text made of a slice is the same still; an empty one, too. -/
theorem Wops_chkT {n c t : Nat} {x : Arg} {a : Option Addr} {xs : List Int} (hx : x.ev e = some (.slice a n c)) (s : SlA h 1 a n c (ints .u8 xs)) (ht : e.get t = some (.string ⟨⟨bytesOf xs⟩⟩)) (hq : Wops Try.prog r (e.put d undefV) h Q) :
    Wops Try.prog (⟨d, none, .chkS x t⟩ :: r) e h Q := by
  by_cases hn : 0 < n
  · exact Wops_chkS hx s hn ht hq
  · obtain rfl : n = 0 := by omega
    have hl : xs = [] := by
      have := s.len
      simp only [Nat.zero_mul, List.length_map] at this
      exact List.eq_nil_of_length_eq_zero this
    subst hl
    refine Wops_run (v := undefV) (h' := h) rfl ?_ hq
    cases a with
    | none =>
      simp only [SO.run, hx, ht]
      rfl
    | some p =>
      obtain ⟨id, off, sp⟩ := p
      obtain rfl : sp = none := s.spot _ rfl
      simp only [SO.run, hx, ht]
      rfl
end

/-- the document's PutReply -/
theorem C74 {h : Heap} {a : Option Addr} {n c : Nat} {r : Rp} (s : SlA h 1 a n c (u64s r.vs)) (hn : n ≤ 12) (ht : r.tok < 18446744073709551616) (he : r.err < 256) (hh : r.han < 18446744073709551616) (hv : ∀ v ∈ r.vs, v < 18446744073709551616) :
    Fn Try.prog 74 [.agg ⟨RpV r a n c⟩] h fun v h' => ∃ a' c', v = .slice a' (encR r).length c' ∧ OwS h' 1 a' (encR r).length c' (bys (encR r)) ∧ Ext0 h h' ∧ ∀ i, Blk a' i → h.next ≤ i := by
  have hl : r.vs.length = n := by simpa using s.len
  refine fnK F74.fok rfl ?_
  refine K_reg (Wops_box (cs := RpV r a n c) rfl rfl fun h1 n1 x1 g1 => Wops_run rfl rfl (K_fin [(1, _)] rfl (?_)))
  refine K_reg (Wops_run rfl rfl (Wops_ld (v := .int .u64 (r.tok : Int)) rfl g1 rfl (Wops_run rfl rfl (Wops_ld (v := .int .i64 (r.err : Int)) rfl g1 rfl (Wops_as (w := .int .u8 (r.err : Int)) rfl rfl (by rw [wr8m, Nat.mod_eq_of_lt he]) (Wops_bslice (l := bys [r.err]) rfl rfl fun h2 n2 x2 g2 => ?_))))))
  have g12 : At h2 h.next (.cells (RpV r a n c) 0 false) := At.ext g1 x2
  refine Wops_run rfl rfl (Wops_ld (v := .int .u64 (r.han : Int)) rfl g12 rfl (Wops_call rfl (C57 (n := 0) (xs := []) SlA.none (by decide) ht) ?_))
  rintro _ h3 ⟨a3, c3, rfl, o3, x3, b3⟩
  have g13 : At h3 h.next (.cells (RpV r a n c) 0 false) := g12.ext x3
  have g23 : At h3 h1.next (.cells (bys [r.err]) 1 false) := At.ext g2 x3
  refine Wops_chk rfl rfl g13 (v := .int .i64 (r.err : Int)) rfl (sameI _ _) (Wops_chk rfl rfl g13 (v := .int .u64 (r.han : Int)) rfl (sameI _ _) ?_)
  refine Wops_app rfl rfl o3 rfl (OwS.new (n := 1) (c := 1) g23 rfl).sl.first ⟨by omega, by omega⟩ rfl rfl (by decide) fun h4 a4 c4 x4 o4 b4 => ?_
  have z1 := x1.next
  have z2 := x2.next
  have z3 := x3.next
  have z4 := x4.next
  have b3' : ∀ i, Blk a3 i → h.next + 1 ≤ i := fun i q => by have := b3 i q; omega
  have g14 : At h4 h.next (.cells (RpV r a n c) 0 false) := g13.ext x4 fun q => by have := b3' _ q; omega
  refine Wops_chk rfl rfl g14 (v := .int .u64 (r.han : Int)) rfl (sameI _ _) ?_
  have x04 : Ext0 h h4 := ((x1.trans x2).trans x3).then x4 fun i q => .inr (by have := b3' i q; omega)
  have b4' : ∀ i, Blk a4 i → h.next + 1 ≤ i := fun i q => (b4 i q).elim (b3' i) fun q => by omega
  rw [List.nil_append, ← bys_app] at o4
  refine Wops_call rfl (C59 o4.sl (by omega) hh) ?_
  rintro _ h5 ⟨a5, c5, rfl, o5, x5, b5⟩
  have z5 := x5.next
  have g15 := g14.ext x5
  refine Wops_run rfl rfl (K_fin [(1, _), (3, _)] rfl (?_))
  refine K_reg (Wops_run rfl rfl (Wops_run rfl rfl (Wops_ld (v := .slice a n c) rfl g15 rfl (Wops_run rfl rfl (Wops_as (w := .int .u64 (n : Int)) rfl rfl (by rw [wr64m, Nat.mod_eq_of_lt (by omega)]) ?_)))))
  have hs := encU_len 10 r.han (Nat.lt_of_lt_of_le hh (by decide)) (by decide)
  refine Wops_call rfl (C59 o5.sl (by omega) (by omega)) ?_
  rintro _ h7 ⟨a7, c7, rfl, o7, x7, b7⟩
  refine Wops_run rfl rfl (K_fin [(1, _), (3, _)] rfl (?_))
  have z7 := x7.next
  have g17 := g15.ext x7
  have x07 : Ext0 h h7 := (x04.trans x5).trans x7
  have hal := encU_len 10 n (by omega) (by decide)
  refine K_ss (K_reg (Wops_run rfl rfl (K_fin [(1, _), (3, _), (4, _)] rfl (?_))))
  generalize hX : enc8 r.tok ++ [r.err] ++ encU r.han ++ encU n = X at o7
  have hXl : X.length = 0 + 8 + 1 + (encU r.han).length + (encU n).length := by
    rw [← hX]; simp only [List.length_append, enc8_len, List.length_singleton]; try omega
  rw [← hXl] at o7 ⊢
  have hXb : X.length ≤ 100 := by omega
  refine K_sblock ?_
  refine K_loop (fun kk e h' => ∃ (i : Nat) (a' : Option Addr) (c' : Nat), e = [(1, ptr h.next), (3, .slice a' (X.length + (encUs (r.vs.take i)).length) c'), (4, .int .i64 (i : Int))] ∧ i ≤ n ∧ kk = n - i ∧ OwS h' 1 a' (X.length + (encUs (r.vs.take i)).length) c' (bys (X ++ encUs (r.vs.take i))) ∧ Ext0 h h' ∧ (At h' h.next (.cells (RpV r a n c) 0 false)) ∧ ∀ j, Blk a' j → h.next ≤ j) ?_ (k := n)
    ⟨0, a7, c7, rfl, by omega, rfl, by simpa [encUs] using o7, x07, g17, fun j q => by have := b7 j q; omega⟩
  rintro kk e h' ⟨i, a', c', rfl, hi, rfl, o', x', g', b'⟩
  have hlt10 : (encUs (r.vs.take i)).length ≤ 10 * i := by
    have := encUs_len (vs := r.vs.take i) fun v hx => hv v (List.mem_of_mem_take hx)
    rw [List.length_take] at this; omega
  have z' := x'.next
  refine K_ss (K_reg (Wops_run rfl rfl (Wops_run rfl rfl (Wops_ld (v := .slice a n c) rfl g' rfl (Wops_run rfl rfl (Wops_run rfl rfl (K_fin [(1, _), (3, _), (4, _), (26, _)] rfl (?_))))))))
  refine K_scond rfl (fun hc => ?_) (fun hc => ?_)
  · have hlt : i < n := by have := of_decide_eq_true hc; omega
    have hil : i < r.vs.length := by omega
    refine K_sskip (K_sblock ?_)
    refine K_last (Wops_run rfl rfl (Wops_run rfl rfl (Wops_ld (v := .slice a n c) rfl g' rfl (Wops_run rfl rfl (Wops_idx (u := .int .u64 ((r.vs[i] : Nat) : Int)) rfl rfl (s.ext x') ⟨by omega, by omega⟩ (by simp [u64s, hil]) fun _ => ?_)))))
    refine Wops_call rfl (C59 o'.sl (by omega) (hv _ (List.getElem_mem _))) ?_
    rintro _ h8 ⟨a8, c8, rfl, o8, x8, b8⟩
    refine Wops_run rfl rfl (K_finL [(1, _), (3, _), (4, _)] rfl (?_))
    refine K_last (Wops_run rfl rfl (Wops_run rfl rfl (Wops_run rfl rfl (K_finL [(1, _), (3, _), (4, _)] rfl (?_)))))
    have hst : encUs (r.vs.take (i + 1)) = encUs (r.vs.take i) ++ encU r.vs[i] := by
      unfold encUs
      rw [List.take_add_one, List.getElem?_eq_getElem hil, Option.toList_some, List.flatMap_append]
      simp
    refine ⟨n - (i + 1), by omega, i + 1, a8, c8, by rw [w64s (by omega), hst, List.length_append, Nat.add_assoc], by omega, rfl, ?_, x'.trans x8, g'.ext x8, fun j q => by have := b8 j q; omega⟩
    rw [hst, List.length_append, ← Nat.add_assoc, ← List.append_assoc]; exact o8
  · have hin : i = n := by have := of_decide_eq_false hc; omega
    have hall : r.vs.take i = r.vs := List.take_of_length_le (by omega)
    rw [hall] at o' hlt10 ⊢
    refine K_sexit (bx_same ?_)
    refine K_reg (Wops_run rfl rfl (Wops_run rfl rfl (K_fin [(2, _)] rfl (?_))))
    have hq4 : encR r = X ++ encUs r.vs := by
      rw [← hX]; simp only [encR, encL, hl, List.append_assoc]
    have hl4 : (encR r).length = X.length + (encUs r.vs).length := by rw [hq4, List.length_append]
    refine K_ret (Told.mk _ rfl ⟨a', c', by rw [hl4]; rfl, ?_, x', b'⟩)
    rw [hl4, hq4]; exact o'

/-- A frame of a reply. -/
def ci (xs : List Nat) : List Int := xs.map fun (x : Nat) => (x : Int)
theorem ints_ci (xs : List Nat) : ints .u8 (ci xs) = bys xs := by simp [ints, ci, bys]
theorem ci_len (xs : List Nat) : (ci xs).length = xs.length := by simp [ci]
def frR (r : Rp) : List Int := putF (ci (encR r))
def tld (r : Rp) (k : Nat) : List Int := (List.replicate k (frR r)).flatten
theorem tld_snoc (r : Rp) (k : Nat) : tld r (k + 1) = tld r k ++ frR r := by
  unfold tld
  rw [List.replicate_succ', List.flatten_append]; simp
/-- A reply as it is handed in. -/
structure Rp.In (h : Heap) (r : Rp) (a : Option Addr) (n c : Nat) : Prop where
  s : SlA h 1 a n c (u64s r.vs)
  n : n ≤ 12
  t : r.tok < 18446744073709551616
  e : r.err < 256
  h : r.han < 18446744073709551616
  v : ∀ v ∈ r.vs, v < 18446744073709551616
theorem Rp.In.ext {h h' : Heap} {r : Rp} {a : Option Addr} {n c : Nat} {T : Nat → Prop} (k : r.In h a n c) (x : Ext T h h') (d : ∀ i, Blk a i → ¬ T i) : r.In h' a n c := ⟨k.s.ext x d, k.n, k.t, k.e, k.h, k.v⟩
theorem Rp.In.len {h : Heap} {r : Rp} {a : Option Addr} {n c : Nat} (k : r.In h a n c) : (encR r).length ≤ 200 := by
  have hl : r.vs.length = n := by simpa using k.s.len
  have hn := k.n
  have h1 := encU_len 10 r.han (Nat.lt_of_lt_of_le k.h (by decide)) (by decide)
  have h2 := encU_len 10 r.vs.length (by omega) (by decide)
  have h3 := encUs_len k.v
  unfold encR encL
  simp only [List.length_append, enc8_len, List.length_singleton]
  omega
theorem frR_len {h : Heap} {r : Rp} {a : Option Addr} {n c : Nat} (k : r.In h a n c) : (frR r).length ≤ 202 := by
  have := k.len
  unfold frR; rw [putF_length, ci_len]; omega
theorem tld_len {h : Heap} {r : Rp} {a : Option Addr} {n c : Nat} (k : r.In h a n c) : ∀ m, (tld r m).length ≤ m * 202
  | 0 => by simp [tld]
  | m + 1 => by
    have := tld_len k m
    have := frR_len k
    rw [tld_snoc, List.length_append]; omega

/-- Tell -/
theorem C32 {h : Heap} {p no co : Nat} {w0 w1 w2 : Value} {ao : Option Addr} {O : List Int} {a : Option Addr} {n c : Nat} {r : Rp} {times : Int} (g : At h p (.cells [w0, w1, w2, .slice ao no co] 0 false)) (o : OwS h 1 ao no co (ints .u8 O)) (hp : ¬ Blk ao p)
    (k : r.In h a n c) (d : ∀ i, Blk a i → i ≠ p ∧ ¬ Blk ao i) (hno : no ≤ 100000) (htm : times ≤ 20) :
    Fn Try.prog 32 [ptr p, .agg ⟨RpV r a n c⟩, .int .i64 times] h fun v h' => ∃ ao' no' co', At h' p (.cells [w0, w1, w2, .slice ao' no' co'] 0 false) ∧ OwS h' 1 ao' no' co' (ints .u8 (O ++ tld r times.toNat)) ∧ Ext (fun i => i = p ∨ Blk ao i) h h' ∧ ∀ i, Blk ao' i → Blk ao i ∨ h.next ≤ i := by
  have hol : O.length = no := by simpa using o.sl.len
  have hlt := g.lt
  refine fnK F32.fok rfl ?_
  refine K_reg (Wops_box (cs := RpV r a n c) rfl rfl fun h1 n1 x1 g1 => K_fin [(0, _), (2, _), (4, _)] rfl (?_))
  have z1 := x1.next
  refine K_block ?_
  refine K_loop (fun kk e h' => ∃ (i : Nat) (tm : Int) (ao' : Option Addr) (no' co' : Nat), e = [(0, ptr p), (2, .int .i64 tm), (4, ptr h.next)] ∧ kk = tm.toNat ∧ tm ≤ 20 ∧ i + tm.toNat = times.toNat ∧ i ≤ 20 ∧ At h' p (.cells [w0, w1, w2, .slice ao' no' co'] 0 false) ∧ OwS h' 1 ao' no' co' (ints .u8 (O ++ tld r i)) ∧
      Ext (fun i => i = p ∨ Blk ao i) h h' ∧ (∀ i, Blk ao' i → Blk ao i ∨ h.next < i) ∧ At h' h.next (.cells (RpV r a n c) 0 false)) ?_ (k := times.toNat)
    ⟨0, times, ao, no, co, rfl, rfl, htm, by omega, by omega, g.ext x1, by simpa [tld] using o.ext x1, x1.mono fun i _ q => q.elim, fun i q => .inl q, g1⟩
  rintro kk e h' ⟨i, tm, ao', no', co', rfl, rfl, ht2, hit, hi20, g', o', x', b', gr⟩
  have z' := x'.next
  have hol' : (O ++ tld r i).length = no' := by simpa using o'.sl.len
  have htl := tld_len k i
  have hfr := frR_len k
  have hpo : ¬ Blk ao' p := fun q => (b' p q).elim hp fun q => by omega
  have hro : ¬ Blk ao' h.next := fun q => (b' _ q).elim (fun q => by have := o.lt q; omega) fun q => by omega
  rw [List.length_append] at hol'
  refine K_ss (K_reg (Wops_run rfl rfl (Wops_as (w := .bool true) rfl rfl rfl (Wops_run rfl rfl (Wops_go rfl (Wops_run rfl rfl (Wops_go rfl ?_)))))))
  by_cases h0 : 0 < tm
  · refine Wops_as (w := .bool true) rfl rfl (by rw [decide_eq_true (by omega)]) (Wops_run rfl rfl (K_fin [(0, _), (2, _), (4, _), (11, _)] rfl (?_)))
    refine K_scond rfl (fun _ => ?_) (fun hc => by cases hc)
    refine K_sskip (K_sblock ?_)
    refine K_last (Wops_run rfl rfl (Wops_run rfl rfl (Wops_run rfl rfl (Wops_run rfl rfl (Wops_ld (v := .slice ao' no' co') rfl g' rfl (Wops_ldA (l := RpV r a n c) rfl gr (by simp [RpV]) rfl ?_))))))
    have k' : r.In h' a n c := k.ext x' fun j q w => (d j q).elim fun d1 d2 => w.elim d1 d2
    refine Wops_call rfl (C24 k'.s k'.n k'.t k'.e k'.h k'.v) ?_
    rintro _ h2 ⟨a2, c2, rfl, o2, x2, b2⟩
    have z2 := x2.next
    have hel := k.len
    have g2 := g'.ext x2
    refine Wops_chk rfl rfl g2 (v := .slice ao' no' co') rfl o'.sl.same ?_
    rw [← ints_ci] at o2
    refine Wops_call rfl (C71 o2.sl (by omega)) ?_
    rintro _ h3 ⟨a3, c3, rfl, o3, x3, b3⟩
    have z3 := x3.next
    have g3 := g2.ext x3
    refine Wops_chk rfl rfl g3 (v := .slice ao' no' co') rfl o'.sl.same ?_
    have o3' := (o'.ext x2).ext x3
    refine Wops_app rfl rfl o3' rfl o3.sl.first ⟨by omega, by omega⟩ (by rw [List.length_map, putF_length, ci_len]; omega) (ints_cell _ _) (by decide) fun h4 a4 c4 x4 o4 b4 => ?_
    have z4 := x4.next
    have g4 := g3.ext x4 hpo
    refine Wops_run rfl rfl (Wops_run rfl rfl (Wops_st (l := [.slice a4 (no' + (2 + (encR r).length)) c4]) rfl rfl rfl rfl g4 (by simp) rfl fun h5 n5 x5 g5 => ?_))
    have z5 := x5.next
    refine K_finL [(0, _), (2, _), (4, _)] rfl (?_)
    refine K_last (Wops_run rfl rfl (Wops_as (w := .int .i64 (tm - 1)) rfl rfl (by rw [w64 (by omega)]) (Wops_run rfl rfl (K_finL [(0, _), (2, _), (4, _)] rfl (?_)))))
    have b4' : ∀ j, Blk a4 j → Blk ao j ∨ h.next < j := fun j q => (b4 j q).elim (b' j) fun q => .inr (by have := gr.lt; omega)
    have hp4 : ¬ Blk a4 p := fun q => (b4' p q).elim hp fun q => by omega
    refine ⟨(tm - 1).toNat, by omega, i + 1, tm - 1, a4, no' + (2 + (encR r).length), c4, rfl, rfl, by omega, by omega, by omega, g5, ?_, ?_, b4', ?_⟩
    · rw [tld_snoc, ← List.append_assoc]
      have := o4.ext x5 fun j q w => hp4 (by rw [← w]; exact q)
      simpa [ints, frR] using this
    · refine (((x'.then0 x2).then0 x3).then x4 fun j q => ?_).then x5 fun j q => .inl (.inl q)
      exact (b' j q).elim (fun q => .inl (.inr q)) fun q => .inr (by omega)
    · exact (((gr.ext x2).ext x3).ext x4 hro).ext x5 fun q => by omega
  · refine Wops_as (w := .bool false) rfl rfl (by rw [decide_eq_false (by omega)]) (Wops_run rfl rfl (K_fin [(0, _), (2, _), (4, _), (11, _)] rfl (?_)))
    refine K_scond rfl (fun hc => by cases hc) (fun _ => ?_)
    refine K_sexit (bx_same (Told.mk [] rfl ?_))
    have : i = times.toNat := by omega
    rw [← this]
    exact ⟨ao', no', co', g', o', x', fun j q => (b' j q).imp id fun q => by omega⟩

end
section
/- Sessions: the document's Add, in a session. -/
set_option linter.unusedVariables false
set_option linter.unusedSimpArgs false

/-- The document's pieces, in a session. -/
def PtR (M : Nat → Prop) (h : Heap) (p : Nat) (R : List Value) (bs : List Int) (bad : Bool) : Prop :=
  M p ∧ ∃ a n c, At h p (.cells (.slice a n c :: .bool bad :: R) 0 false) ∧ SlA h 1 a n c (ints .u8 bs) ∧ ∀ i, Blk a i → ¬ M i ∧ i < h.next
theorem PtR.ext {M T : Nat → Prop} {h h' : Heap} {p : Nat} {R : List Value} {bs : List Int} {bad : Bool} (q : PtR M h p R bs bad) (x : Ext T h h') (hp : ¬ T p) (hT : ∀ i, T i → M i ∨ h.next ≤ i) : PtR M h' p R bs bad := by
  obtain ⟨m, a, n, c, h1, h2, h3⟩ := q
  exact ⟨m, a, n, c, h1.ext x hp, h2.ext x (fun i r t => (hT i t).elim (h3 i r).1 fun w => by have := (h3 i r).2; omega), fun i r => ⟨(h3 i r).1, Nat.lt_of_lt_of_le (h3 i r).2 x.next⟩⟩
theorem PtR.ext0 {M : Nat → Prop} {h h' : Heap} {p : Nat} {R : List Value} {bs : List Int} {bad : Bool} (q : PtR M h p R bs bad) (x : Ext0 h h') : PtR M h' p R bs bad := q.ext x (fun r => r) (fun _ r => r.elim)
theorem PtR.swap {M M' : Nat → Prop} {h : Heap} {p : Nat} {R : List Value} {bs : List Int} {bad : Bool} (q : PtR M h p R bs bad) (hs : ∀ i, M' i → M i ∨ h.next ≤ i) (mp : M' p) : PtR M' h p R bs bad := by
  obtain ⟨m, a, n, c, h1, h2, h3⟩ := q
  exact ⟨mp, a, n, c, h1, h2, fun i r => ⟨fun t => (hs i t).elim (h3 i r).1 fun u => by have := (h3 i r).2; omega, (h3 i r).2⟩⟩
theorem PtR.lt {M : Nat → Prop} {h : Heap} {p : Nat} {R : List Value} {bs : List Int} {bad : Bool} (q : PtR M h p R bs bad) : p < h.next := by
  obtain ⟨m, a, n, c, h1, h2, h3⟩ := q
  exact h1.lt

structure FrT (M : Nat → Prop) (R : List Value) (h h' : Heap) (p : Nat) (cur : List Int) (fs : List (List Int)) (af : Option Addr) (nf cf : Nat) (vs : List Value) (k n0 : Nat) : Prop where
  pl : p < h.next
  x : Ext (· = p) h h'
  q : PtR (fun i => M i ∨ Blk af i) h' p R cur false
  w : Byte cur
  le : cur.length ≤ k
  nk : nf + k ≤ n0
  o : OwS h' 1 af nf cf vs
  b : Bys h' .u8 (Fs h h' af) vs fs
  nw : ∀ i, Blk af i → h.next ≤ i

theorem FrT.push {M : Nat → Prop} {R : List Value} {h h' h2 h3 h6 h7 : Heap} {p nf cf k k' n0 n1 c1 c3 n6 c6 : Nat} {cur rest f : List Int} {fs : List (List Int)} {af a1 a3 a6 : Option Addr} {vs : List Value} (hM : ∀ i, M i → i < h.next) (t : FrT M R h h' p cur fs af nf cf vs k n0)
    (x2 : Ext0 h' h2) (o1 : OwS h2 1 a1 n1 c1 (ints .u8 f)) (d1 : ∀ i, Blk a1 i → h'.next ≤ i) (x3 : Ext (Blk af) h2 h3) (o3 : OwS h3 1 a3 (nf + 1) c3 (vs ++ [.slice a1 n1 c1])) (b3 : ∀ i, Blk a3 i → Blk af i ∨ h2.next ≤ i)
    (x6 : Ext0 h3 h6) (o6 : SlA h6 1 a6 n6 c6 (ints .u8 rest)) (d6 : ∀ i, Blk a6 i → h3.next ≤ i ∧ i < h6.next) (x7 : Ext (· = p) h6 h7) (g7 : At h7 p (.cells (.slice a6 n6 c6 :: .bool false :: R) 0 false)) (wr : Byte rest)
    (hk : rest.length ≤ k') (hk2 : k' + 1 ≤ k) : FrT M R h h7 p rest (fs ++ [f]) a3 (nf + 1) c3 (vs ++ [.slice a1 n1 c1]) k' n0 := by
  have hp : ¬ Blk af p := fun r => by have := t.nw p r; have := t.pl; omega
  have e1 := t.x.next
  have e2 := x2.next
  have e3 := x3.next
  have e6 := x6.next
  have e7 := x7.next
  have hpl := t.pl
  have l1 : ∀ i, Blk a1 i → i < h2.next := fun i r => o1.lt r
  have laf : ∀ i, Blk af i → i < h'.next := fun i r => t.o.lt r
  have l3 : ∀ i, Blk a3 i → i < h3.next := fun i r => o3.lt r
  have n3 : ∀ i, Blk a3 i → h.next ≤ i := fun i r => (b3 i r).elim (t.nw i) fun r => by omega
  refine ⟨t.pl, ((t.x.trans x2.of0).then x3 fun i r => .inr (t.nw i r)).trans (x6.of0.trans x7), ?_, wr, hk, by have := t.nk; omega, (o3.ext x6).ext x7 (fun i r e => by have := n3 i r; omega), ?_, n3⟩
  · refine ⟨t.q.1.elim .inl fun r => absurd r hp, a6, n6, c6, g7, o6.ext x7 (fun i r e => by have := (d6 i r).1; omega), fun i r => ⟨fun s => ?_, by have := (d6 i r).2; omega⟩⟩
    have := (d6 i r).1
    rcases s with s | s
    · have := hM i s; omega
    · have := l3 i s; omega
  · have hb : Bys h3 .u8 (Fs h h3 a3) (vs ++ [.slice a1 n1 c1]) (fs ++ [f]) := by
      refine Bys.append ?_ (Bys.one ((o1.ext x3 fun i r s => by have := d1 i r; have := laf i s; omega).sl) fun i r => ⟨by have := d1 i r; omega, by have := l1 i r; omega, fun s => ?_⟩)
      · refine ((t.b.ext x2 fun i _ e => e).ext x3 fun i r => r.2.2).mono fun i r => ⟨r.1, by have := r.2.1; omega, fun s => ?_⟩
        exact (b3 i s).elim r.2.2 fun u => by have := r.2.1; omega
      · rcases b3 i s with u | u
        · have := d1 i r; have := laf i u; omega
        · have := l1 i r; omega
    refine ((hb.ext x6 fun i _ e => e).ext x7 fun i r e => ?_).mono fun i r => ⟨r.1, by have := r.2.1; omega, r.2.2⟩
    have := r.1; omega

theorem C73 {M : Nat → Prop} {R : List Value} {h : Heap} {p nb cb : Nat} {ab : Option Addr} {bs ys : List Int} {bad : Bool} (hM : ∀ i, M i → i < h.next) (q : PtR M h p R bs bad) (hw : Byte bs) (sy : SlA h 1 ab nb cb (ints .u8 ys)) (ly : ∀ i, Blk ab i → i < h.next) (hwy : Byte ys)
    (hb : bs.length ≤ 100000) (hb2 : ys.length ≤ 100000) :
    Fn Try.prog 73 [ptr p, .slice ab nb cb] h fun v h' => if bad = true then v = .tuple ⟨[.slice none 0 0, .int .i64 4]⟩ ∧ h = h' else ∃ af nf cf vs,
      v = .tuple ⟨[.slice af nf cf, .int .i64 (if (splitF (bs ++ ys).length (bs ++ ys)).2.2 = true then 4 else 0)]⟩ ∧ OwS h' 1 af nf cf vs ∧ Bys h' .u8 (Fs h h' af) vs (splitF (bs ++ ys).length (bs ++ ys)).1 ∧ (∀ i, Blk af i → h.next ≤ i) ∧
      PtR M h' p R (splitF (bs ++ ys).length (bs ++ ys)).2.1 (splitF (bs ++ ys).length (bs ++ ys)).2.2 ∧ Ext (· = p) h h' := by
  obtain ⟨mp, a, n, c, g, s, ha⟩ := id q
  have hlt := g.lt
  have hbn : bs.length = n := by simpa using s.len
  have hyn : ys.length = nb := by simpa using sy.len
  refine fnK F73.fok rfl ?_
  refine K_reg (Wops_run rfl rfl (Wops_run rfl rfl (K_fin [(0, _), (1, _)] rfl (?_))))
  refine K_ss (K_reg (Wops_run rfl rfl (Wops_run rfl rfl (Wops_run rfl rfl (Wops_ld rfl g (by rfl) ?_)))))
  refine K_fin [(0, _), (1, _), (11, _)] rfl (?_)
  cases bad with
  | true =>
    refine K_scond rfl (fun _ => ?_) (fun hc => by cases hc)
    refine K_ss (K_reg (Wops_run rfl rfl (Wops_run rfl rfl (K_fin [(4, _), (5, _)] rfl (?_)))))
    exact K_sret (Told.mk _ rfl ⟨rfl, rfl⟩)
  | false =>
    refine K_scond rfl (fun hc => by cases hc) (fun _ => ?_)
    refine K_sskip (K_reg (Wops_run rfl rfl (Wops_bslice (l := []) rfl rfl fun h1 n1 x1 g1 => ?_)))
    refine Wops_run rfl rfl (Wops_run rfl rfl (Wops_run rfl rfl (Wops_ld rfl (x1.some0 g) (by rfl) ?_)))
    refine Wops_app rfl rfl (OwS.new (n := 0) g1 rfl) rfl (s.ext x1).first ⟨by omega, by omega⟩ s.len (ints_cell _ _) (by decide) fun h2 a2 c2 x2 o2 b2 => ?_
    have X2 : Ext0 h h2 := x1.then x2 fun i r => .inr (by rw [Blk.at] at r; omega)
    have N2 : ∀ i, Blk a2 i → h.next ≤ i := fun i r => by rcases b2 i r with r | r; (rw [Blk.at] at r; omega); omega
    refine Wops_run rfl rfl (Wops_app rfl rfl o2 rfl (sy.ext X2).first ⟨by omega, by omega⟩ sy.len (ints_cell _ _) (by decide) fun h3 a3 c3 x3 o3 b3 => ?_)
    have X3 : Ext0 h h3 := X2.then x3 fun i r => .inr (N2 i r)
    have N3 : ∀ i, Blk a3 i → h.next ≤ i := fun i r => (b3 i r).elim (N2 i) fun r => Nat.le_trans X2.next r
    refine Wops_run rfl rfl (Wops_run rfl rfl (Wops_st rfl rfl rfl rfl (X3.some0 g) (by simp) rfl fun h4 n4 x4 g4 => ?_))
    refine K_fin [(0, _)] rfl (?_)
    have t0 : FrT M R h h4 p (bs ++ ys) [] none 0 0 [] (bs ++ ys).length (bs ++ ys).length := by
      refine ⟨hlt, X3.of0.then x4 fun i r => .inl r, ⟨.inl mp, a3, _, c3, g4, by simpa [ints] using (o3.ext x4 fun i r e => by have := N3 i r; omega).sl, fun i r => ⟨fun t => ?_, ?_⟩⟩, ?_, Nat.le_refl _, by omega, OwS.none, trivial, fun i r => absurd r Blk.none⟩
      · rcases t with t | t
        · have := hM i t; have := N3 i r; omega
        · exact absurd t Blk.none
      · have := o3.lt r; have := x4.next; omega
      · intro x hx; rcases List.mem_append.1 hx with hx | hx; exact hw x hx; exact hwy x hx
    generalize hN : (bs ++ ys).length = N at *
    have hNb : N ≤ 200000 := by simp at hN; omega
    clear g4 x4 n4 o3 o2
    generalize (bs ++ ys) = all at *
    refine K_reg (Wops_run rfl rfl (K_fin [(0, _), (6, _)] rfl (?_)))
    refine K_sblock ?_
    refine K_loop (fun k e h' => ∃ (cur : List Int) (fs : List (List Int)) (af : Option Addr) (nf cf : Nat) (vs : List Value), e = [(0, ptr p), (6, .slice af nf cf)] ∧ splitF N all = (fs ++ (splitF k cur).1, (splitF k cur).2) ∧ FrT M R h h' p cur fs af nf cf vs k N) ?_ (k := N) ⟨all, [], none, 0, 0, [], rfl, by simp, t0⟩
    clear t0
    rintro k e h' ⟨cur, fs, af, nf, cf, vs, rfl, hsp, t⟩
    have hkN := t.nk
    have hle := t.le
    have fin : ∀ (kn : Kn) (rest : Env), nextF cur = .short → W Try.prog (.seq (.region [⟨some 86, none, .mov (.t 6)⟩, ⟨some 4, none, .mov (.t 86)⟩, ⟨some 5, none, .mov (.c (.int .i64 0))⟩] [4, 5]) .ret) ((0, ptr p) :: (6, .slice af nf cf) :: rest) h' (K3 kn (fun _ _ _ => False) (Told F73.res fun v h' => if false = true then v = .tuple ⟨[.slice none 0 0, .int .i64 4]⟩ ∧ h = h' else ∃ af nf cf vs,
      v = .tuple ⟨[.slice af nf cf, .int .i64 (if (splitF N all).2.2 = true then 4 else 0)]⟩ ∧ OwS h' 1 af nf cf vs ∧ Bys h' .u8 (Fs h h' af) vs (splitF N all).1 ∧ (∀ i, Blk af i → h.next ≤ i) ∧
      PtR M h' p R (splitF N all).2.1 (splitF N all).2.2 ∧ Ext (· = p) h h')) := by
      intro kn rest hx
      rw [splitF_short hx] at hsp
      refine K_reg (Wops_run rfl rfl (Wops_run rfl rfl (Wops_run rfl rfl (K_fin [(4, _), (5, _)] rfl (?_)))))
      refine K_ret (Told.mk _ rfl ?_)
      show if false = true then _ else _
      rw [if_neg (by simp), hsp]
      exact ⟨af, nf, cf, vs, rfl, t.o, by simpa using t.b, t.nw, t.q.swap (fun i r => .inl (.inl r)) mp, t.x⟩
    obtain ⟨_, aq, nq, cq, gq, sq, dq⟩ := id t.q
    have hq : cur.length = nq := by simpa using sq.len
    refine K_ss (K_reg (Wops_run rfl rfl (Wops_run rfl rfl (Wops_run rfl rfl (Wops_ld rfl gq (by rfl) ?_)))))
    refine Wops_run rfl rfl (Wops_run rfl rfl (K_fin [(0, _), (6, _), (28, _)] rfl (?_)))
    refine K_scond rfl (fun hc => ?_) (fun hc => ?_)
    · have h2 : 2 ≤ nq := by have := of_decide_eq_true hc; omega
      obtain ⟨b0, b1, r, rfl⟩ : ∃ b0 b1 r, cur = b0 :: b1 :: r := by
        match cur, hq with
        | [], hq => simp at hq; omega
        | [_], hq => simp at hq; omega
        | b0 :: b1 :: r, _ => exact ⟨b0, b1, r, rfl⟩
      have w0 := t.w b0 (by simp)
      have w1 := t.w b1 (by simp)
      have hr : r.length + 2 = nq := by simpa using hq
      refine K_sskip (K_block ?_)
      refine K_reg (Wops_run rfl rfl (Wops_run rfl rfl (Wops_run rfl rfl (Wops_ld rfl gq (by rfl) ?_))))
      refine Wops_idx (u := .int .u8 b0) rfl rfl sq ⟨by omega, by omega⟩ (by simp) fun _ => ?_
      refine Wops_as (w := .int .i64 b0) rfl rfl (by rw [w64 (by omega)]) (Wops_as (w := .int .i64 (b0 * 256)) rfl rfl (by rw [w64 (by omega)]) ?_)
      refine Wops_run rfl rfl (Wops_run rfl rfl (Wops_run rfl rfl (Wops_ld rfl gq (by rfl) ?_)))
      refine Wops_idx (u := .int .u8 b1) rfl rfl sq ⟨by omega, by omega⟩ (by simp) fun _ => ?_
      refine Wops_as (w := .int .i64 b1) rfl rfl (by rw [w64 (by omega)]) (Wops_as (w := .int .i64 (b0 * 256 + b1)) rfl rfl (by rw [w64 (by omega)]) ?_)
      refine Wops_run rfl rfl (K_fin [(0, _), (6, _), (7, _)] rfl (?_))
      obtain ⟨m, hm⟩ : ∃ m : Nat, b0 * 256 + b1 = m := ⟨(b0 * 256 + b1).toNat, by omega⟩
      rw [hm]
      have hnx : nextF (b0 :: b1 :: r) = if (m : Int) > 5000 then .long else if (r.length : Int) < m then .short else .whole (r.take m) (r.drop m) := by simp only [nextF, hm, Int.toNat_natCast]
      refine K_ss (K_reg (Wops_run rfl rfl (Wops_run rfl rfl (K_fin [(0, _), (6, _), (7, _), (46, _)] rfl (?_)))))
      refine K_scond rfl (fun hc => ?_) (fun hc => ?_)
      · rw [if_pos (of_decide_eq_true hc)] at hnx
        obtain ⟨k', rfl⟩ : ∃ k', k = k' + 1 := ⟨k - 1, by omega⟩
        simp only [splitF, hnx] at hsp
        refine K_ss (K_reg (Wops_run rfl rfl (Wops_run rfl rfl (Wops_run rfl rfl (Wops_run rfl rfl (Wops_st rfl rfl rfl rfl gq (by simp) rfl fun h2 n2 x2 g2 => ?_))))))
        refine Wops_run rfl rfl (Wops_run rfl rfl (Wops_st rfl rfl rfl rfl g2 (by rw [putL_length]; simp) rfl fun h3 n3 x3 g3 => ?_))
        refine K_fin [(6, _)] rfl (?_)
        refine K_ss (K_reg (Wops_run rfl rfl (Wops_run rfl rfl (Wops_run rfl rfl (K_fin [(4, _), (5, _)] rfl (?_))))))
        have hp : ¬ Blk af p := fun r => by have := t.nw p r; omega
        have X3 : Ext (· = p) h' h3 := x2.trans x3
        refine K_sret (Told.mk _ rfl ?_)
        show if false = true then _ else _
        rw [if_neg (by simp), hsp]
        refine ⟨af, nf, cf, vs, rfl, t.o.ext X3 fun i r e => hp (by rw [← e]; exact r), ?_, t.nw, ⟨mp, none, 0, 0, g3, SlA.none, fun i r => absurd r Blk.none⟩, t.x.trans X3⟩
        have hb3 := (t.b.ext X3 fun i r e => by have := r.1; omega).mono (T := Fs h h3 af) fun i r => ⟨r.1, by have := r.2.1; have := X3.next; omega, r.2.2⟩
        simpa using hb3
      · rw [if_neg (of_decide_eq_false hc)] at hnx
        have h5 : m ≤ 5000 := by have := of_decide_eq_false hc; omega
        refine K_sskip (K_ss (K_reg (Wops_run rfl rfl (Wops_run rfl rfl (Wops_run rfl rfl (Wops_ld rfl gq (by rfl) ?_))))))
        refine Wops_run rfl rfl (Wops_as (w := .int .i64 (r.length : Nat)) rfl rfl (by rw [w64 (by omega)]; congr 1; omega) ?_)
        refine Wops_run rfl rfl (Wops_run rfl rfl (K_fin [(0, _), (6, _), (7, _), (61, _)] rfl (?_)))
        refine K_scond rfl (fun hc => ?_) (fun hc => ?_)
        · rw [if_pos (of_decide_eq_true hc)] at hnx
          refine K_sexit (bx_ne rfl (bx_same ?_))
          exact fin _ _ hnx
        · rw [if_neg (of_decide_eq_false hc)] at hnx
          have hmr : m ≤ r.length := by have := of_decide_eq_false hc; omega
          obtain ⟨hl, hwb⟩ := nextF_whole hnx
          obtain ⟨wf, wr⟩ := hwb t.w
          obtain ⟨k', rfl⟩ : ∃ k', k = k' + 1 := ⟨k - 1, by omega⟩
          simp only [splitF, hnx] at hsp
          have hcast : IntKind.wrap .i64 (2 + (m : Int)) = ((2 + m : Nat) : Int) := by rw [w64 (by omega)]; omega
          have hA : List.take ((2 + m - 2) * 1) (List.drop (2 * 1) (ints .u8 (b0 :: b1 :: r))) = ints .u8 (r.take m) := by
            simp [ints, List.map_take]
          have hB : List.take ((nq - (2 + m)) * 1) (List.drop ((2 + m) * 1) (ints .u8 (b0 :: b1 :: r))) = ints .u8 (r.drop m) := by
            rw [List.take_of_length_le (by simp; omega), show (2 + m) * 1 = m + 2 by omega]
            simp [ints, List.map_drop]
          refine K_sskip (K_reg (Wops_run rfl rfl (Wops_bslice (l := []) rfl rfl fun h1 n1 x1 g1 => ?_)))
          have sA := (sq.ext x1).sub (i := 2) (j := 2 + m) (by omega) (by omega)
          rw [hA] at sA
          refine Wops_run rfl rfl (Wops_run rfl rfl (Wops_run rfl rfl (Wops_ld rfl (x1.some0 gq) (by rfl) ?_)))
          refine Wops_run rfl rfl (Wops_as (w := .int .i64 ((2 + m : Nat) : Int)) rfl rfl (by rw [hcast]) (Wops_slV rfl rfl rfl (sq.ext x1).ok (bounds_lh (i := 2) (j := 2 + m) ⟨by omega, by omega⟩) ?_))
          refine Wops_app rfl rfl (OwS.new (n := 0) g1 rfl) rfl sA.first ⟨by omega, by omega⟩ sA.len (ints_cell _ _) (by decide) fun h2 a2 c2 x2 o2 b2 => ?_
          have X2 : Ext0 h' h2 := x1.then x2 fun i r => .inr (by rw [Blk.at] at r; omega)
          have N2 : ∀ i, Blk a2 i → h'.next ≤ i := fun i r => by rcases b2 i r with r | r; (rw [Blk.at] at r; omega); have := x1.next; omega
          refine Wops_bslice (l := [.slice a2 (0 + (2 + m - 2)) c2]) rfl rfl fun h3 n3 x3 g3 => ?_
          refine Wops_app rfl rfl ((t.o.ext X2).ext x3) rfl (SlA.mk' (n := 1) (c := 1) (off := 0) g3 (by simp) (.inr (.inr rfl))).first ⟨by omega, by omega⟩ rfl rfl (by decide) fun h4 a4 c4 x4 o4 b4 => ?_
          refine Wops_run rfl rfl (K_fin [(0, _), (6, _), (7, _)] rfl (?_))
          have hp : ¬ Blk af p := fun r => by have := t.nw p r; omega
          have g4 : At h4 p (.cells (.slice aq nq cq :: .bool false :: R) 0 false) := ((At.ext (o := .cells (.slice aq nq cq :: .bool false :: R) 0 false) gq X2).ext x3).ext x4 hp
          have s4 : SlA h4 1 aq nq cq (ints .u8 (b0 :: b1 :: r)) := ((sq.ext X2).ext x3).ext x4 fun i r s => (dq i r).1 (.inr s)
          refine K_last (Wops_run rfl rfl (Wops_bslice (l := []) rfl rfl fun h5 n5 x5 g5 => ?_))
          have sB := (s4.ext x5).sub (i := 2 + m) (j := nq) (by omega) (Nat.le_refl _)
          rw [hB] at sB
          refine Wops_run rfl rfl (Wops_run rfl rfl (Wops_run rfl rfl (Wops_ld rfl (g4.ext x5) (by rfl) ?_)))
          refine Wops_run rfl rfl (Wops_as (w := .int .i64 ((2 + m : Nat) : Int)) rfl rfl (by rw [hcast]) (Wops_slV rfl rfl rfl (s4.ext x5).ok (bounds_lo (i := 2 + m) (by omega)) ?_))
          refine Wops_app rfl rfl (OwS.new (n := 0) g5 rfl) rfl sB.first ⟨by omega, by omega⟩ sB.len (ints_cell _ _) (by decide) fun h6 a6 c6 x6 o6 b6 => ?_
          have X6 : Ext0 h4 h6 := x5.then x6 fun i r => .inr (by rw [Blk.at] at r; omega)
          have N6 : ∀ i, Blk a6 i → h4.next ≤ i := fun i r => by rcases b6 i r with r | r; (rw [Blk.at] at r; omega); have := x5.next; omega
          refine Wops_run rfl rfl (Wops_run rfl rfl (Wops_st rfl rfl rfl rfl (g4.ext X6) (by simp) rfl fun h7 n7 x7 g7 => ?_))
          refine K_finL [(0, _), (6, _)] rfl (?_)
          refine ⟨k', by omega, r.drop m, fs ++ [r.take m], a4, nf + 1, c4, _, rfl, by rw [hsp]; simp, t.push hM (X2.trans x3) ((by simpa [ints] using o2 : OwS h2 1 a2 (0 + (2 + m - 2)) c2 (ints .u8 (r.take m))).ext x3) N2 x4 o4 b4 X6 (by simpa [ints] using o6.sl) (fun i r => ⟨N6 i r, o6.lt r⟩) x7 g7 wr (by simp at hl ⊢; simp at hle; omega) (by omega)⟩
    · have h2 : nq < 2 := by have := of_decide_eq_false hc; omega
      refine K_sexit (bx_same ?_)
      refine fin _ _ ?_
      match cur, hq with
      | [], _ => rfl
      | [_], _ => rfl
      | _ :: _ :: _, hq => simp at hq; omega

end
section
/- Sessions: the document's Tell; Out, Dead; nil ones. -/
set_option linter.unusedVariables false
set_option linter.unusedSimpArgs false

theorem sameRp {h : Heap} {r : Rp} {a : Option Addr} {n c : Nat} (s : SlA h 1 a n c (u64s r.vs)) : sameCells (RpV r a n c) (RpV r a n c) = true := by
  have h1 : sameCell (.slice a n c) (.slice a n c) = true := s.same
  have i1 : ∀ k x, sameCell (.int k x) (.int k x) = true := fun k x => by simp [sameCell]
  simp only [RpV, sameCells, i1, h1, Bool.and_self]

/-- the document's Tell -/
theorem C35 {h : Heap} {p no co : Nat} {w0 w1 w2 w3 w4 w5 : Value} {ao : Option Addr} {O : List Int} {a : Option Addr} {n c : Nat} {r : Rp} {times : Int} (g : At h p (.cells [w0, w1, w2, w3, w4, w5, .slice ao no co] 0 false)) (o : SlA h 1 ao no co (ints .u8 O)) (lo : ∀ i, Blk ao i → i ≠ p ∧ i < h.next)
    (k : r.In h a n c) (d : ∀ i, Blk a i → i ≠ p) (hno : no ≤ 100000) (htm : times ≤ 20) :
    Fn Try.prog 35 [ptr p, .agg ⟨RpV r a n c⟩, .int .i64 times] h fun v h' => ∃ ao' no' co', At h' p (.cells [w0, w1, w2, w3, w4, w5, .slice ao' no' co'] 0 false) ∧ SlA h' 1 ao' no' co' (ints .u8 (O ++ tld r times.toNat)) ∧ Ext (· = p) h h' ∧ ∀ i, Blk ao' i → (Blk ao i ∨ h.next ≤ i) ∧ i < h'.next := by
  have hol : O.length = no := by simpa using o.len
  have hlt := g.lt
  refine fnK F35.fok rfl ?_
  refine K_reg (Wops_box (cs := RpV r a n c) rfl rfl fun h1 n1 x1 g1 => K_fin [(0, _), (2, _), (4, _)] rfl (?_))
  have z1 := x1.next
  refine K_reg (Wops_run rfl rfl (K_fin [(0, _), (2, _), (4, _), (6, _)] rfl (?_)))
  refine K_block ?_
  refine K_loop (fun kk e h' => ∃ (i : Nat) (ao' : Option Addr) (no' co' : Nat), e = [(0, ptr p), (2, .int .i64 times), (4, ptr h.next), (6, .int .i64 (i : Int))] ∧ kk = times.toNat - i ∧ i ≤ times.toNat ∧ At h' p (.cells [w0, w1, w2, w3, w4, w5, .slice ao' no' co'] 0 false) ∧ SlA h' 1 ao' no' co' (ints .u8 (O ++ tld r i)) ∧
      Ext (· = p) h h' ∧ (∀ i, Blk ao' i → (Blk ao i ∨ h.next < i) ∧ i < h'.next) ∧ At h' h.next (.cells (RpV r a n c) 0 false)) ?_ (k := times.toNat)
    ⟨0, ao, no, co, rfl, rfl, Nat.zero_le _, g.ext x1, by simpa [tld] using o.ext x1, x1.mono fun i _ q => q.elim, fun i q => ⟨.inl q, by have := (lo i q).2; omega⟩, g1⟩
  rintro kk e h' ⟨i, ao', no', co', rfl, rfl, hit, g', o', x', b', gr⟩
  have z' := x'.next
  have hol' : (O ++ tld r i).length = no' := by simpa using o'.len
  have htl := tld_len k i
  have hfr := frR_len k
  have hpo : ¬ Blk ao' p := fun q => (b' p q).1.elim (fun q => (lo p q).1 rfl) fun q => by omega
  rw [List.length_append] at hol'
  refine K_ss (K_reg (Wops_run rfl rfl (Wops_run rfl rfl ?_)))
  by_cases h0 : i < times.toNat
  · refine Wops_as (w := .bool true) rfl rfl (by rw [decide_eq_true (by omega)]) (K_fin [(0, _), (2, _), (4, _), (6, _), (9, _)] rfl (?_))
    refine K_scond rfl (fun _ => ?_) (fun hc => by cases hc)
    refine K_sskip (K_sblock ?_)
    refine K_last (Wops_run rfl rfl (Wops_bslice (l := []) rfl rfl fun h2 n2 x2 g2 => ?_))
    have z2 := x2.next
    have g'2 := g'.ext x2
    have gr2 := gr.ext x2
    refine Wops_run rfl rfl (Wops_run rfl rfl (Wops_run rfl rfl (Wops_ld (v := .slice ao' no' co') rfl g'2 rfl (Wops_ldA (l := RpV r a n c) rfl gr2 (by simp [RpV]) rfl ?_))))
    refine Wops_app rfl rfl (OwS.new (n := 0) g2 rfl) rfl (o'.ext x2).first ⟨by omega, by omega⟩ o'.len (ints_cell _ _) (by decide) fun h3 a3 c3 x3 o3 b3 => ?_
    have z3 := x3.next
    have b3' : ∀ j, Blk a3 j → h'.next ≤ j := fun j q => (b3 j q).elim (fun q => by rw [Blk.at] at q; omega) fun q => by omega
    have x'3 : Ext0 h' h3 := x2.then x3 fun j q => .inr (by rw [Blk.at] at q; omega)
    have gr3 := gr.ext x'3
    have g'3 := g'.ext x'3
    have k3 : r.In h3 a n c := k.ext (x'.then0 x'3) fun j q w => d j q w
    refine Wops_chkA rfl rfl gr3 (by simp [RpV]) rfl (sameRp k3.s) ?_
    refine Wops_call rfl (C74 k3.s k3.n k3.t k3.e k3.h k3.v) ?_
    rintro _ h4 ⟨a4, c4, rfl, o4, x4, b4⟩
    have z4 := x4.next
    have hel := k.len
    rw [← ints_ci] at o4
    refine Wops_call rfl (C28 o4.sl (by omega)) ?_
    rintro _ h5 ⟨a5, c5, rfl, o5, x5, b5⟩
    have z5 := x5.next
    have o35 := (o3.ext x4).ext x5
    refine Wops_app rfl rfl o35 rfl o5.sl.first ⟨by omega, by omega⟩ (by rw [List.length_map, putF_length, ci_len]; omega) (ints_cell _ _) (by decide) fun h6 a6 c6 x6 o6 b6 => ?_
    have z6 := x6.next
    have b6' : ∀ j, Blk a6 j → h'.next ≤ j := fun j q => (b6 j q).elim (b3' j) fun q => by omega
    have n3p : ¬ Blk a3 p := fun q => by have := b3' _ q; have := g'.lt; omega
    have n3r : ¬ Blk a3 h.next := fun q => by have := b3' _ q; have := gr.lt; omega
    have g'6 := ((g'3.ext x4).ext x5).ext x6 n3p
    have gr6 := ((gr3.ext x4).ext x5).ext x6 n3r
    refine Wops_run rfl rfl (Wops_run rfl rfl (Wops_st (l := [.slice a6 (0 + no' + (2 + (encR r).length)) c6]) rfl rfl rfl rfl g'6 (by simp) rfl fun h7 n7 x7 g7 => ?_))
    have z7 := x7.next
    refine K_finL [(0, _), (2, _), (4, _), (6, _)] rfl (?_)
    refine K_last (Wops_run rfl rfl (Wops_as (w := .int .i64 ((i + 1 : Nat) : Int)) rfl rfl (by rw [w64s (by omega)]) (Wops_run rfl rfl (K_finL [(0, _), (2, _), (4, _), (6, _)] rfl (?_)))))
    have n6p : ∀ j, Blk a6 j → ¬ j = p := fun j q e => by have := b6' _ q; have := g'.lt; omega
    have x'6 : Ext0 h' h6 := ((x'3.trans x4).trans x5).then x6 fun j q => .inr (b3' j q)
    refine ⟨times.toNat - (i + 1), by omega, i + 1, a6, 0 + no' + (2 + (encR r).length), c6, rfl, rfl, by omega, g7, ?_, (x'.then0 x'6).trans x7, fun j q => ⟨.inr ?_, ?_⟩, gr6.ext x7 fun q => by omega⟩
    · rw [tld_snoc, ← List.append_assoc]
      have := (o6.ext x7 n6p).sl
      simpa [ints, frR] using this
    · have := b6' j q; have := gr.lt; omega
    · have := o6.lt q; omega
  · refine Wops_as (w := .bool false) rfl rfl (by rw [decide_eq_false (by omega)]) (K_fin [(0, _), (2, _), (4, _), (6, _), (9, _)] rfl (?_))
    refine K_scond rfl (fun hc => by cases hc) (fun _ => ?_)
    refine K_sexit (bx_same (Told.mk [] rfl ?_))
    obtain rfl : i = times.toNat := by omega
    exact ⟨ao', no', co', g', o', x', fun j q => ⟨(b' j q).1.imp id fun q => by omega, (b' j q).2⟩⟩

/-- Out -/
theorem C33 {h : Heap} {p no co : Nat} {w0 w1 w2 : Value} {ao : Option Addr} {O : List Int} (g : At h p (.cells [w0, w1, w2, .slice ao no co] 0 false)) (o : SlA h 1 ao no co (ints .u8 O)) (hno : no ≤ 1000000) :
    Fn Try.prog 33 [ptr p] h fun v h' => ∃ a' c', v = .slice a' no c' ∧ OwS h' 1 a' no c' (ints .u8 O) ∧ Ext0 h h' ∧ ∀ i, Blk a' i → h.next ≤ i ∧ i < h'.next := by
  refine fnK F33.fok rfl ?_
  refine K_reg (Wops_run rfl rfl (K_fin [(0, _)] rfl (?_)))
  refine K_ss (K_reg (Wops_run rfl rfl (Wops_run rfl rfl (K_fin [(0, _), (4, _)] rfl (?_)))))
  refine K_scond rfl (fun hc => by cases hc) (fun hc => ?_)
  refine K_sskip (K_reg (Wops_run rfl rfl (Wops_run rfl rfl (Wops_run rfl rfl (Wops_ld (v := .slice ao no co) rfl g rfl (Wops_call rfl (C72f o (ints_cell _ _) (by omega)) ?_))))))
  rintro _ h1 ⟨a1, c1, rfl, o1, x1, b1⟩
  refine Wops_run rfl rfl (K_fin [(2, _)] rfl (?_))
  exact K_ret (Told.mk _ rfl ⟨a1, c1, rfl, o1, x1, b1⟩)
theorem C33nil {h : Heap} : Fn Try.prog 33 [.pointer none] h fun v h' => v = .slice none 0 0 ∧ h = h' := by
  refine fnK F33.fok rfl ?_
  refine K_reg (Wops_run rfl rfl (K_fin [(0, _)] rfl (?_)))
  refine K_ss (K_reg (Wops_run rfl rfl (Wops_run rfl rfl (K_fin [(0, _), (4, _)] rfl (?_)))))
  refine K_scond rfl (fun hc => ?_) (fun hc => by cases hc)
  refine K_ss (K_reg (Wops_run rfl rfl (K_fin [(2, _)] rfl (?_))))
  exact K_sret (Told.mk _ rfl ⟨rfl, rfl⟩)
/-- Dead -/
theorem C31 {M : Nat → Prop} {h : Heap} {p pp : Nat} {rest : List Value} {bs : List Int} {bad : Bool} (g : At h p (.cells (ptr pp :: rest) 0 false)) (q : Pt M h pp bs bad) : Fn Try.prog 31 [ptr p] h fun v h' => v = .bool bad ∧ h = h' := by
  refine fnK F31.fok rfl ?_
  refine K_reg (Wops_run rfl rfl (K_fin [(0, _)] rfl (?_)))
  refine K_reg (Wops_run rfl rfl (Wops_run rfl rfl (Wops_run rfl rfl (Wops_go rfl (Wops_run rfl rfl (Wops_go rfl (Wops_run rfl rfl (Wops_go rfl (Wops_run rfl rfl (Wops_go rfl (Wops_ld (v := ptr pp) rfl g rfl (Wops_go rfl (Wops_call rfl (C69 q) ?_)))))))))))))
  rintro _ _ ⟨rfl, rfl⟩
  refine Wops_run rfl rfl (Wops_run rfl rfl (K_fin [(2, _)] rfl (?_)))
  exact K_ret (Told.mk _ rfl ⟨rfl, rfl⟩)
theorem C31nil {h : Heap} : Fn Try.prog 31 [.pointer none] h fun v h' => v = .bool false ∧ h = h' := by
  refine fnK F31.fok rfl ?_
  refine K_reg (Wops_run rfl rfl (K_fin [(0, _)] rfl (?_)))
  refine K_reg (Wops_run rfl rfl (Wops_run rfl rfl (Wops_run rfl rfl (Wops_skip rfl (Wops_skip rfl (Wops_skip rfl (Wops_skip rfl (Wops_skip rfl (Wops_run rfl rfl (Wops_run rfl rfl (K_fin [(2, _)] rfl (?_))))))))))))
  exact K_ret (Told.mk _ rfl ⟨rfl, rfl⟩)
theorem C36nil {h : Heap} : Fn Try.prog 36 [.pointer none] h fun v h' => v = .pointer none ∧ h = h' := by
  refine fnK F36.fok rfl ?_
  refine K_reg (Wops_run rfl rfl (K_fin [(0, _)] rfl (?_)))
  refine K_ss (K_reg (Wops_run rfl rfl (Wops_run rfl rfl (K_fin [(0, _), (4, _)] rfl (?_)))))
  refine K_scond rfl (fun hc => ?_) (fun hc => by cases hc)
  refine K_ss (K_reg (Wops_run rfl rfl (K_fin [(2, _)] rfl (?_))))
  exact K_sret (Told.mk _ rfl ⟨rfl, rfl⟩)
theorem C37nil {h : Heap} : Fn Try.prog 37 [.pointer none] h fun v h' => v = .pointer none ∧ h = h' := by
  refine fnK F37.fok rfl ?_
  refine K_reg (Wops_run rfl rfl (K_fin [(0, _)] rfl (?_)))
  refine K_ss (K_reg (Wops_run rfl rfl (Wops_run rfl rfl (K_fin [(0, _), (4, _)] rfl (?_)))))
  refine K_scond rfl (fun hc => ?_) (fun hc => by cases hc)
  refine K_ss (K_reg (Wops_run rfl rfl (K_fin [(2, _)] rfl (?_))))
  exact K_sret (Told.mk _ rfl ⟨rfl, rfl⟩)
theorem C38nil {h : Heap} : Fn Try.prog 38 [.pointer none] h fun v h' => v = .pointer none ∧ h = h' := by
  refine fnK F38.fok rfl ?_
  refine K_reg (Wops_run rfl rfl (K_fin [(0, _)] rfl (?_)))
  refine K_ss (K_reg (Wops_run rfl rfl (Wops_run rfl rfl (K_fin [(0, _), (4, _)] rfl (?_)))))
  refine K_scond rfl (fun hc => ?_) (fun hc => by cases hc)
  refine K_ss (K_reg (Wops_run rfl rfl (K_fin [(2, _)] rfl (?_))))
  exact K_sret (Told.mk _ rfl ⟨rfl, rfl⟩)
theorem C30nil {h : Heap} {v : Value} : Fn Try.prog 30 [.pointer none, v] h fun v h' => v = .tuple ⟨[.slice none 0 0, .slice none 0 0]⟩ ∧ h = h' := by
  refine fnK F30.fok rfl ?_
  refine K_reg (Wops_run rfl rfl (Wops_run rfl rfl (K_fin [(0, _), (1, _), (4, _), (5, _)] rfl (?_))))
  refine K_ss (K_reg (Wops_run rfl rfl (Wops_run rfl rfl (Wops_run rfl rfl (Wops_skip rfl (Wops_skip rfl (Wops_skip rfl (Wops_skip rfl (Wops_skip rfl (Wops_run rfl rfl (K_fin [(0, _), (1, _), (4, _), (5, _), (20, _)] rfl (?_))))))))))))
  refine K_scond rfl (fun _ => ?_) (fun hc => by cases hc)
  refine K_ss (K_reg (Wops_run rfl rfl (Wops_run rfl rfl (K_fin [(4, _), (5, _)] rfl (?_)))))
  exact K_sret (Told.mk _ rfl ⟨rfl, rfl⟩)
theorem C32nil {h : Heap} {l : List Value} {t : Int} : Fn Try.prog 32 [.pointer none, .agg ⟨l⟩, .int .i64 t] h fun v h' => Ext0 h h' := by
  refine fnK F32.fok rfl ?_
  refine K_reg (Wops_box (cs := l) rfl rfl fun h1 n1 x1 g1 => K_fin [(0, _), (2, _), (4, _)] rfl (?_))
  refine K_block ?_
  refine K_loop (fun kk e h' => e = [(0, .pointer none), (2, .int .i64 t), (4, ptr h.next)] ∧ Ext0 h h') ?_ (k := 0) ⟨rfl, x1⟩
  rintro kk e h' ⟨rfl, x'⟩
  refine K_ss (K_reg (Wops_run rfl rfl (Wops_run rfl rfl (Wops_run rfl rfl (Wops_skip rfl (Wops_skip rfl (Wops_run rfl rfl (K_fin [(0, _), (2, _), (4, _), (11, _)] rfl (?_)))))))))
  refine K_scond rfl (fun hc => by cases hc) (fun _ => ?_)
  exact K_sexit (bx_same (Told.mk [] rfl x'))

end
section
/- Sessions: the document's Feed. -/
set_option linter.unusedVariables false
set_option linter.unusedSimpArgs false

def AddPostR (M : Nat → Prop) (R : List Value) (h : Heap) (p : Nat) (r : List (List Int) × List Int × Bool × Int) (v : Value) (h' : Heap) : Prop :=
  ∃ af nf cf vs, v = .tuple ⟨[.slice af nf cf, .int .i64 r.2.2.2]⟩ ∧ SlA h' 1 af nf cf vs ∧ Bys h' .u8 (fun i => h.next ≤ i ∧ i < h'.next) vs r.1 ∧ (∀ i, Blk af i → h.next ≤ i ∧ i < h'.next) ∧ PtR M h' p R r.2.1 r.2.2.1 ∧ Ext (· = p) h h'
theorem C73' {M : Nat → Prop} {R : List Value} {h : Heap} {p nb cb : Nat} {ab : Option Addr} {bs ys : List Int} (hM : ∀ i, M i → i < h.next) (q : PtR M h p R bs false) (hw : Byte bs) (sy : InS h ab nb cb (ints .u8 ys)) (hwy : Byte ys)
    (hb : bs.length ≤ 100000) (hb2 : ys.length ≤ 100000) : Fn Try.prog 73 [ptr p, .slice ab nb cb] h (AddPostR M R h p (addR bs false ys)) :=
  (C73 hM q hw sy.sl sy.lt hwy hb hb2).mono fun v h' hp => by
    unfold addR
    rw [if_neg (by simp)] at hp ⊢
    obtain ⟨af, nf, cf, vs, rfl, o, b, n, q', x⟩ := hp
    exact ⟨af, nf, cf, vs, rfl, o.sl, b.mono fun i r => ⟨r.1, r.2.1⟩, fun i r => ⟨n i r, o.lt r⟩, q', x⟩

set_option maxHeartbeats 2000000 in
/-- the document's Feed -/
theorem C34 {M : Nat → Prop} {R0 : List Value} {h : Heap} {p nb cb : Nat} {ab : Option Addr} {bs ys : List Int} {bad : Bool} (q : PtR M h p R0 bs bad) (hM : ∀ i, M i → i < h.next) (hw : Byte bs) (sy : InS h ab nb cb (ints .u8 ys)) (hwy : Byte ys) (hb : bs.length ≤ 50000) (hb2 : ys.length ≤ 50000) :
    Fn Try.prog 34 [ptr p, .slice ab nb cb] h fun v h' => if bad = true then v = .tuple ⟨[.slice none 0 0, .slice none 0 0]⟩ ∧ h = h' else
      Ext (· = p) h h' ∧ PtR M h' p R0 (addR bs bad ys).2.1 (addR bs bad ys).2.2.1 ∧ ∃ la lc ea ec xs es, v = .tuple ⟨[.slice la xs.length lc, .slice ea es.length ec]⟩ ∧ Fd h h' la lc ea ec xs es ∧
        xs.map Qm.r = (asks (addR bs bad ys).1 (addR bs bad ys).2.2.2).map Prod.fst ∧ es = (asks (addR bs bad ys).1 (addR bs bad ys).2.2.2).map Prod.snd := by
  obtain ⟨_, a0, n0, c0, g, _, _⟩ := id q
  have hlt := q.lt
  refine fnK F34.fok rfl ?_
  refine K_reg (Wops_run rfl rfl (Wops_run rfl rfl (K_fin [(0, _), (1, _)] rfl (?_))))
  refine K_ss (K_reg (Wops_run rfl rfl (Wops_run rfl rfl (Wops_run rfl rfl (Wops_run rfl rfl (Wops_ld (v := .bool bad) rfl g rfl ?_))))))
  refine K_fin [(0, _), (1, _), (17, _)] rfl (?_)
  cases bad with
  | true =>
    refine K_scond rfl (fun _ => ?_) (fun hc => by cases hc)
    refine K_ss (K_reg (Wops_run rfl rfl (Wops_run rfl rfl (K_fin [(4, _), (5, _)] rfl (?_)))))
    refine K_sret (Told.mk _ rfl ?_)
    rw [if_pos rfl]; exact ⟨rfl, rfl⟩
  | false =>
    refine K_scond rfl (fun hc => by cases hc) (fun _ => ?_)
    refine K_sskip (K_reg (Wops_run rfl rfl (K_fin [(0, _), (1, _), (6, _)] rfl (?_))))
    refine K_reg (Wops_run rfl rfl (K_fin [(0, _), (1, _), (6, _), (7, _)] rfl (?_)))
    refine K_reg (Wops_run rfl rfl (Wops_run rfl rfl (Wops_run rfl rfl (Wops_run rfl rfl (Wops_call rfl (C73' hM q hw sy hwy (by omega) (by omega)) ?_)))))
    obtain ⟨hlen, hfb, hrb⟩ := addR_facts false hw hwy
    have hlenf := addR_len bs ys
    generalize addR bs false ys = R at hlen hfb hrb hlenf ⊢
    obtain ⟨fs, br, bad', er⟩ := R
    simp only [] at hlen hfb hrb hlenf ⊢
    rintro _ h1 ⟨af, nf, cf, vs, rfl, sf, bf, lf, hP1, x1⟩
    have z1 := x1.next
    have hvl : vs.length = fs.length := bf.length
    have hnf : vs.length = nf := by simpa using sf.len
    refine Wops_run rfl rfl (Wops_run rfl rfl (Wops_run rfl rfl (Wops_run rfl rfl (Wops_run rfl rfl (K_fin [(6, _), (7, _), (8, _), (9, _)] rfl (?_))))))
    refine K_ss (K_reg (Wops_run rfl rfl (K_fin [(6, _), (7, _), (8, _), (9, _), (10, _)] rfl (?_))))
    refine K_sblock ?_
    refine K_loop (fun k e h' => ∃ (i : Nat) (la ea : Option Addr) (lc ec : Nat) (xs : List Qm) (es : List Int), e = [(6, .slice la xs.length lc), (7, .slice ea es.length ec), (8, .slice af nf cf), (9, .int .i64 er), (10, .int .i64 (i : Int))] ∧ i ≤ nf ∧ k = nf - i ∧ Ext0 h1 h' ∧ Fd h1 h' la lc ea ec xs es ∧ xs.map Qm.r = (fs.take i).map (fun f => (takeQ (nat f)).1) ∧ es = (fs.take i).map (fun f => (takeQ (nat f)).2)) ?_ (k := nf) ⟨0, none, none, 0, 0, [], [], rfl, by omega, rfl, Ext.refl _ _, Fd.start _, rfl, rfl⟩
    rintro k e h' ⟨i, la, ea, lc, ec, xs, es, rfl, hi, rfl, x', f, hxs, hes⟩
    have z' := x'.next
    have hxl : xs.length = i := by have := congrArg List.length hxs; simp at this; omega
    have hel : es.length = i := by rw [hes]; simp; omega
    refine K_ss (K_reg (Wops_run rfl rfl (Wops_run rfl rfl (Wops_run rfl rfl (Wops_run rfl rfl (K_fin [(6, _), (7, _), (8, _), (9, _), (10, _), (29, _)] rfl (?_)))))))
    refine K_scond rfl (fun hc => ?_) (fun hc => ?_)
    · have hil : i < nf := by have := of_decide_eq_true hc; omega
      have hif : i < fs.length := by omega
      obtain ⟨fa, fn, fc, hv, sfi, lfi⟩ := bf.get i hif
      have hby := hfb _ (List.getElem_mem hif)
      refine K_sskip (K_sblock ?_)
      have hfl : fs[i].length = fn := by simpa using sfi.len
      rw [ints_nat8 hby] at sfi
      have hflb : fs[i].length ≤ 100000 := by have := hlenf.2 _ (List.getElem_mem hif); omega
      refine K_reg (Wops_run rfl rfl (Wops_run rfl rfl (Wops_idx (u := .slice fa fn fc) rfl rfl (sf.ext x') ⟨by omega, by omega⟩ (by simpa using hv) fun _ => ?_)))
      refine (Wops_call rfl (C15 (sfi.ext x') (by omega) (nat_byte hby) (fun j r => by have := (lfi j r).2; omega)) ?_)
      rintro _ h2 ⟨x2, qa, qc, ra, rc, rfl, oq, orr, lq, lr⟩
      have hBy := takeQ_By (nat_byte hby)
      obtain ⟨T, hT⟩ : ∃ T, T = takeQ (nat fs[i]) := ⟨_, rfl⟩
      rw [← hT] at oq orr hBy ⊢
      refine Wops_run rfl rfl (Wops_run rfl rfl (Wops_run rfl rfl (Wops_new fun h3 n3 x3 g3 => Wops_st (l := RqV T.1 qa T.1.body.length qc ra T.1.args.length rc) rfl rfl rfl rfl g3 (by simp) (by simp [RqV, isCell]) fun h4 n4 x4 g4 => Wops_run rfl rfl (K_fin [(6, _), (7, _), (8, _), (9, _), (10, _), (11, _), (12, _)] rfl (?_)))))
      have z2 := x2.next
      have z3 := x3.next
      have z4 := x4.next
      have x24 : Ext0 h' h4 := (x2.trans x3).then x4 fun i r => .inr (by omega)
      have f4 : Fd h1 h4 la lc ea ec xs es := f.ext x24 fun i r => r.elim
      have xq : (⟨T.1, qa, qc, ra, rc⟩ : Qm).In h4 fun i => h1.next ≤ i ∧ i < h4.next ∧ ¬ Blk la i ∧ ¬ Blk ea i := by
        have oq4 := (oq.ext x3).ext x4 fun j r => by have := oq.lt r; omega
        have or4 := (orr.ext x3).ext x4 fun j r => by have := orr.lt r; omega
        refine ⟨oq4.sl, or4.sl, fun j r => ?_, fun j r => ?_, hBy⟩
        · have := lq j r; have := oq4.lt r; exact ⟨by omega, by omega, fun w => by have := f.l.lt w; omega, fun w => by have := f.e.lt w; omega⟩
        · have := lr j r; have := or4.lt r; exact ⟨by omega, by omega, fun w => by have := f.l.lt w; omega, fun w => by have := f.e.lt w; omega⟩
      refine K_last (Wops_run rfl rfl (Wops_ldA (l := RqV T.1 qa T.1.body.length qc ra T.1.args.length rc) rfl g4 (by simp [RqV, putL]) rfl (Wops_bslice (l := RqV T.1 qa T.1.body.length qc ra T.1.args.length rc) rfl rfl fun h5 n5 x5 g5 => ?_)))
      refine Wops_app (m := 1) rfl rfl (f4.l.ext x5) rfl (OwS.new (n := 1) (c := 1) g5 rfl).sl.first ⟨by omega, by omega⟩ rfl (by simp [RqV, isCell]) (by decide) fun h6 a6 c6 x6 o6 b6 => ?_
      refine Wops_run rfl rfl (Wops_run rfl rfl (Wops_run rfl rfl (Wops_bslice (l := erL T.2) rfl rfl fun h7 n7 x7 g7 => ?_)))
      have z5 := x5.next
      have z6 := x6.next
      refine Wops_app (m := 1) rfl rfl (((f4.e.ext x5).ext x6 fun j r w => f4.d j w r).ext x7) rfl (OwS.new (n := 1) (c := 1) g7 rfl).sl.first ⟨by omega, by omega⟩ rfl (by simp [erL, isCell]) (by decide) fun h8 a8 c8 x8 o8 b8 => ?_
      refine Wops_run rfl rfl (Wops_run rfl rfl (K_finL [(6, _), (7, _), (8, _), (9, _), (10, _)] rfl (?_)))
      have fS := f4.step (x := ⟨T.1, qa, qc, ra, rc⟩) (e := T.2) xq x5 x6 o6 b6 x7 x8 o8 b8
      refine K_last (Wops_run rfl rfl (Wops_run rfl rfl (Wops_run rfl rfl (K_finL [(6, _), (7, _), (8, _), (9, _), (10, _)] rfl (?_)))))
      have x18 : Ext0 h1 h8 := ((((x'.trans x24).trans x5).then x6 fun j r => .inr (f.ll j r)).trans x7).then x8 fun j r => .inr (f.el j r)
      refine ⟨nf - (i + 1), by omega, i + 1, a6, a8, c6, c8, xs ++ [⟨T.1, qa, qc, ra, rc⟩], es ++ [T.2], by rw [w64s (by omega), List.length_append, List.length_append]; rfl, by omega, rfl, x18, fS, ?_, ?_⟩
      · rw [List.take_add_one, List.getElem?_eq_getElem hif, Option.toList_some, List.map_append, List.map_append, hxs, hT]; rfl
      · rw [List.take_add_one, List.getElem?_eq_getElem hif, Option.toList_some, List.map_append, hes, hT]; rfl
    · have hin : i = nf := by have := of_decide_eq_false hc; omega
      have hall : fs.take i = fs := List.take_of_length_le (by omega)
      rw [hall] at hxs hes
      refine K_sexit (bx_same ?_)
      have qS : PtR M h' p R0 br bad' := hP1.ext0 x'
      have XX : Ext (· = p) h h' := x1.then0 x'
      refine K_ss (K_reg (Wops_run rfl rfl ?_))
      by_cases he : er = 0
      · refine Wops_as (w := .bool false) rfl rfl (by simp [he]) (K_fin [(6, _), (7, _), (9, _), (50, _)] rfl (?_))
        refine K_scond rfl (fun hc => by cases hc) (fun _ => ?_)
        refine K_sskip (K_reg (Wops_run rfl rfl (Wops_run rfl rfl (Wops_run rfl rfl (Wops_run rfl rfl (K_fin [(4, _), (5, _)] rfl (?_)))))))
        refine K_ret (Told.mk _ rfl ?_)
        rw [if_neg (by simp)]
        exact ⟨XX, qS, la, lc, ea, ec, xs, es, rfl, f.weak z1, by rw [hxs]; simp [asks, he], by rw [hes]; simp [asks, he]⟩
      · refine Wops_as (w := .bool true) rfl rfl (by simp [he]) (K_fin [(6, _), (7, _), (9, _), (50, _)] rfl (?_))
        refine K_scond rfl (fun _ => ?_) (fun hc => by cases hc)
        refine K_reg (Wops_run rfl rfl (Wops_run rfl rfl (Wops_bslice (l := RqV Rq.zero none 0 0 none 0 0) rfl rfl fun h5 n5 x5 g5 => ?_)))
        refine Wops_app (m := 1) rfl rfl (f.l.ext x5) rfl (OwS.new (n := 1) (c := 1) g5 rfl).sl.first ⟨by omega, by omega⟩ rfl (by simp [RqV, isCell]) (by decide) fun h6 a6 c6 x6 o6 b6 => ?_
        refine Wops_run rfl rfl (Wops_run rfl rfl (Wops_run rfl rfl (Wops_bslice (l := erL er) rfl rfl fun h7 n7 x7 g7 => ?_)))
        have z5 := x5.next
        have z6 := x6.next
        refine Wops_app (m := 1) rfl rfl (((f.e.ext x5).ext x6 fun j r w => f.d j w r).ext x7) rfl (OwS.new (n := 1) (c := 1) g7 rfl).sl.first ⟨by omega, by omega⟩ rfl (by simp [erL, isCell]) (by decide) fun h8 a8 c8 x8 o8 b8 => ?_
        refine Wops_run rfl rfl (Wops_run rfl rfl (K_fin [(6, _), (7, _)] rfl (?_)))
        have xz : (⟨Rq.zero, none, 0, none, 0⟩ : Qm).In h' fun i => h1.next ≤ i ∧ i < h'.next ∧ ¬ Blk la i ∧ ¬ Blk ea i :=
          ⟨SlA.none, SlA.none, fun i r => absurd r Blk.none, fun i r => absurd r Blk.none, By.zero⟩
        have fS := f.step (x := ⟨Rq.zero, none, 0, none, 0⟩) (e := er) xz x5 x6 o6 b6 x7 x8 o8 b8
        have x58 : Ext0 h1 h8 := (((x'.trans x5).then x6 fun j r => .inr (f.ll j r)).trans x7).then x8 fun j r => .inr (f.el j r)
        refine K_reg (Wops_run rfl rfl (Wops_run rfl rfl (Wops_run rfl rfl (Wops_run rfl rfl (K_fin [(4, _), (5, _)] rfl (?_))))))
        refine K_ret (Told.mk _ rfl ?_)
        rw [if_neg (by simp)]
        exact ⟨x1.then0 x58, hP1.ext0 x58, a6, c6, a8, c8, xs ++ [⟨Rq.zero, none, 0, none, 0⟩], es ++ [er], by rw [List.length_append, List.length_append]; rfl, fS.weak z1, by rw [List.map_append, hxs]; simp [asks, he], by rw [hes]; simp [asks, he]⟩

end
section
/- SessAll: Feed of both, New, and the lists compared. -/
set_option linter.unusedVariables false
set_option linter.unusedSimpArgs false

/-- What is asked of bytes, and what is told at once. -/
def askR (bs : List Int) (bad : Bool) (ys : List Int) : List (Rq × Int) := if bad = true then [] else asks (addR bs bad ys).1 (addR bs bad ys).2.2.2
theorem addR_bad (bs ys : List Int) : addR bs true ys = ([], bs, true, 4) := rfl
theorem C30' {M : Nat → Prop} {h : Heap} {p pp nb cb : Nat} {ab : Option Addr} {bs ys : List Int} {bad : Bool} (q : Se M h p pp bs bad) (hM : ∀ i, M i → i < h.next) (hw : Byte bs) (sy : InS h ab nb cb (ints .u8 ys)) (hwy : Byte ys) (hb : bs.length ≤ 50000) (hb2 : ys.length ≤ 50000) :
    Fn Try.prog 30 [ptr p, .slice ab nb cb] h fun v h' => Ext (· = pp) h h' ∧ Se M h' p pp (addR bs bad ys).2.1 (addR bs bad ys).2.2.1 ∧ ∃ la lc ea ec xs es, v = .tuple ⟨[.slice la xs.length lc, .slice ea es.length ec]⟩ ∧ Fd h h' la lc ea ec xs es ∧
        xs.map Qm.r = (askR bs bad ys).map Prod.fst ∧ es = (askR bs bad ys).map Prod.snd := by
  refine (C30 q hM hw sy hwy hb hb2).mono fun v h' hp => ?_
  cases bad with
  | true =>
    rw [if_pos rfl] at hp
    obtain ⟨rfl, rfl⟩ := hp
    exact ⟨Ext.refl _ _, q, none, 0, none, 0, [], [], rfl, Fd.start _, rfl, rfl⟩
  | false =>
    rw [if_neg (by simp)] at hp
    unfold askR
    rw [if_neg (by simp)]
    exact hp
theorem C34' {M : Nat → Prop} {R0 : List Value} {h : Heap} {p nb cb : Nat} {ab : Option Addr} {bs ys : List Int} {bad : Bool} (q : PtR M h p R0 bs bad) (hM : ∀ i, M i → i < h.next) (hw : Byte bs) (sy : InS h ab nb cb (ints .u8 ys)) (hwy : Byte ys) (hb : bs.length ≤ 50000) (hb2 : ys.length ≤ 50000) :
    Fn Try.prog 34 [ptr p, .slice ab nb cb] h fun v h' => Ext (· = p) h h' ∧ PtR M h' p R0 (addR bs bad ys).2.1 (addR bs bad ys).2.2.1 ∧ ∃ la lc ea ec xs es, v = .tuple ⟨[.slice la xs.length lc, .slice ea es.length ec]⟩ ∧ Fd h h' la lc ea ec xs es ∧
        xs.map Qm.r = (askR bs bad ys).map Prod.fst ∧ es = (askR bs bad ys).map Prod.snd := by
  refine (C34 q hM hw sy hwy hb hb2).mono fun v h' hp => ?_
  cases bad with
  | true =>
    rw [if_pos rfl] at hp
    obtain ⟨rfl, rfl⟩ := hp
    exact ⟨Ext.refl _ _, q, none, 0, none, 0, [], [], rfl, Fd.start _, rfl, rfl⟩
  | false =>
    rw [if_neg (by simp)] at hp
    unfold askR
    rw [if_neg (by simp)]
    exact hp

/-- sess.New: its cells -/
theorem C29' {h : Heap} {id : Int} : Fn Try.prog 29 [.int .i64 id] h fun v h' => ∃ p pp w1 w2, v = ptr p ∧ At h' p (.cells [ptr pp, w1, w2, .slice none 0 0] 0 false) ∧ At h' pp (.cells [.slice none 0 0, .bool false] 0 false) ∧ p ≠ pp ∧ Ext0 h h' ∧ h.next ≤ p ∧ h.next ≤ pp := by
  refine fnK F29.fok rfl ?_
  refine K_reg (Wops_run rfl rfl (K_fin [] rfl (?_)))
  refine K_reg (Wops_call rfl C66 ?_)
  rintro _ h1 ⟨p1, rfl, g1, x1, l1⟩
  refine Wops_call rfl C67 ?_
  rintro _ h2 ⟨p2, rfl, x2, l2⟩
  refine Wops_call rfl C68 ?_
  rintro _ h3 ⟨p3, rfl, x3, l3⟩
  refine Wops_run rfl rfl (Wops_run rfl rfl (Wops_box (cs := [ptr p1, ptr p2, ptr p3, .slice none 0 0]) rfl rfl fun h4 n4 x4 g4 => ?_))
  refine Wops_run rfl rfl (K_fin [(2, _)] rfl (?_))
  have z1 := x1.next
  have z2 := x2.next
  have z3 := x3.next
  have hl := g1.lt
  have g14 := ((g1.ext x2).ext x3).ext x4
  exact K_ret (Told.mk _ rfl ⟨h3.next, p1, _, _, rfl, g4, g14, by omega, ((x1.trans x2).trans x3).trans x4, by omega, l1⟩)

/-- cloakroomref1.SameReply, of the same that bear nothing but an error -/
theorem C26e {h : Heap} {e : Int} : Fn Try.prog 26 [.agg ⟨erL e⟩, .agg ⟨erL e⟩] h fun v h' => v = .bool true ∧ Ext0 h h' := by
  refine fnK F26.fok rfl ?_
  refine K_reg (Wops_box (cs := erL e) rfl rfl fun h1 n1 x1 g1 => Wops_box (cs := erL e) rfl rfl fun h2 n2 x2 g2 => Wops_run rfl rfl (K_fin [(2, _), (3, _)] rfl (?_)))
  have g12 : At h2 h.next (.cells (erL e) 0 false) := At.ext g1 x2
  refine K_reg (Wops_run rfl rfl (Wops_ld (v := .int .u64 0) rfl g12 rfl (Wops_run rfl rfl (Wops_ld (v := .int .u64 0) rfl g2 rfl (Wops_as (w := .bool true) rfl rfl (by simp) (Wops_run rfl rfl (Wops_go rfl (Wops_run rfl rfl (Wops_go rfl (Wops_ld (v := .int .i64 e) rfl g12 rfl (Wops_go rfl (Wops_run rfl rfl (Wops_go rfl (Wops_ld (v := .int .i64 e) rfl g2 rfl (Wops_go rfl (Wops_as (w := .bool true) rfl rfl (by simp) ?_))))))))))))))))
  refine Wops_run rfl rfl (Wops_run rfl rfl (Wops_go rfl (Wops_run rfl rfl (Wops_go rfl (Wops_ld (v := .int .u64 0) rfl g12 rfl (Wops_go rfl (Wops_run rfl rfl (Wops_go rfl (Wops_ld (v := .int .u64 0) rfl g2 rfl (Wops_go rfl (Wops_as (w := .bool true) rfl rfl (by simp) ?_)))))))))))
  refine Wops_run rfl rfl (Wops_run rfl rfl (Wops_go rfl (Wops_run rfl rfl (Wops_go rfl (Wops_ld (v := .slice none 0 0) rfl g12 rfl (Wops_go rfl (Wops_run rfl rfl (Wops_go rfl (Wops_ld (v := .slice none 0 0) rfl g2 rfl (Wops_go rfl (Wops_call rfl (C23 (xs := []) (ys := []) SlA.none SlA.none (by omega)) ?_)))))))))))
  rintro _ _ ⟨rfl, rfl⟩
  refine Wops_run rfl rfl (Wops_run rfl rfl (K_fin [(4, _)] rfl (?_)))
  exact K_ret (Told.mk _ rfl ⟨rfl, x1.trans x2⟩)
theorem win4 {vs W : List Value} {o : Nat} (hW : W.length = 4) (hl : o + 4 ≤ vs.length) (hc : ∀ r, r < 4 → vs[o + r]? = W[r]?) : (vs.drop o).take 4 = W := by
  apply List.ext_getElem?
  intro j
  by_cases hj : j < 4
  · rw [List.getElem?_take_of_lt hj, List.getElem?_drop, hc j hj]
  · rw [List.getElem?_eq_none (by simp; omega), List.getElem?_eq_none (by omega)]

set_option maxHeartbeats 4000000 in
/-- The lists compared. -/
theorem loopS {h : Heap} {w1 w3 w6 w9 w10 w11 : Value} {la ea lb eb : Option Addr} {lc ec ld ed : Nat} {xs ys : List Qm} {es : List Int} {kn : Env → Heap → Prop} {kx : Nat → Env → Heap → Prop} {kr : Env → Heap → Prop}
    (sa : SlA h 8 la xs.length lc (qsL xs)) (ta : SlA h 4 ea es.length ec (ersL es)) (sb : SlA h 8 lb ys.length ld (qsL ys)) (tb : SlA h 4 eb es.length ed (ersL es)) (ix : ∀ y ∈ xs, y.In h fun _ => True) (iy : ∀ y ∈ ys, y.In h fun _ => True)
    (e1 : xs.map Qm.r = ys.map Qm.r) (e2 : xs.length = es.length) (hb : xs.length ≤ 1000000)
    (hk : ∀ h', Ext0 h h' → kx 2 [(1, w1), (3, w3), (6, w6), (9, w9), (10, w10), (11, w11), (12, .slice la xs.length lc), (13, .slice ea es.length ec), (14, .slice lb ys.length ld), (15, .slice eb es.length ed), (16, .int .i64 (ys.length : Int)), (94, .bool false)] h') :
    W Try.prog (match F10.code with
      | .seq _ (.seq _ (.seq _ (.seq _ (.seq (.seq _ (.block _ (.loop (.seq _ (.seq (.block _ (.seq _ (.seq _ (.seq _ (.seq _ (.seq (.seq _ (.block _ b)) _)))))) _))))) _)))) => b
      | _ => .skip) [(1, w1), (3, w3), (6, w6), (9, w9), (10, w10), (11, w11), (12, .slice la xs.length lc), (13, .slice ea es.length ec), (14, .slice lb ys.length ld), (15, .slice eb es.length ed), (16, .int .i64 0)] h (K3 kn kx kr) := by
  have hxy : ys.length = xs.length := by have := congrArg List.length e1; simpa using this.symm
  refine K_loop (fun k e h' => ∃ i : Nat, e = [(1, w1), (3, w3), (6, w6), (9, w9), (10, w10), (11, w11), (12, .slice la xs.length lc), (13, .slice ea es.length ec), (14, .slice lb ys.length ld), (15, .slice eb es.length ed), (16, .int .i64 (i : Int))] ∧ i ≤ xs.length ∧ k = xs.length - i ∧ Ext0 h h') ?_ (k := xs.length) ⟨0, rfl, by omega, rfl, Ext.refl _ _⟩
  rintro k e h' ⟨i, rfl, hi, rfl, x'⟩
  refine K_ss (K_reg (Wops_run rfl rfl (Wops_run rfl rfl (Wops_run rfl rfl (Wops_run rfl rfl (K_fin [(1, _), (3, _), (6, _), (9, _), (10, _), (11, _), (12, _), (13, _), (14, _), (15, _), (16, _), (94, _)] rfl (?_)))))))
  refine K_scond rfl (fun hc => ?_) (fun hc => ?_)
  case refine_2 =>
    have hin : i = ys.length := by have := of_decide_eq_false hc; omega
    subst hin
    refine K_sexit ?_
    rw [hc]; exact hk h' x'
  have hiy : i < ys.length := by have := of_decide_eq_true hc; omega
  have hix : i < xs.length := by omega
  have hie : i < es.length := by omega
  have er : xs[i].r = ys[i].r := by
    have := List.getElem_of_eq e1 (i := i) (by simpa using hix)
    simpa using this
  have sa' := sa.ext x'
  have sb' := sb.ext x'
  have Ix := (ix _ (List.getElem_mem hix)).ext x' fun _ _ r => r
  have Iy := (iy _ (List.getElem_mem hiy)).ext x' fun _ _ r => r
  obtain ⟨id1, off1, vs1, ez1, ro1, ha1, hat1, hle1, _, hget1⟩ := sa'.at (by omega)
  obtain ⟨id2, off2, vs2, ez2, ro2, ha2, hat2, hle2, _, hget2⟩ := sb'.at (by omega)
  obtain ⟨id3, off3, vs3, ez3, ro3, ha3, hat3, hle3, _, hget3⟩ := (ta.ext x').at (by omega)
  obtain ⟨id4, off4, vs4, ez4, ro4, ha4, hat4, hle4, _, hget4⟩ := (tb.ext x').at (by omega)
  subst ha1 ha2 ha3 ha4
  have d1 : vs1.length ≥ off1 + (i : Int).toNat * 8 + 8 := by rw [Int.toNat_natCast]; omega
  have d2 : vs2.length ≥ off2 + (i : Int).toNat * 8 + 8 := by rw [Int.toNat_natCast]; omega
  have d3 : vs3.length ≥ off3 + (i : Int).toNat * 4 + 4 := by rw [Int.toNat_natCast]; omega
  have d4 : vs4.length ≥ off4 + (i : Int).toNat * 4 + 4 := by rw [Int.toNat_natCast]; omega
  have u1 : (vs1.drop (off1 + (i : Int).toNat * 8)).take 8 = xs[i].enc := win8 rfl (by omega) fun r' hr' => by
    rw [Int.toNat_natCast, Nat.add_assoc, hget1 _ (by omega), qsL_get xs i hix r' hr']
  have u2 : (vs2.drop (off2 + (i : Int).toNat * 8)).take 8 = ys[i].enc := win8 rfl (by omega) fun r' hr' => by
    rw [Int.toNat_natCast, Nat.add_assoc, hget2 _ (by omega), qsL_get ys i hiy r' hr']
  have u3 : (vs3.drop (off3 + (i : Int).toNat * 4)).take 4 = erL es[i] := win4 rfl (by omega) fun r' hr' => by
    rw [Int.toNat_natCast, Nat.add_assoc, hget3 _ (by omega), ersL_get es i hie r' hr']
  have u4 : (vs4.drop (off4 + (i : Int).toNat * 4)).take 4 = erL es[i] := win4 rfl (by omega) fun r' hr' => by
    rw [Int.toNat_natCast, Nat.add_assoc, hget4 _ (by omega), ersL_get es i hie r' hr']
  have by1 := Ix.2.2.2.2
  have by2 := Iy.2.2.2.2
  have bn1 : (0 : Int) ≤ (i : Int) ∧ (i : Int) < (xs.length : Int) := by omega
  have bn2 : (0 : Int) ≤ (i : Int) ∧ (i : Int) < (ys.length : Int) := by omega
  have bn3 : (0 : Int) ≤ (i : Int) ∧ (i : Int) < (es.length : Int) := by omega
  refine K_sskip (K_sblock ?_)
  refine K_reg (Wops_run rfl rfl (Wops_run rfl rfl (Wops_iaV rfl rfl bn1 (Wops_ldA rfl hat1 (by omega) u1 (Wops_run rfl rfl (Wops_run rfl rfl (Wops_iaV rfl rfl bn2 (Wops_ldA rfl hat2 (by omega) u2 ?_))))))))
  refine Wops_call rfl (C16 Ix.1 Ix.2.1 Iy.1 Iy.2.1 by1.1 by2.1 by1.2.1 by2.2.1 (by have := by1.2.2; omega)) ?_
  rintro _ h2 ⟨rfl, x2⟩
  have hat3' := hat3.ext x2
  have hat4' := hat4.ext x2
  refine Wops_as (w := .bool false) rfl rfl (by rw [decide_eq_true er]; rfl) (Wops_run rfl rfl (Wops_go rfl (Wops_run rfl rfl (Wops_go rfl (Wops_run rfl rfl (Wops_go rfl (Wops_iaV rfl rfl bn3 (Wops_go rfl (Wops_ldA rfl hat3' (by omega) u3 ?_)))))))))
  refine Wops_go rfl (Wops_run rfl rfl (Wops_go rfl (Wops_run rfl rfl (Wops_go rfl (Wops_iaV rfl rfl bn3 (Wops_go rfl (Wops_ldA rfl hat4' (by omega) u4 (Wops_go rfl (Wops_call rfl C26e ?_)))))))))
  rintro _ h3 ⟨rfl, x3⟩
  refine Wops_go rfl (Wops_run rfl rfl (Wops_run rfl rfl (K_fin [(1, _), (3, _), (6, _), (9, _), (10, _), (11, _), (12, _), (13, _), (14, _), (15, _), (16, _), (118, _)] rfl (?_))))
  refine K_cond rfl (fun hc => by cases hc) (fun _ => K_skip ?_)
  refine K_last (Wops_run rfl rfl (Wops_run rfl rfl (Wops_run rfl rfl (K_finL [(1, _), (3, _), (6, _), (9, _), (10, _), (11, _), (12, _), (13, _), (14, _), (15, _), (16, _)] rfl (?_)))))
  exact ⟨xs.length - (i + 1), by omega, i + 1, by rw [w64s (by omega)], by omega, rfl, (x'.trans x2).trans x3⟩

end
section
/- SessAll: the walk. -/
set_option linter.unusedVariables false
set_option linter.unusedSimpArgs false

/-- Pieces that came in. -/
def InBys (h : Heap) (l : List Value) (n : Nat) : Prop :=
  ∀ i, i < n → ∃ (a : Option Addr) (m c : Nat) (ys : List Int), l[i]? = some (.slice a m c) ∧ InS h a m c (ints .u8 ys) ∧ Byte ys

theorem splitF_count2 : ∀ (k : Nat) (bs : List Int), (splitF k bs).1.length ≤ k
  | 0, bs => Nat.le_refl _
  | k + 1, bs => by
    simp only [splitF]
    cases hx : nextF bs with
    | short => exact Nat.zero_le _
    | long => exact Nat.zero_le _
    | whole f rest => have := splitF_count2 k rest; simp only [List.length_cons]; omega
theorem addR_count2 (bs ys : List Int) (bad : Bool) : (addR bs bad ys).1.length ≤ bs.length + ys.length := by
  unfold addR
  split
  · exact Nat.zero_le _
  · have := splitF_count2 (bs ++ ys).length (bs ++ ys)
    rw [← List.length_append]; exact this

/-- The blocks that a run has for itself. -/
def Own (p pp pt pr : Nat) (ao bo : Option Addr) (i : Nat) : Prop := i = p ∨ i = pp ∨ i = pt ∨ i = pr ∨ Blk ao i ∨ Blk bo i
/-- Both sessions, after so much. -/
structure SS (h h' : Heap) (p pp pt pr : Nat) (rv : List Value) (w1 w2 : Value) (ao bo : Option Addr) (no co dd : Nat) (bs : List Int) (bad : Bool) (O : List Int) : Prop where
  x : Ext0 h h'
  l : h.next ≤ p ∧ h.next ≤ pp ∧ h.next ≤ pt ∧ h.next ≤ pr
  ne : p ≠ pp ∧ p ≠ pt ∧ p ≠ pr ∧ pp ≠ pt ∧ pp ≠ pr ∧ pt ≠ pr
  r : At h' pr (.cells rv 0 false)
  g : At h' p (.cells [ptr pp, w1, w2, .slice ao no co] 0 false)
  o : OwS h' 1 ao no co (ints .u8 O)
  lo : ∀ i, Blk ao i → h.next ≤ i ∧ i ≠ p ∧ i ≠ pp ∧ i ≠ pt ∧ i ≠ pr
  q : Pt (Own p pp pt pr ao bo) h' pp bs bad
  t : PtR (Own p pp pt pr ao bo) h' pt [.int .u64 0, .slice none 0 0, .slice none 0 0, .slice none 0 0, .slice bo no dd] bs bad
  b : SlA h' 1 bo no dd (ints .u8 O)
  lb : ∀ i, Blk bo i → h.next ≤ i ∧ i ≠ p ∧ i ≠ pp ∧ i ≠ pt ∧ i ≠ pr ∧ ¬ Blk ao i ∧ i < h'.next
  w : Byte bs

theorem SS.lt {h h' : Heap} {p pp pt pr : Nat} {rv : List Value} {w1 w2 : Value} {ao bo : Option Addr} {no co dd : Nat} {bs : List Int} {bad : Bool} {O : List Int} (t : SS h h' p pp pt pr rv w1 w2 ao bo no co dd bs bad O) : ∀ i, Own p pp pt pr ao bo i → i < h'.next := by
  intro i r
  rcases r with r | r | r | r | r | r
  · rw [r]; exact t.g.lt
  · rw [r]; obtain ⟨_, a, n, c, h1, _⟩ := t.q; exact h1.lt
  · rw [r]; exact t.t.lt
  · rw [r]; exact t.r.lt
  · exact t.o.lt r
  · exact (t.lb i r).2.2.2.2.2.2

set_option maxHeartbeats 4000000 in
/-- SessAll -/
theorem C10 {h : Heap} {idn er tms : Int} {a0 a : Option Addr} {n0 c0 n c tok han : Nat} {l0 : List Value} {vs : List Nat} (s0 : SlA h 1 a0 n0 c0 l0) (hin : InBys h l0 n0) (sv : SlA h 1 a n c (u64s vs)) (la : ∀ i, Blk a i → i < h.next)
    (ht : tok < 18446744073709551616) (hh : han < 18446744073709551616) (hv : ∀ v ∈ vs, v < 18446744073709551616) :
    Fn Try.prog 10 [.int .i64 idn, .slice a0 n0 c0, .agg ⟨[.int .u64 (tok : Int), .int .i64 er, .int .u64 (han : Int), .slice a n c]⟩, .int .i64 tms] h fun v _ => v = .bool true := by
  refine fnK F10.fok rfl ?_
  refine K_reg (Wops_box (cs := [.int .u64 (tok : Int), .int .i64 er, .int .u64 (han : Int), .slice a n c]) rfl rfl fun hr nr xr gr => ?_)
  have zr := xr.next
  refine Wops_run rfl rfl (K_fin [(0, _), (1, _), (3, _), (6, _)] rfl (?_))
  refine K_ss (K_reg (Wops_call rfl C27 ?_))
  rintro _ _ ⟨rfl, rfl⟩
  refine Wops_run rfl rfl (K_fin [(0, _), (1, _), (3, _), (6, _), (21, _)] rfl (?_))
  refine K_scond rfl (fun hc => by cases hc) (fun _ => ?_)
  refine K_sskip (K_ss (K_reg (Wops_run rfl rfl (Wops_run rfl rfl ?_))))
  have no : ∀ {e : Env} {kn kx}, W Try.prog (.seq (.region [⟨some 8, none, .mov (.c (.bool true))⟩] [8]) .ret) e hr (K3 kn kx (Told F10.res fun v _ => v = .bool true)) := by
    intro e kn kx
    refine K_reg (Wops_run rfl rfl (K_fin [(8, _)] rfl (?_)))
    exact K_ret (Told.mk _ rfl rfl)
  by_cases h1 : n0 > 12
  · refine Wops_as (w := .bool true) rfl rfl (by rw [decide_eq_true (by omega)]) (Wops_run rfl rfl ?_)
    (repeat (first | refine Wops_skip rfl ?_ | refine Wops_run rfl rfl ?_))
    refine K_fin [(0, _), (1, _), (3, _), (6, _), (44, _)] rfl (?_)
    refine K_scond rfl (fun _ => ?_) (fun hc => by cases hc)
    refine K_ss (K_reg (Wops_run rfl rfl (K_fin [(8, _)] rfl (?_))))
    exact K_sret (Told.mk _ rfl rfl)
  refine Wops_as (w := .bool false) rfl rfl (by rw [decide_eq_false (by omega)]) (Wops_run rfl rfl (Wops_go rfl (Wops_run rfl rfl (Wops_go rfl (Wops_ld (v := .slice a n c) rfl gr rfl (Wops_go rfl (Wops_run rfl rfl (Wops_go rfl ?_))))))))
  by_cases h2 : n > 8
  · refine Wops_as (w := .bool true) rfl rfl (by rw [decide_eq_true (by omega)]) (Wops_run rfl rfl (Wops_run rfl rfl ?_))
    (repeat (first | refine Wops_skip rfl ?_ | refine Wops_run rfl rfl ?_))
    refine K_fin [(0, _), (1, _), (3, _), (6, _), (44, _)] rfl (?_)
    refine K_scond rfl (fun _ => ?_) (fun hc => by cases hc)
    refine K_ss (K_reg (Wops_run rfl rfl (K_fin [(8, _)] rfl (?_))))
    exact K_sret (Told.mk _ rfl rfl)
  refine Wops_as (w := .bool false) rfl rfl (by rw [decide_eq_false (by omega)]) (Wops_run rfl rfl (Wops_run rfl rfl (Wops_go rfl (Wops_run rfl rfl (Wops_go rfl (Wops_ld (v := .int .i64 er) rfl gr rfl (Wops_go rfl ?_)))))))
  by_cases h3 : er < 0
  · refine Wops_as (w := .bool true) rfl rfl (by rw [decide_eq_true (by omega)]) (Wops_run rfl rfl (Wops_run rfl rfl ?_))
    (repeat (first | refine Wops_skip rfl ?_ | refine Wops_run rfl rfl ?_))
    refine K_fin [(0, _), (1, _), (3, _), (6, _), (44, _)] rfl (?_)
    refine K_scond rfl (fun _ => ?_) (fun hc => by cases hc)
    refine K_ss (K_reg (Wops_run rfl rfl (K_fin [(8, _)] rfl (?_))))
    exact K_sret (Told.mk _ rfl rfl)
  refine Wops_as (w := .bool false) rfl rfl (by rw [decide_eq_false (by omega)]) (Wops_run rfl rfl (Wops_run rfl rfl (Wops_go rfl (Wops_run rfl rfl (Wops_go rfl (Wops_ld (v := .int .i64 er) rfl gr rfl (Wops_go rfl ?_)))))))
  by_cases h4 : er > 17
  · refine Wops_as (w := .bool true) rfl rfl (by rw [decide_eq_true (by omega)]) (Wops_run rfl rfl (Wops_run rfl rfl ?_))
    (repeat (first | refine Wops_skip rfl ?_ | refine Wops_run rfl rfl ?_))
    refine K_fin [(0, _), (1, _), (3, _), (6, _), (44, _)] rfl (?_)
    refine K_scond rfl (fun _ => ?_) (fun hc => by cases hc)
    refine K_ss (K_reg (Wops_run rfl rfl (K_fin [(8, _)] rfl (?_))))
    exact K_sret (Told.mk _ rfl rfl)
  refine Wops_as (w := .bool false) rfl rfl (by rw [decide_eq_false (by omega)]) (Wops_run rfl rfl (Wops_run rfl rfl (Wops_go rfl (Wops_run rfl rfl (Wops_go rfl ?_)))))
  by_cases h5 : tms > 20
  · refine Wops_as (w := .bool true) rfl rfl (by rw [decide_eq_true (by omega)]) (Wops_run rfl rfl (K_fin [(0, _), (1, _), (3, _), (6, _), (44, _)] rfl (?_)))
    refine K_scond rfl (fun _ => ?_) (fun hc => by cases hc)
    refine K_ss (K_reg (Wops_run rfl rfl (K_fin [(8, _)] rfl (?_))))
    exact K_sret (Told.mk _ rfl rfl)
  refine Wops_as (w := .bool false) rfl rfl (by rw [decide_eq_false (by omega)]) (Wops_run rfl rfl (K_fin [(0, _), (1, _), (3, _), (6, _), (44, _)] rfl (?_)))
  refine K_scond rfl (fun hc => by cases hc) (fun _ => ?_)
  obtain ⟨en, rfl⟩ : ∃ en : Nat, er = en := ⟨er.toNat, by omega⟩
  obtain ⟨r, hr0⟩ : ∃ r : Rp, r = ⟨tok, en, han, vs⟩ := ⟨_, rfl⟩
  have hrv : [Value.int .u64 (tok : Int), .int .i64 (en : Int), .int .u64 (han : Int), .slice a n c] = RpV r a n c := by rw [hr0]; rfl
  rw [hrv] at gr
  replace gr : At hr h.next (.cells (RpV r a n c) 0 false) := gr
  have k0 : r.In h a n c := by rw [hr0]; exact ⟨sv, by omega, ht, by show en < 256; omega, hh, hv⟩
  -- the two sessions
  refine K_sskip (K_reg (Wops_run rfl rfl (Wops_call rfl C29' ?_)))
  rintro _ h1' ⟨p, pp, w1, w2, rfl, gp, qp, nep, xp, lp, lpp⟩
  have zp := xp.next
  have gpl := gp.lt
  have qpl := qp.lt
  have grl := gr.lt
  refine Wops_run rfl rfl (Wops_box (cs := [.slice none 0 0, .bool false, .int .u64 0, .slice none 0 0, .slice none 0 0, .slice none 0 0, .slice none 0 0]) rfl rfl fun h2' nt xt gt => Wops_run rfl rfl (Wops_run rfl rfl (K_fin [(1, _), (3, _), (6, _), (9, _), (10, _)] rfl (?_))))
  have zt := xt.next
  refine K_ss (K_reg (Wops_run rfl rfl (K_fin [(1, _), (3, _), (6, _), (9, _), (10, _), (11, _)] rfl (?_))))
  have start : SS h h2' p pp h1'.next h.next (RpV r a n c) w1 w2 none none 0 0 0 [] false [] := by
    refine ⟨(xr.trans xp).trans xt, ⟨by omega, by omega, by omega, by omega⟩, ⟨nep, by omega, by omega, by omega, by omega, by omega⟩, (gr.ext xp).ext xt, gp.ext xt, OwS.none, fun i r => absurd r Blk.none, ⟨.inr (.inl rfl), none, 0, 0, qp.ext xt, SlA.none, fun i r => absurd r Blk.none⟩, ⟨.inr (.inr (.inl rfl)), none, 0, 0, gt, SlA.none, fun i r => absurd r Blk.none⟩, SlA.none, fun i r => absurd r Blk.none, fun x hx => by cases hx⟩
  generalize h1'.next = pt at *
  generalize h.next = pr at gr start ⊢
  clear gt xt nt gp qp xp lp lpp zp gpl qpl gr grl nep zt zr xr nr
  refine K_sblock ?_
  refine K_loop (fun kk e h' => ∃ (i : Nat) (ao bo : Option Addr) (no co dd : Nat) (bs : List Int) (bad : Bool) (O : List Int), e = [(1, .slice a0 n0 c0), (3, .int .i64 tms), (6, ptr pr), (9, ptr p), (10, ptr pt), (11, .int .i64 (i : Int))] ∧ i ≤ n0 ∧ kk = n0 - i ∧ bs.length ≤ i * 60 ∧ no ≤ i * 4040 ∧
      SS h h' p pp pt pr (RpV r a n c) w1 w2 ao bo no co dd bs bad O) ?_ (k := n0) ⟨0, none, none, 0, 0, 0, [], false, [], rfl, Nat.zero_le _, rfl, Nat.zero_le _, Nat.zero_le _, start⟩
  clear start
  rintro kk e h' ⟨i, ao, bo, no, co, dd, bs, bad, O, rfl, hi, rfl, hbl, hnl, t⟩
  have arg : ∀ {h'}, Ext0 h h' → SlA h' 1 a0 n0 c0 l0 := fun x => s0.ext x
  refine K_ss (K_reg (Wops_run rfl rfl (Wops_run rfl rfl (Wops_run rfl rfl (Wops_run rfl rfl (K_fin [(1, _), (3, _), (6, _), (9, _), (10, _), (11, _), (52, _)] rfl (?_)))))))
  refine K_scond rfl (fun hc => ?_) (fun hc => ?_)
  · have hlt : i < n0 := by have := of_decide_eq_true hc; omega
    obtain ⟨a1, m1, c1, ys, u1, sy, wy⟩ := hin i hlt
    have hm1 : ys.length = m1 := by simpa using sy.sl.len
    refine K_sskip (K_sblock ?_)
    refine K_ss (K_reg (Wops_run rfl rfl (Wops_run rfl rfl (Wops_idx (u := .slice a1 m1 c1) rfl rfl (arg t.x) ⟨by omega, by omega⟩ (by simpa using u1) fun _ => ?_))))
    refine Wops_run rfl rfl (Wops_run rfl rfl (K_fin [(1, _), (3, _), (6, _), (9, _), (10, _), (11, _), (60, _)] rfl (?_)))
    refine K_scond rfl (fun hc => ?_) (fun hc => ?_)
    · refine K_ss (K_reg (Wops_run rfl rfl (K_fin [(8, _)] rfl (?_))))
      exact K_sret (Told.mk _ rfl rfl)
    have h60 : m1 ≤ 60 := by have := of_decide_eq_false hc; omega
    have hMl := t.lt
    -- Feed
    refine K_sskip (K_reg (Wops_run rfl rfl (Wops_run rfl rfl (Wops_run rfl rfl (Wops_idx (u := .slice a1 m1 c1) rfl rfl (arg t.x) ⟨by omega, by omega⟩ (by simpa using u1) fun _ => ?_)))))
    have qs : Se (Own p pp pt pr ao bo) h' p pp bs bad := ⟨⟨_, t.g⟩, t.ne.1, t.q⟩
    refine Wops_call rfl (C30' qs hMl t.w (sy.ext0 t.x) wy (by omega) (by omega)) ?_
    rintro _ h1 ⟨x1, q1, la1, lc1, ea1, ec1, xs, es, rfl, f1, hxs, hes⟩
    have z1 := x1.next
    have X1 : Ext0 h h1 := t.x.then x1 fun j q => .inr (by rw [q]; exact t.l.2.1)
    refine Wops_run rfl rfl (Wops_run rfl rfl (Wops_run rfl rfl (Wops_run rfl rfl (Wops_run rfl rfl (K_fin [(1, _), (3, _), (6, _), (9, _), (10, _), (11, _), (12, _), (13, _)] rfl (?_))))))
    -- the document's Feed
    refine K_reg (Wops_run rfl rfl (Wops_run rfl rfl (Wops_run rfl rfl (Wops_idx (u := .slice a1 m1 c1) rfl rfl (arg X1) ⟨by omega, by omega⟩ (by simpa using u1) fun _ => ?_))))
    have nppt : ¬ pt = pp := fun w => t.ne.2.2.2.1 w.symm
    have t1 := t.t.ext x1 nppt fun j q => .inl (by rw [q]; exact .inr (.inl rfl))
    refine Wops_call rfl (C34' t1 (fun j q => Nat.lt_of_lt_of_le (hMl j q) z1) t.w (sy.ext0 X1) wy (by omega) (by omega)) ?_
    rintro _ h2 ⟨x2, t2, lb1, ld1, eb1, ed1, ys', es', rfl, f2, hys, hes'⟩
    have z2 := x2.next
    have X2 : Ext0 h h2 := X1.then x2 fun j q => .inr (by rw [q]; exact t.l.2.2.1)
    obtain rfl : es = es' := by rw [hes, hes']
    have hxy : xs.map Qm.r = ys'.map Qm.r := by rw [hxs, hys]
    have hxl : xs.length = ys'.length := by have := congrArg List.length hxy; simpa using this
    have hel : xs.length = es.length := by
      have h1 := congrArg List.length hxs
      have h2 := congrArg List.length hes
      simp only [List.length_map] at h1 h2; omega
    obtain ⟨hbl', -, hwr⟩ := addR_facts bad t.w wy
    have hask : (askR bs bad ys).length ≤ 1000000 := by
      unfold askR asks
      split
      · exact Nat.zero_le _
      · have := addR_count2 bs ys bad
        simp only [List.length_append, List.length_map]
        have : (if (addR bs bad ys).2.2.2 ≠ 0 then [(Rq.zero, (addR bs bad ys).2.2.2)] else []).length ≤ 1 := by split <;> simp
        omega
    have hxb : xs.length ≤ 1000000 := by have h1 := congrArg List.length hxs; simp only [List.length_map] at h1; omega
    generalize addR bs bad ys = R at q1 t2 hbl' hwr
    obtain ⟨fs, bs', bad', erR⟩ := R
    simp only [] at q1 t2 hbl' hwr
    refine Wops_run rfl rfl (Wops_run rfl rfl (Wops_run rfl rfl (Wops_run rfl rfl (Wops_run rfl rfl (K_fin [(1, _), (3, _), (6, _), (9, _), (10, _), (11, _), (12, _), (13, _), (14, _), (15, _)] rfl (?_))))))
    refine K_ss (K_reg (Wops_run rfl rfl (Wops_run rfl rfl (Wops_run rfl rfl (Wops_run rfl rfl (Wops_neq (v := false) rfl rfl (by simp; omega) (Wops_run rfl rfl (Wops_go rfl (Wops_run rfl rfl (Wops_go rfl (Wops_run rfl rfl (Wops_go rfl (Wops_run rfl rfl (Wops_go rfl (Wops_run rfl rfl (Wops_go rfl (Wops_neq (v := false) rfl rfl (by simp) (Wops_run rfl rfl (K_fin [(1, _), (3, _), (6, _), (9, _), (10, _), (11, _), (12, _), (13, _), (14, _), (15, _), (90, _)] rfl (?_))))))))))))))))))))
    refine K_scond rfl (fun hc => by cases hc) (fun _ => ?_)
    refine K_sskip (K_ss (K_reg (Wops_run rfl rfl (K_fin [(1, _), (3, _), (6, _), (9, _), (10, _), (11, _), (12, _), (13, _), (14, _), (15, _), (16, _)] rfl (?_)))))
    have f12 := f1.ext x2 fun j q => .inl (by rw [q]; exact t.t.lt)
    refine K_sblock (loopS f12.l.sl f12.e.sl f2.l.sl f2.e.sl (fun y hy => (f12.q y hy).mono fun _ _ => trivial) (fun y hy => (f2.q y hy).mono fun _ _ => trivial) hxy hel hxb fun h3 x3 => bx_same ?_)
    have z3 := x3.next
    have X3 : Ext0 h h3 := X2.trans x3
    obtain ⟨lp, lpp, lpt, lpr⟩ := t.l
    obtain ⟨n12, n13, n14, n23, n24, n34⟩ := t.ne
    have plt : p < h'.next := t.g.lt
    have pplt : pp < h'.next := hMl pp (.inr (.inl rfl))
    have ptlt : pt < h'.next := t.t.lt
    have prlt : pr < h'.next := t.r.lt
    have gp3 := ((t.g.ext x1 n12).ext x2 n13).ext x3
    have r3 := ((t.r.ext x1 fun w => n24 w.symm).ext x2 fun w => n34 w.symm).ext x3
    have o3 := ((t.o.ext x1 fun j q w => (t.lo j q).2.2.1 w).ext x2 fun j q w => (t.lo j q).2.2.2.1 w).ext x3
    have b3 := ((t.b.ext x1 fun j q w => (t.lb j q).2.2.1 w).ext x2 fun j q w => (t.lb j q).2.2.2.1 w).ext x3
    have q3 := (q1.2.2.ext x2 n23 fun j q => by rw [q]; exact .inr (.inr (.inl rfl))).ext0 x3
    have t3 := t2.ext0 x3
    obtain ⟨M, hM⟩ : ∃ M : Nat → Prop, M = fun j => Own p pp pt pr ao bo j ∨ h3.next ≤ j := ⟨_, rfl⟩
    have M1 : ∀ j, M j → Own p pp pt pr ao bo j ∨ h3.next ≤ j := fun j q => by rw [hM] at q; exact q
    have M2 : ∀ j, Own p pp pt pr ao bo j ∨ h3.next ≤ j → M j := fun j q => by rw [hM]; exact q
    replace q3 : Pt M h3 pp bs' bad' := q3.swap M1 (M2 _ (.inl (.inr (.inl rfl))))
    replace t3 := t3.swap M1 (M2 _ (.inl (.inr (.inr (.inl rfl)))))
    have nao : ∀ {j}, Blk ao j → j ≠ p ∧ j ≠ pp ∧ j ≠ pt ∧ j ≠ pr := fun {j} q => (t.lo j q).2
    -- Tell
    have k3 : r.In h3 a n c := k0.ext X3 fun j q w => w
    refine K_reg (Wops_run rfl rfl (Wops_ldA (l := RpV r a n c) rfl r3 (by simp [RpV]) rfl (Wops_run rfl rfl (Wops_call rfl (C32 gp3 o3 (fun q => (nao q).1 rfl) k3 (fun j q => ⟨fun w => by have := la j q; omega, fun w => by have := la j q; have := (t.lo j w).1; omega⟩) (by omega) (by omega)) ?_))))
    rintro v4 h4 ⟨ao', no', co', gp4, o4, x4, b4⟩
    have z4 := x4.next
    refine K_fin [(1, _), (3, _), (6, _), (9, _), (10, _), (11, _)] rfl (?_)
    have r4 := r3.ext x4 fun w => w.elim (fun w => n14 w.symm) fun w => (nao w).2.2.2 rfl
    have M4 : ∀ j, (j = p ∨ Blk ao j) → M j := fun j w => M2 j (.inl (w.elim (fun w => .inl w) fun w => .inr (.inr (.inr (.inr (.inl w))))))
    have q4 := q3.ext x4 (fun w => w.elim (fun w => n12 w.symm) fun w => (nao w).2.1 rfl) M4
    have t4 := t3.ext x4 (fun w => w.elim (fun w => n13 w.symm) fun w => (nao w).2.2.1 rfl) fun j w => .inl (M4 j w)
    have b4s := b3.ext x4 fun j q w => w.elim (t.lb j q).2.1 (t.lb j q).2.2.2.2.2.1
    obtain ⟨_, at', nt', ct', gt4, st4, dt4⟩ := id t4
    have k4 : r.In h4 a n c := k3.ext x4 fun j q w => by
      have := la j q
      rcases w with w | w
      · omega
      · have := (t.lo j w).1; omega
    -- the document's Tell
    refine K_reg (Wops_run rfl rfl (Wops_ldA (l := RpV r a n c) rfl r4 (by simp [RpV]) rfl (Wops_run rfl rfl (Wops_call rfl (C35 gt4 b4s (fun j q => ⟨(t.lb j q).2.2.2.1, by have := (t.lb j q).2.2.2.2.2.2; omega⟩) k4 (fun j q w => by have := la j q; omega) (by omega) (by omega)) ?_))))
    rintro v5 h5 ⟨bo', nb', dd', gt5, b5, x5, lb5⟩
    have z5 := x5.next
    refine K_fin [(1, _), (3, _), (6, _), (9, _), (10, _), (11, _)] rfl (?_)
    have len4 : (O ++ tld r tms.toNat).length = no' := by simpa using o4.sl.len
    have len5 : (O ++ tld r tms.toNat).length = nb' := by simpa using b5.len
    obtain rfl : no' = nb' := by omega
    have len0 : O.length = no := by simpa using t.o.sl.len
    have ltl := tld_len k0 tms.toNat
    rw [List.length_append] at len4
    have hno' : no' ≤ (i + 1) * 4040 := by omega
    generalize O ++ tld r tms.toNat = O' at o4 b5 len5
    have nptj : M pt := M2 _ (.inl (.inr (.inr (.inl rfl))))
    have t5 : PtR M h5 pt [.int .u64 0, .slice none 0 0, .slice none 0 0, .slice none 0 0, .slice bo' no' dd'] bs' bad' :=
      ⟨nptj, at', nt', ct', gt5, st4.ext x5 fun j q w => (dt4 j q).1 (by rw [w]; exact nptj), fun j q => ⟨(dt4 j q).1, by have := (dt4 j q).2; omega⟩⟩
    have q5 := q4.ext x5 n23 fun j w => by rw [w]; exact nptj
    have gp5 := gp4.ext x5 n13
    have b4' : ∀ j, Blk ao' j → h.next ≤ j ∧ j ≠ p ∧ j ≠ pp ∧ j ≠ pt ∧ j ≠ pr := fun j q => by
      rcases b4 j q with w | w
      · exact t.lo j w
      · exact ⟨by omega, by omega, by omega, by omega, by omega⟩
    have o5 := o4.ext x5 fun j q w => (b4' j q).2.2.2.1 w
    have r5 := r4.ext x5 fun w => n34 w.symm
    -- Out, Dead
    refine K_reg (Wops_run rfl rfl (Wops_run rfl rfl (Wops_run rfl rfl (Wops_run rfl rfl (Wops_ld (v := .slice bo' no' dd') rfl gt5 rfl (Wops_toStr rfl b5 (Wops_call rfl (C33 gp5 o5.sl (by omega)) ?_)))))))
    rintro _ h6 ⟨a6, c6, rfl, o6, x6, b6⟩
    have z6 := x6.next
    have gt6 := gt5.ext x6
    have gp6 := gp5.ext x6
    have q6 := q5.ext0 x6
    refine Wops_chk rfl rfl gt6 (v := .slice bo' no' dd') rfl b5.same (Wops_chkT rfl (b5.ext x6) rfl (Wops_toStr rfl o6.sl (Wops_strne (v := false) rfl rfl (by simp) (Wops_run rfl rfl ?_))))
    refine Wops_go rfl (Wops_run rfl rfl (Wops_go rfl (Wops_run rfl rfl (Wops_go rfl (Wops_run rfl rfl (Wops_go rfl (Wops_run rfl rfl (Wops_go rfl (Wops_run rfl rfl (Wops_go rfl (Wops_ld (v := .bool bad') rfl gt6 rfl (Wops_go rfl (Wops_call rfl (C31 gp6 q6) ?_)))))))))))))
    rintro _ _ ⟨rfl, rfl⟩
    refine Wops_go rfl (Wops_chk rfl rfl gt6 (v := .bool bad') rfl (by cases bad' <;> rfl) (Wops_go rfl (Wops_as (w := .bool false) rfl rfl (by cases bad' <;> rfl) (Wops_run rfl rfl (K_fin [(1, _), (3, _), (6, _), (9, _), (10, _), (11, _), (145, _)] rfl (?_))))))
    refine K_cond rfl (fun hc => by cases hc) (fun _ => K_skip ?_)
    refine K_last (Wops_run rfl rfl (Wops_run rfl rfl (Wops_run rfl rfl (K_finL [(1, _), (3, _), (6, _), (9, _), (10, _), (11, _)] rfl (?_)))))
    have own : ∀ j, Own p pp pt pr ao' bo' j → M j := fun j w => by
      rcases w with w | w | w | w | w | w
      · exact M2 j (.inl (.inl w))
      · exact M2 j (.inl (.inr (.inl w)))
      · exact M2 j (.inl (.inr (.inr (.inl w))))
      · exact M2 j (.inl (.inr (.inr (.inr (.inl w)))))
      · exact M2 j ((b4 j w).imp (fun w => .inr (.inr (.inr (.inr (.inl w))))) id)
      · exact M2 j ((lb5 j w).1.imp (fun w => .inr (.inr (.inr (.inr (.inr w))))) fun w => by omega)
    refine ⟨n0 - (i + 1), by omega, i + 1, ao', bo', no', co', dd', bs', bad', O', by rw [w64s (by omega)], by omega, rfl, by omega, hno', ?_⟩
    refine ⟨((X3.then x4 fun j w => .inr (w.elim (fun w => by omega) fun w => (t.lo j w).1)).then x5 fun j w => .inr (by omega)).trans x6, t.l, t.ne, r5.ext x6, gp6, o5.ext x6, b4', q6.swap (fun j w => .inl (own j w)) (.inr (.inl rfl)), (t5.ext0 x6).swap (fun j w => .inl (own j w)) (.inr (.inr (.inl rfl))), b5.ext x6, fun j q => ?_, hwr⟩
    have hj := lb5 j q
    rcases hj.1 with w | w
    · have hb := t.lb j w
      exact ⟨hb.1, hb.2.1, hb.2.2.1, hb.2.2.2.1, hb.2.2.2.2.1, fun z => (b4 j z).elim hb.2.2.2.2.2.1 fun z => by have := hb.2.2.2.2.2.2; omega, by omega⟩
    · exact ⟨by omega, by omega, by omega, by omega, by omega, fun z => by have := o4.lt z; omega, by omega⟩
  · refine K_sexit (bx_same ?_)
    refine K_reg (Wops_run rfl rfl (K_fin [(6, _), (17, _)] rfl (?_)))
    refine K_reg (Wops_run rfl rfl (Wops_ldA (l := RpV r a n c) rfl t.r (by simp [RpV]) rfl (Wops_call rfl C32nil ?_)))
    rintro v1 h1 x1
    refine K_fin [(17, _)] rfl (?_)
    refine K_reg (Wops_run rfl rfl (Wops_bslice (l := [.int .u8 1]) rfl rfl fun h2 n2 x2 g2 => ?_))
    refine Wops_call rfl C30nil ?_
    rintro _ _ ⟨rfl, rfl⟩
    refine Wops_run rfl rfl (Wops_run rfl rfl (Wops_run rfl rfl (Wops_run rfl rfl (Wops_run rfl rfl (K_fin [(17, _), (18, _), (19, _)] rfl (?_))))))
    refine K_reg (Wops_run rfl rfl (Wops_run rfl rfl (Wops_run rfl rfl (Wops_run rfl rfl (Wops_run rfl rfl (Wops_run rfl rfl (Wops_call rfl C33nil ?_)))))))
    rintro _ _ ⟨rfl, rfl⟩
    refine Wops_run rfl rfl (Wops_run rfl rfl (Wops_run rfl rfl (Wops_run rfl rfl (Wops_go rfl (Wops_run rfl rfl (Wops_go rfl (Wops_call rfl C31nil ?_)))))))
    rintro _ _ ⟨rfl, rfl⟩
    refine Wops_go rfl (Wops_run rfl rfl (Wops_run rfl rfl (Wops_run rfl rfl (Wops_go rfl (Wops_run rfl rfl (Wops_go rfl (Wops_call rfl C36nil ?_)))))))
    rintro _ _ ⟨rfl, rfl⟩
    refine Wops_go rfl (Wops_run rfl rfl (Wops_run rfl rfl (Wops_run rfl rfl (Wops_go rfl (Wops_run rfl rfl (Wops_go rfl (Wops_call rfl C37nil ?_)))))))
    rintro _ _ ⟨rfl, rfl⟩
    refine Wops_go rfl (Wops_run rfl rfl (Wops_run rfl rfl (Wops_run rfl rfl (Wops_go rfl (Wops_run rfl rfl (Wops_go rfl (Wops_call rfl C38nil ?_)))))))
    rintro _ _ ⟨rfl, rfl⟩
    refine Wops_go rfl (Wops_run rfl rfl (Wops_run rfl rfl (Wops_run rfl rfl (K_fin [(8, _)] rfl (?_)))))
    exact K_ret (Told.mk _ rfl rfl)

end
section
/- SessAll: its arguments. -/
set_option linter.unusedVariables false
set_option linter.unusedSimpArgs false

theorem cells23' : Try.prog.cellsOf 23 = 1 := by kernel_rfl
theorem cells5' : Try.prog.cellsOf 5 = 1 := by kernel_rfl
theorem cells22' : Try.prog.cellsOf 22 = 1 := by kernel_rfl
set_option maxRecDepth 100000 in
theorem sessAll_fn {b : Base} {N : Nat} {vs : List Value} (h0 : 0 < N) (hd : ∀ id l, b id = some l → id < N) (hb : b 0 = none) (hG : ArgsG Try.prog b 4 [3, 59, 41, 3] vs) : Fn Try.prog 10 vs (heapIn b N) fun v _ => v = .bool true := by
  obtain ⟨v1, r1, rfl, g1, hr1⟩ := ArgsG_cons hG
  obtain ⟨v2, r2, rfl, g2, hr2⟩ := ArgsG_cons hr1
  obtain ⟨v3, r3, rfl, g3, hr3⟩ := ArgsG_cons hr2
  obtain ⟨v4, r4, rfl, g4, hr4⟩ := ArgsG_cons hr3
  obtain rfl := ArgsG_nil hr4
  obtain ⟨idn, hidn, _⟩ := GV_int Try.underlying3 (GA_int Try.underlying3 g1)
  obtain rfl : v1 = .int .i64 idn := by simpa using hidn
  obtain ⟨tms, htms, _⟩ := GV_int Try.underlying3 (GA_int Try.underlying3 g4)
  obtain rfl : v4 = .int .i64 tms := by simpa using htms
  obtain ⟨a0, n0, c0, l0, hv, s0, hR, hn0, hl0⟩ := GV_slice h0 hd hb Try.underlying59 (GA_slice Try.underlying59 g2)
  obtain rfl : v2 = .slice a0 n0 c0 := by simpa using hv
  rw [cells23'] at s0 hR
  unfold GA at g3
  rw [Try.underlying41] at g3
  obtain ⟨cs, rfl, g⟩ := g3
  obtain ⟨c1, q1, rfl, l1, f1, c2, q2, rfl, l2, f2, c3, q3, rfl, l3, f3, c4, q4, rfl, l4, f4, rfl⟩ := GV_struct Try.underlying41 g
  obtain ⟨tok, rfl, htok⟩ := GV_int Try.underlying22 f1
  obtain ⟨er, rfl, her⟩ := GV_int Try.underlying29 f2
  obtain ⟨han, rfl, hhan⟩ := GV_int Try.underlying22 f3
  obtain ⟨a, n, c, xs, rfl, s, hn, hxs⟩ := GV_ints h0 hd hb Try.underlying24 Try.underlying22 cells22' f4
  have w1 := wf_u64 htok
  have w2 := wf_u64 hhan
  obtain ⟨t, rfl⟩ : ∃ t : Nat, tok = t := ⟨tok.toNat, by omega⟩
  obtain ⟨u, rfl⟩ : ∃ u : Nat, han = u := ⟨han.toNat, by omega⟩
  have s' := s.sl
  rw [ints_nat fun x hx => (wf_u64 (hxs x hx)).1] at s'
  have hv : ∀ v ∈ xs.map Int.toNat, v < 18446744073709551616 := by
    intro v hv
    obtain ⟨x, hx, rfl⟩ := List.mem_map.1 hv
    have := wf_u64 (hxs x hx); omega
  refine C10 s0 (fun i hi => ?_) s' s.lt (by omega) (by omega) hv
  obtain ⟨cc, hc1, hc2, hc3⟩ := hR.get i hi
  obtain ⟨a1, n1, c1', ys, rfl, s1, _, hw⟩ := GV_ints h0 hd hb Try.underlying23 Try.underlying5 cells5' hc2
  exact ⟨a1, n1, c1', ys, by have := hc3 0 (by omega); simpa using this, s1, fun x hx => wf_u8 (hw x hx)⟩

end

end
section
/- maps.Clone: a new map with what the old one has. -/
set_option linter.unusedVariables false
set_option linter.unusedSimpArgs false

theorem eqlN (w : World) (p : Option Nat) (n : Nat) : (Op.equalIn (n + 1) 115 (.map p) (.map none)).run Try.prog w = .ok p.isNone w := by
  cases p <;> simp [Op.equalIn, run_underlying Try.underlying115]
theorem eqlNil (w : World) (p : Option Nat) : (binOp .eql 115 (.map p) (.map none)).run Try.prog w = .ok (.bool p.isNone) w := by
  simp only [binOp]
  simp [show Op.equal 115 (.map p) (.map none) = Op.equalIn (9999 + 1) 115 (.map p) (.map none) from rfl, eqlN w p 9999]
theorem asM (w : World) (xT : TypeId) (v : Value) : (Instr.typeAssert (.iface 115 v) xT 115 false).run Try.prog w = .ok v w := by
  simp [Instr.typeAssert, run_underlying Try.underlying115, go_sem, Result.andThen]
theorem cloneM (w : World) {r : Nat} {es : Array MapEntry} {clock : Nat} (hb : w.heap[r]? = some (.map es clock)) :
    (Extern.MapsClone.clone #[.iface 115 (.map (some r))]).run Try.prog w = .ok (.iface 115 (.map (some w.heap.size))) (w.alloc (.map es clock)) := by
  have e : Extern.MapsClone.clone #[.iface 115 (.map (some r))] = (getObj r >>= fun o => match o with
      | .map entries clock => (newObj (.map entries clock) >>= fun n => pure (.iface 115 (.map (some n))))
      | _ => stuck "maps.clone: a map expected") := rfl
  rw [e]
  simp [run_getMap hb, Result.andThen, go_sem]
set_option maxRecDepth 100000 in
set_option maxHeartbeats 4000000 in
theorem clone91 (w : World) {b : Nat} {es : Array MapEntry} {clock : Nat} (hb : w.heap[b]? = some (.map es clock)) :
    Calls Try.prog 91 #[.map (some b)] w fun e w' => e = .returned (.map (some w.heap.size)) ∧ w' = w.alloc (.map es clock) := by
  have hq := fun w => eqlNil w (some b)
  go_enter Try.func91, Try.ntmps91
  go_wp2
  rw [run_callFunc_extern Try.func99 (by kernel_rfl) (by kernel_rfl) (by kernel_rfl) (e := Extern.MapsClone.clone) (by kernel_rfl), cloneM w hb]
  simp only [Result.andThen]
  rw [Oper.upon_value]
  go_wp2
  rw [asM]
  simp only [Result.andThen]
  rw [Oper.upon_value]
  go_wp2
  go_ret
  exact ⟨rfl, rfl⟩

theorem C91 {h : Heap} {id : Nat} {es : List (Value × Value)} (g : h.get id = some (.map es)) : Fn Try.prog 91 [.map (some id)] h fun v h' => v = .map (some h.next) ∧ h' = h.add (.map es) := by
  refine ⟨⟨_, Try.func91, rfl, rfl⟩, fun E w args' hw ha => ?_⟩
  obtain ⟨en, he, hm, rfl⟩ : ∃ en, E id = some en ∧ en.mp = true ∧ args' = [.map (some en.block)] := by
    cases ha with
    | cons v v' l l' hv hl =>
      cases hl
      cases hv with
      | mp _ en he hm => exact ⟨en, he, hm, rfl⟩
  obtain ⟨o1, o2, es', clock, hb, hes⟩ := hw.obj id en _ he g
  refine (clone91 w hb).mono ?_
  rintro e w' ⟨rfl, rfl⟩
  have hg : Grew w (w.alloc (.map es' clock)) (.map es' clock) := ⟨rfl, rfl, rfl, rfl⟩
  obtain ⟨h1, h2⟩ := hw.add (o := .map es) (en := ⟨w.heap.size, 0, 0, 0, 0, false, true⟩) hg rfl ⟨rfl, rfl, _, _, hg.new, EsR.mono (Emb.more_ext hw _) hes⟩
  exact ⟨_, _, _, _, ⟨rfl, rfl⟩, rfl, .mp h.next _ (Emb.more_same _ _ _) rfl, h1, h2⟩

end
section
/- SessApart: handles, caches, copies. -/
set_option linter.unusedVariables false
set_option linter.unusedSimpArgs false

section
variable {d : Option Nat} {r : List SOp} {e : Env} {h : Heap} {Q : Env → Heap → Prop}
theorem put_map {id : Nat} {es : List (Value × Value)} {o : AObj} (g : At h id (.map es)) : (h.put id (some o)).next = h.next ∧ Ext (· = id) h (h.put id (some o)) ∧ At (h.put id (some o)) id o :=
  ⟨Heap.next_put _ _ _, Ext.put g rfl _, put_get g rfl _⟩
theorem Wops_mput {id : Nat} {m k v : Arg} {kv vv : Value} {es es' : List (Value × Value)} (hm : m.ev e = some (.map (some id))) (hk : k.ev e = some kv) (hv : v.ev e = some vv) (g : At h id (.map es)) (ik : isKey false kv = true) (hp : putE false kv vv es = some es')
    (hq : ∀ h', h'.next = h.next → Ext (· = id) h h' → At h' id (.map es') → Wops Try.prog r (e.put d undefV) h' Q) : Wops Try.prog (⟨d, none, .mput false m k v⟩ :: r) e h Q := by
  obtain ⟨p1, p2, p3⟩ := put_map (o := .map es') g
  refine Wops_run (v := undefV) (h' := h.put id (some (.map es'))) rfl ?_ (hq _ p1 p2 p3)
  have hat : h.get id = some (.map es) := g
  simp only [SO.run, hm, hk, hv, hat, ik, cond_true, hp, Option.map_some]
theorem Wops_del {id : Nat} {m k : Arg} {kv : Value} {es es' : List (Value × Value)} (hm : m.ev e = some (.map (some id))) (hk : k.ev e = some kv) (g : At h id (.map es)) (hp : delE false kv es = some es')
    (hq : ∀ h', h'.next = h.next → Ext (· = id) h h' → At h' id (.map es') → Wops Try.prog r (e.put d undefV) h' Q) : Wops Try.prog (⟨d, none, .del false m k⟩ :: r) e h Q := by
  obtain ⟨p1, p2, p3⟩ := put_map (o := .map es') g
  refine Wops_run (v := undefV) (h' := h.put id (some (.map es'))) rfl ?_ (hq _ p1 p2 p3)
  have hat : h.get id = some (.map es) := g
  simp only [SO.run, hm, hk, hat, hp, Option.map_some]
theorem Wops_lenM {id : Nat} {m : Arg} {es : List (Value × Value)} (hm : m.ev e = some (.map (some id))) (g : At h id (.map es)) (hq : Wops Try.prog r (e.put d (.int .i64 es.length)) h Q) : Wops Try.prog (⟨d, none, .lenM m⟩ :: r) e h Q := by
  have hat : h.get id = some (.map es) := g
  refine Wops_run (v := .int .i64 es.length) (h' := h) rfl ?_ hq
  simp only [SO.run, hm, hat]
theorem Wops_look {id : Nat} {m k : Arg} {kv z v : Value} {ok : Bool} {es : List (Value × Value)} (hm : m.ev e = some (.map (some id))) (hk : k.ev e = some kv) (g : At h id (.map es)) (hl : lookE false kv es = some (some v)) (hq : Wops Try.prog r (e.put d (okV v true ok)) h Q) : Wops Try.prog (⟨d, none, .look false z ok m k⟩ :: r) e h Q := by
  have hat : h.get id = some (.map es) := g
  refine Wops_run (v := okV v true ok) (h' := h) rfl ?_ hq
  simp only [SO.run, hm, hk, hat, hl]
end

/-- handle.New -/
theorem C67x {h : Heap} : Fn Try.prog 67 [] h fun v h' => ∃ p m, v = ptr p ∧ Ext0 h h' ∧ h.next ≤ p ∧ h.next ≤ m ∧ m ≠ p ∧ At h' p (.cells [.map (some m), .int .u64 0] 0 false) ∧ At h' m (.map []) := by
  refine fnK F67.fok rfl ?_
  refine K_reg (Wops_run rfl rfl (K_fin [] rfl (?_)))
  refine K_reg (Wops_run (h' := h.add (.map [])) rfl rfl ?_)
  refine Wops_run rfl rfl (Wops_box (cs := [.map (some h.next), .int .u64 0]) rfl rfl fun h1 n1 x1 g1 => ?_)
  refine Wops_run rfl rfl (K_fin [(0, _)] rfl (?_))
  have g0 : At (h.add (.map [])) h.next (.map []) := add_get _ _
  exact K_ret (Told.mk _ rfl ⟨_, h.next, rfl, (Ext.add _ _).trans x1, by rw [Heap.next_add]; omega, Nat.le_refl _, by rw [Heap.next_add]; omega, g1, g0.ext x1⟩)
/-- token.New -/
theorem C68x {h : Heap} : Fn Try.prog 68 [] h fun v h' => ∃ p, v = ptr p ∧ Ext0 h h' ∧ h.next ≤ p ∧ At h' p (.cells [.slice none 0 0] 0 false) := by
  refine fnK F68.fok rfl ?_
  refine K_reg (Wops_run rfl rfl (K_fin [] rfl (?_)))
  refine K_reg (Wops_run rfl rfl (Wops_box (cs := [.slice none 0 0]) rfl rfl fun h1 n1 x1 g1 => ?_))
  refine Wops_run rfl rfl (K_fin [(0, _)] rfl (?_))
  exact K_ret (Told.mk _ rfl ⟨h.next, rfl, x1, Nat.le_refl _, g1⟩)
/-- sess.New -/
theorem C29x {h : Heap} {id : Int} : Fn Try.prog 29 [.int .i64 id] h fun v h' => ∃ p pp ph m pc, v = ptr p ∧ Se (fun i => i = pp ∨ i = p ∨ i = ph ∨ i = m ∨ i = pc) h' p pp [] false ∧ Ext0 h h' ∧ h.next ≤ pp ∧ pp < ph ∧ pp < m ∧ m < pc ∧ ph < pc ∧ m ≠ ph ∧ pc < p ∧
    At h' p (.cells [ptr pp, ptr ph, ptr pc, .slice none 0 0] 0 false) ∧ At h' ph (.cells [.map (some m), .int .u64 0] 0 false) ∧ At h' m (.map []) ∧ At h' pc (.cells [.slice none 0 0] 0 false) := by
  refine fnK F29.fok rfl ?_
  refine K_reg (Wops_run rfl rfl (K_fin [] rfl (?_)))
  refine K_reg (Wops_call rfl C66 ?_)
  rintro _ h1 ⟨p1, rfl, g1, x1, l1⟩
  refine Wops_call rfl C67x ?_
  rintro _ h2 ⟨p2, m, rfl, x2, l2, lm, nm, g2, gm⟩
  refine Wops_call rfl C68x ?_
  rintro _ h3 ⟨p3, rfl, x3, l3, g3⟩
  refine Wops_run rfl rfl (Wops_run rfl rfl (Wops_box (cs := [ptr p1, ptr p2, ptr p3, .slice none 0 0]) rfl rfl fun h4 n4 x4 g4 => ?_))
  refine Wops_run rfl rfl (K_fin [(2, _)] rfl (?_))
  have z1 := x1.next
  have z2 := x2.next
  have z3 := x3.next
  have hl := g1.lt
  have hl2 := g2.lt
  have hlm := gm.lt
  have hl3 := g3.lt
  have g14 := ((g1.ext x2).ext x3).ext x4
  exact K_ret (Told.mk _ rfl ⟨h3.next, p1, p2, m, p3, rfl, ⟨⟨_, g4⟩, by omega, .inl rfl, none, 0, 0, g14, SlA.none, fun i r => absurd r Blk.none⟩, ((x1.trans x2).trans x3).trans x4, l1, by omega, by omega, by omega, by omega, nm, by omega, g4, (g2.ext x3).ext x4, (gm.ext x3).ext x4, g3.ext x4⟩)
/-- Handles -/
theorem C36 {h : Heap} {p : Nat} {w0 w1 w2 w3 : Value} (g : At h p (.cells [w0, w1, w2, w3] 0 false)) : Fn Try.prog 36 [ptr p] h fun v h' => v = w1 ∧ h = h' := by
  refine fnK F36.fok rfl ?_
  refine K_reg (Wops_run rfl rfl (K_fin [(0, _)] rfl (?_)))
  refine K_ss (K_reg (Wops_run rfl rfl (Wops_run rfl rfl (K_fin [(0, _), (4, _)] rfl (?_)))))
  refine K_scond rfl (fun hc => by cases hc) (fun hc => ?_)
  refine K_sskip (K_reg (Wops_run rfl rfl (Wops_run rfl rfl (Wops_run rfl rfl (Wops_run rfl rfl (Wops_ld (v := w1) rfl g rfl ?_))))))
  refine Wops_run rfl rfl (K_fin [(2, _)] rfl (?_))
  exact K_ret (Told.mk _ rfl ⟨rfl, rfl⟩)
/-- Cache -/
theorem C37 {h : Heap} {p : Nat} {w0 w1 w2 w3 : Value} (g : At h p (.cells [w0, w1, w2, w3] 0 false)) : Fn Try.prog 37 [ptr p] h fun v h' => v = w2 ∧ h = h' := by
  refine fnK F37.fok rfl ?_
  refine K_reg (Wops_run rfl rfl (K_fin [(0, _)] rfl (?_)))
  refine K_ss (K_reg (Wops_run rfl rfl (Wops_run rfl rfl (K_fin [(0, _), (4, _)] rfl (?_)))))
  refine K_scond rfl (fun hc => by cases hc) (fun hc => ?_)
  refine K_sskip (K_reg (Wops_run rfl rfl (Wops_run rfl rfl (Wops_run rfl rfl (Wops_run rfl rfl (Wops_ld (v := w2) rfl g rfl ?_))))))
  refine Wops_run rfl rfl (K_fin [(2, _)] rfl (?_))
  exact K_ret (Told.mk _ rfl ⟨rfl, rfl⟩)
/-- Table.Add, the first -/
theorem C39 {h : Heap} {p m : Nat} (g : At h p (.cells [.map (some m), .int .u64 0] 0 false)) (gm : At h m (.map [])) (hn : m ≠ p) :
    Fn Try.prog 39 [ptr p, .int .i64 4] h fun v h' => v = .tuple ⟨[.int .u64 1, .int .i64 0]⟩ ∧ At h' p (.cells [.map (some m), .int .u64 1] 0 false) ∧ At h' m (.map [(.int .u64 1, .int .i64 4)]) ∧ Ext (fun i => i = p ∨ i = m) h h' := by
  refine fnK F39.fok rfl ?_
  refine K_reg (Wops_run rfl rfl (Wops_run rfl rfl (K_fin [(0, _), (1, _)] rfl (?_))))
  refine K_sblock ?_
  refine K_reg (Wops_run rfl rfl (Wops_run rfl rfl (Wops_run rfl rfl (K_fin [(0, _), (1, _), (6, _)] rfl (?_)))))
  refine K_cond rfl (fun hc => by cases hc) (fun hc => ?_)
  refine K_reg (Wops_run rfl rfl (Wops_run rfl rfl (Wops_run rfl rfl (Wops_ld (v := .map (some m)) rfl g rfl (Wops_lenM rfl gm (Wops_run rfl rfl (Wops_run rfl rfl (K_fin [(0, _), (1, _), (9, _)] rfl (?_)))))))))
  refine K_cond rfl (fun hc => by cases hc) (fun hc => K_skip ?_)
  refine K_reg (Wops_run rfl rfl (Wops_run rfl rfl (Wops_run rfl rfl (Wops_ld (v := .int .u64 0) rfl g rfl (Wops_run rfl rfl (Wops_run rfl rfl (Wops_run rfl rfl (Wops_st (l := [.int .u64 1]) rfl rfl rfl rfl g (by simp) rfl fun h1 n1 x1 g1 => ?_))))))))
  refine K_fin [(0, _), (1, _)] rfl (?_)
  replace g1 : At h1 p (.cells [.map (some m), .int .u64 1] 0 false) := g1
  have gm1 := gm.ext x1 hn
  refine K_reg (Wops_run rfl rfl (Wops_run rfl rfl (Wops_run rfl rfl (Wops_ld (v := .map (some m)) rfl g1 rfl (Wops_run rfl rfl (Wops_run rfl rfl (Wops_run rfl rfl (Wops_ld (v := .int .u64 1) rfl g1 rfl (Wops_run rfl rfl (Wops_mput rfl rfl rfl gm1 rfl rfl fun h2 n2 x2 gm2 => ?_))))))))))
  refine K_fin [(0, _)] rfl (?_)
  have g2 := g1.ext x2 (fun q => hn q.symm)
  refine K_reg (Wops_run rfl rfl (Wops_run rfl rfl (Wops_run rfl rfl (Wops_ld (v := .int .u64 1) rfl g2 rfl ?_))))
  refine Wops_run rfl rfl (Wops_run rfl rfl (K_fin [(4, _), (5, _)] rfl (?_)))
  exact K_ret (Told.mk _ rfl ⟨rfl, g2, gm2, (x1.mono fun i _ q => .inl q).trans (x2.mono fun i _ q => .inr q)⟩)
/-- Table.Get -/
theorem C42 {h : Heap} {p m : Nat} (g : At h p (.cells [.map (some m), .int .u64 1] 0 false)) (gm : At h m (.map [(.int .u64 1, .int .i64 4)])) :
    Fn Try.prog 42 [ptr p, .int .u64 1] h fun v h' => v = .tuple ⟨[.int .i64 4, .int .i64 0]⟩ ∧ h = h' := by
  refine fnK F42.fok rfl ?_
  refine K_reg (Wops_run rfl rfl (Wops_run rfl rfl (K_fin [(0, _), (1, _)] rfl (?_))))
  refine K_ss (K_reg (Wops_run rfl rfl (Wops_run rfl rfl (K_fin [(0, _), (1, _), (9, _)] rfl (?_)))))
  refine K_scond rfl (fun hc => by cases hc) (fun hc => ?_)
  refine K_sskip (K_reg (Wops_run rfl rfl (Wops_run rfl rfl (Wops_run rfl rfl (Wops_ld (v := .map (some m)) rfl g rfl (Wops_run rfl rfl (Wops_look (v := .int .i64 4) rfl rfl gm rfl ?_)))))))
  refine Wops_run rfl rfl (Wops_run rfl rfl (Wops_run rfl rfl (Wops_run rfl rfl (Wops_run rfl rfl (K_fin [(6, _), (7, _)] rfl (?_))))))
  refine K_ss (K_reg (Wops_run rfl rfl (Wops_run rfl rfl (K_fin [(6, _), (20, _)] rfl (?_)))))
  refine K_scond rfl (fun hc => by cases hc) (fun hc => ?_)
  refine K_sskip (K_reg (Wops_run rfl rfl (Wops_run rfl rfl (Wops_run rfl rfl (K_fin [(4, _), (5, _)] rfl (?_))))))
  exact K_ret (Told.mk _ rfl ⟨rfl, rfl⟩)
/-- Table.Close -/
theorem C40 {h : Heap} {p m : Nat} (g : At h p (.cells [.map (some m), .int .u64 1] 0 false)) (gm : At h m (.map [(.int .u64 1, .int .i64 4)])) :
    Fn Try.prog 40 [ptr p, .int .u64 1] h fun v h' => Ext (· = m) h h' := by
  refine fnK F40.fok rfl ?_
  refine K_reg (Wops_run rfl rfl (Wops_run rfl rfl (K_fin [(0, _), (1, _)] rfl (?_))))
  refine K_reg (Wops_run rfl rfl (Wops_run rfl rfl (Wops_call rfl (C42 g gm) ?_)))
  rintro _ _ ⟨rfl, rfl⟩
  refine Wops_run rfl rfl (Wops_run rfl rfl (Wops_run rfl rfl (Wops_run rfl rfl (Wops_run rfl rfl (K_fin [(0, _), (1, _), (6, _), (7, _)] rfl (?_))))))
  refine K_ss (K_reg (Wops_run rfl rfl (Wops_run rfl rfl (K_fin [(0, _), (1, _), (6, _), (7, _), (15, _)] rfl (?_)))))
  refine K_scond rfl (fun _ => ?_) (fun hc => by cases hc)
  refine K_reg (Wops_run rfl rfl (Wops_run rfl rfl (Wops_run rfl rfl (Wops_ld (v := .map (some m)) rfl g rfl (Wops_run rfl rfl (Wops_del rfl rfl gm rfl fun h1 n1 x1 g1 => ?_))))))
  refine K_fin [(6, _), (7, _)] rfl (?_)
  refine K_reg (Wops_run rfl rfl (Wops_run rfl rfl (Wops_run rfl rfl (Wops_run rfl rfl (K_fin [(4, _), (5, _)] rfl (?_))))))
  exact K_ret (Told.mk _ rfl x1)
/-- Cache.Tokens, of nothing -/
theorem C43 {h : Heap} {p : Nat} (g : At h p (.cells [.slice none 0 0] 0 false)) : Fn Try.prog 43 [ptr p] h fun v h' => v = .slice none 0 0 ∧ h = h' := by
  refine fnK F43.fok rfl ?_
  refine K_reg (Wops_run rfl rfl (K_fin [(0, _)] rfl (?_)))
  refine K_ss (K_reg (Wops_run rfl rfl (Wops_run rfl rfl (K_fin [(0, _), (7, _)] rfl (?_)))))
  refine K_scond rfl (fun hc => by cases hc) (fun hc => ?_)
  refine K_sskip (K_reg (Wops_run rfl rfl (K_fin [(0, _), (3, _)] rfl (?_))))
  refine K_ss (K_reg (Wops_run rfl rfl (Wops_run rfl rfl (Wops_run rfl rfl (Wops_ld (v := .slice none 0 0) rfl g rfl (Wops_run rfl rfl (Wops_run rfl rfl (K_fin [(3, _), (11, _), (12, _), (13, _)] rfl (?_)))))))))
  refine K_sblock ?_
  refine K_loop (fun k e' h' => e' = [(3, .slice none 0 0), (11, .slice none 0 0), (12, .int .i64 0), (13, .int .i64 0)] ∧ h' = h) ?_ (k := 0) ⟨rfl, rfl⟩
  rintro k e' h' ⟨rfl, rfl⟩
  refine K_reg (Wops_run rfl rfl (K_fin [(3, _), (11, _), (12, _), (13, _), (14, _)] rfl (?_)))
  refine K_scond rfl (fun hc => by cases hc) (fun hc => ?_)
  refine K_sexit (bx_same ?_)
  refine K_reg (Wops_run rfl rfl (Wops_run rfl rfl (K_fin [(2, _)] rfl (?_))))
  exact K_ret (Told.mk _ rfl ⟨rfl, rfl⟩)
/-- find, in nothing -/
theorem C78 {h : Heap} {p : Nat} {t : Int} (g : At h p (.cells [.slice none 0 0] 0 false)) : Fn Try.prog 78 [ptr p, .int .u64 t] h fun v h' => v = .pointer none ∧ h = h' := by
  refine fnK F78.fok rfl ?_
  refine K_reg (Wops_run rfl rfl (K_fin [(0, _), (1, _)] rfl (?_)))
  refine K_ss (K_reg (Wops_run rfl rfl (Wops_run rfl rfl (Wops_run rfl rfl (Wops_ld (v := .slice none 0 0) rfl g rfl (Wops_run rfl rfl (Wops_run rfl rfl (K_fin [(0, _), (1, _), (10, _), (11, _)] rfl (?_)))))))))
  refine K_sblock ?_
  refine K_loop (fun k e' h' => e' = [(0, ptr p), (1, .int .u64 t), (10, .int .i64 0), (11, .int .i64 0)] ∧ h' = h) ?_ (k := 0) ⟨rfl, rfl⟩
  rintro k e' h' ⟨rfl, rfl⟩
  refine K_reg (Wops_run rfl rfl (K_fin [(0, _), (1, _), (10, _), (11, _), (12, _)] rfl (?_)))
  refine K_scond rfl (fun hc => by cases hc) (fun hc => ?_)
  refine K_sexit (bx_same ?_)
  refine K_reg (Wops_run rfl rfl (K_fin [(4, _)] rfl (?_)))
  exact K_ret (Told.mk _ rfl ⟨rfl, rfl⟩)
abbrev q5 : List Value := [.int .i64 5, .int .u64 0, .int .u64 0, .string ByteArray.empty, .slice none 0 0, .slice none 0 0, .int .u64 0, .int .u64 0]
set_option maxRecDepth 100000 in
theorem clone93_run : (fnR T 200 93 [.slice none 0 0] Heap.empty).map Prod.fst = some (.slice none 0 0) := by kernel_rfl
theorem C93n {h : Heap} : Fn Try.prog 93 [.slice none 0 0] h fun v h' => v = .slice none 0 0 ∧ h = h' := by
  refine fnK F93.fok rfl ?_
  refine K_reg (Wops_run rfl rfl (K_fin [(0, _)] rfl (?_)))
  refine K_ss (K_reg (Wops_run rfl rfl (Wops_run rfl rfl (K_fin [(0, _), (4, _)] rfl (?_)))))
  refine K_scond rfl (fun _ => ?_) (fun hc => by cases hc)
  refine K_ss (K_reg (Wops_run rfl rfl (K_fin [(2, _)] rfl (?_))))
  exact K_sret (Told.mk _ rfl ⟨rfl, rfl⟩)
theorem C72n {h : Heap} : Fn Try.prog 72 [.slice none 0 0] h fun v h' => v = .slice none 0 0 ∧ h = h' := by
  refine fnK F72.fok rfl ?_
  refine K_reg (Wops_run rfl rfl (K_fin [(0, _)] rfl (?_)))
  refine K_ss (K_reg (Wops_run rfl rfl (Wops_run rfl rfl (K_fin [(0, _), (4, _)] rfl (?_)))))
  refine K_scond rfl (fun _ => ?_) (fun hc => by cases hc)
  refine K_ss (K_reg (Wops_run rfl rfl (K_fin [(2, _)] rfl (?_))))
  exact K_sret (Told.mk _ rfl ⟨rfl, rfl⟩)
/-- entries cloned: none -/
theorem C92n {h : Heap} : Fn Try.prog 92 [.slice none 0 0] h fun v h' => v = .slice none 0 0 ∧ h = h' := by
  refine fnK F92.fok rfl ?_
  refine K_reg (Wops_run rfl rfl (K_fin [(0, _)] rfl (?_)))
  refine K_ss (K_reg (Wops_run rfl rfl (Wops_run rfl rfl (K_fin [(0, _), (4, _)] rfl (?_)))))
  refine K_scond rfl (fun _ => ?_) (fun hc => by cases hc)
  refine K_ss (K_reg (Wops_run rfl rfl (K_fin [(2, _)] rfl (?_))))
  exact K_sret (Told.mk _ rfl ⟨rfl, rfl⟩)
/-- twin -/
theorem C82 {h : Heap} : Fn Try.prog 82 [.agg ⟨q5⟩] h fun v h' => v = .agg ⟨q5⟩ ∧ Ext0 h h' := by
  refine fnK F82.fok rfl ?_
  refine K_reg (Wops_box (cs := q5) rfl rfl fun h1 n1 x1 g1 => Wops_new fun h2 n2 x2 g2 => K_fin [(1, _), (2, _)] rfl (?_))
  replace g1 : At h2 h.next (.cells q5 0 false) := At.ext g1 x2
  refine K_reg (Wops_run rfl rfl (Wops_ld (v := .slice none 0 0) rfl g1 rfl (Wops_run rfl rfl (Wops_ld (v := .slice none 0 0) rfl g1 rfl (Wops_call rfl C72n ?_)))))
  rintro _ _ ⟨rfl, rfl⟩
  refine Wops_chk (v := .slice none 0 0) rfl rfl g1 rfl rfl (Wops_run rfl rfl (Wops_call rfl C93n ?_))
  rintro _ _ ⟨rfl, rfl⟩
  refine Wops_st (l := [.slice none 0 0]) rfl rfl rfl rfl g1 (by simp) rfl fun h3 n3 x3 g3 => Wops_run rfl rfl ?_
  replace g3 : At h3 h.next (.cells q5 0 false) := g3
  refine Wops_st (l := [.slice none 0 0]) rfl rfl rfl rfl g3 (by simp) rfl fun h4 n4 x4 g4 => ?_
  replace g4 : At h4 h.next (.cells q5 0 false) := g4
  refine K_fin [(1, _), (2, _)] rfl (?_)
  have g2' := (At.ext g2 x3 (by omega)).ext x4 (by omega)
  refine K_reg (Wops_ldA (l := q5) rfl g4 (by simp) rfl (Wops_st (l := q5) rfl rfl rfl rfl g2' (by simp) rfl fun h5 n5 x5 g5 => ?_))
  replace g5 : At h5 h1.next (.cells q5 0 false) := g5
  refine K_fin [(2, _)] rfl (?_)
  refine K_ret (Told.mk [.agg ⟨q5⟩] (resL_cons (res_c rfl g5 (by simp) rfl) rfl) ⟨rfl, ?_⟩)
  have z1 := x1.next
  exact (((x1.trans x2).then x3 fun i q => .inr (by omega)).then x4 fun i q => .inr (by omega)).then x5 fun i q => .inr (by omega)
/-- Cache.Begin, the first -/
theorem C41 {h : Heap} {p : Nat} (g : At h p (.cells [.slice none 0 0] 0 false)) : Fn Try.prog 41 [ptr p, .int .u64 7, .agg ⟨q5⟩] h fun v h' => Ext (· = p) h h' := by
  have hl := g.lt
  refine fnK F41.fok rfl ?_
  refine K_reg (Wops_box (cs := q5) rfl rfl fun h1 n1 x1 g1 => Wops_run rfl rfl (K_fin [(0, _), (1, _), (5, _)] rfl (?_)))
  replace g1 : At h1 h.next (.cells q5 0 false) := g1
  have gp1 := g.ext x1
  refine K_sblock ?_
  refine K_reg (Wops_run rfl rfl (Wops_run rfl rfl (Wops_run rfl rfl (K_fin [(0, _), (1, _), (5, _), (8, _)] rfl (?_)))))
  refine K_cond rfl (fun hc => by cases hc) (fun hc => ?_)
  refine K_reg (Wops_run rfl rfl (Wops_run rfl rfl (Wops_run rfl rfl (K_fin [(0, _), (1, _), (5, _), (11, _)] rfl (?_)))))
  refine K_cond rfl (fun hc => by cases hc) (fun hc => ?_)
  refine K_reg (Wops_run rfl rfl (Wops_run rfl rfl (Wops_call rfl (C78 gp1) ?_)))
  rintro _ _ ⟨rfl, rfl⟩
  refine Wops_run rfl rfl (Wops_run rfl rfl (K_fin [(0, _), (1, _), (5, _), (14, _)] rfl (?_)))
  refine K_cond rfl (fun hc => by cases hc) (fun hc => K_skip ?_)
  refine K_ss (K_reg (Wops_run rfl rfl (Wops_run rfl rfl (Wops_run rfl rfl (Wops_ld (v := .slice none 0 0) rfl gp1 rfl (Wops_run rfl rfl (Wops_run rfl rfl (K_fin [(0, _), (1, _), (5, _), (24, _)] rfl (?_)))))))))
  refine K_scond rfl (fun hc => by cases hc) (fun hc => ?_)
  refine K_sskip (K_reg (Wops_run rfl rfl (Wops_run rfl rfl (Wops_run rfl rfl (Wops_run rfl rfl (Wops_ld (v := .slice none 0 0) rfl gp1 rfl (Wops_ldA (l := q5) rfl g1 (by simp) rfl (Wops_run rfl rfl (Wops_call rfl C82 ?_)))))))))
  rintro _ h2 ⟨rfl, x2⟩
  have gp2 := gp1.ext x2
  refine Wops_chk (v := .slice none 0 0) rfl rfl gp2 rfl rfl ?_
  refine Wops_run rfl rfl (Wops_run rfl rfl (Wops_bslice rfl rfl fun h3 n3 x3 g3 => ?_))
  have gp3 := gp2.ext x3
  refine Wops_app (m := 1) rfl rfl OwS.none rfl (SlA.mk' (n := 1) (c := 1) (sz := 15) (off := 0) g3 (by decide) (.inr (.inr rfl))).first ⟨by decide, by decide⟩ rfl rfl (by decide) fun h4 a4 c4 x4 o4 b4 => ?_
  have gp4 := gp3.ext x4 Blk.none
  refine Wops_run rfl rfl (Wops_run rfl rfl (Wops_st (l := [.slice a4 (0 + 1) c4]) rfl rfl rfl rfl gp4 (by simp) rfl fun h5 n5 x5 g5 => ?_))
  refine K_fin [] rfl (?_)
  refine K_reg (Wops_run rfl rfl (K_fin [(6, _)] rfl (?_)))
  refine K_ret (Told.mk _ rfl ?_)
  exact ((((x1.trans x2).trans x3).then x4 fun i q => absurd q Blk.none).of0).then x5 fun i q => .inl q

end
section
/- SessApart: copies, the walk. -/
set_option linter.unusedVariables false
set_option linter.unusedSimpArgs false

/-- Parts.Copy -/
theorem C75 {h : Heap} {p n c : Nat} {a : Option Addr} {bs : List Int} {bad : Bool} (g : At h p (.cells [.slice a n c, .bool bad] 0 false)) (s : SlA h 1 a n c (ints .u8 bs)) (hb : n ≤ 1000000) :
    Fn Try.prog 75 [ptr p] h fun v h' => ∃ q a' c', v = ptr q ∧ Ext0 h h' ∧ h.next ≤ q ∧ At h' q (.cells [.slice a' n c', .bool bad] 0 false) ∧ SlA h' 1 a' n c' (ints .u8 bs) ∧ ∀ i, Blk a' i → i ≠ q ∧ i < h'.next := by
  refine fnK F75.fok rfl ?_
  refine K_reg (Wops_run rfl rfl (K_fin [(0, _)] rfl (?_)))
  refine K_ss (K_reg (Wops_run rfl rfl (Wops_run rfl rfl (K_fin [(0, _), (4, _)] rfl (?_)))))
  refine K_scond rfl (fun hc => by cases hc) (fun hc => ?_)
  refine K_sskip (K_reg (Wops_run rfl rfl (Wops_run rfl rfl (Wops_run rfl rfl (Wops_run rfl rfl (Wops_ld (v := .slice a n c) rfl g rfl (Wops_run rfl rfl (Wops_run rfl rfl (Wops_run rfl rfl (Wops_ld (v := .bool bad) rfl g rfl (Wops_call rfl (C72f s (ints_cell _ _) (by omega)) ?_)))))))))))
  rintro _ h1 ⟨a', c', rfl, o, x1, b⟩
  have g1 := g.ext x1
  have z1 := x1.next
  refine Wops_chk (v := .bool bad) rfl rfl g1 rfl (by simp [sameV, sameCell]) ?_
  refine Wops_run rfl rfl (Wops_run rfl rfl (Wops_box (cs := [.slice a' n c', .bool bad]) rfl rfl fun h2 n2 x2 g2 => ?_))
  refine Wops_run rfl rfl (K_fin [(2, _)] rfl (?_))
  exact K_ret (Told.mk _ rfl ⟨h1.next, a', c', rfl, x1.trans x2, z1, g2, o.sl.ext x2, fun i q => ⟨by have := (b i q).2; omega, by have := (b i q).2; omega⟩⟩)
/-- Table.Copy -/
theorem C76 {h : Heap} {p m : Nat} {es : List (Value × Value)} {l : Int} (g : At h p (.cells [.map (some m), .int .u64 l] 0 false)) (gm : At h m (.map es)) :
    Fn Try.prog 76 [ptr p] h fun v h' => ∃ q m', v = ptr q ∧ Ext0 h h' ∧ h.next ≤ m' ∧ m' < q ∧ At h' q (.cells [.map (some m'), .int .u64 l] 0 false) ∧ At h' m' (.map es) := by
  refine fnK F76.fok rfl ?_
  refine K_reg (Wops_run rfl rfl (K_fin [(0, _)] rfl (?_)))
  refine K_ss (K_reg (Wops_run rfl rfl (Wops_run rfl rfl (K_fin [(0, _), (4, _)] rfl (?_)))))
  refine K_scond rfl (fun hc => by cases hc) (fun hc => ?_)
  refine K_sskip (K_reg (Wops_run rfl rfl (Wops_run rfl rfl (Wops_run rfl rfl (Wops_ld (v := .map (some m)) rfl g rfl (Wops_run rfl rfl (Wops_run rfl rfl (Wops_run rfl rfl (Wops_ld (v := .int .u64 l) rfl g rfl (Wops_call rfl (C91 gm) ?_))))))))))
  rintro _ _ ⟨rfl, rfl⟩
  have x1 : Ext0 h (h.add (.map es)) := Ext.add _ _
  have g0 : At (h.add (.map es)) h.next (.map es) := add_get _ _
  refine Wops_chk (v := .int .u64 l) rfl rfl (g.ext x1) rfl (by simp [sameV, sameCell]) ?_
  refine Wops_run rfl rfl (Wops_box (cs := [.map (some h.next), .int .u64 l]) rfl rfl fun h2 n2 x2 g2 => ?_)
  refine Wops_run rfl rfl (K_fin [(2, _)] rfl (?_))
  exact K_ret (Told.mk _ rfl ⟨_, h.next, rfl, x1.trans x2, Nat.le_refl _, by rw [Heap.next_add]; omega, g2, g0.ext x2⟩)
/-- Cache.Copy, of nothing -/
theorem C77 {h : Heap} {p : Nat} (g : At h p (.cells [.slice none 0 0] 0 false)) :
    Fn Try.prog 77 [ptr p] h fun v h' => ∃ q, v = ptr q ∧ Ext0 h h' ∧ h.next ≤ q ∧ At h' q (.cells [.slice none 0 0] 0 false) := by
  refine fnK F77.fok rfl ?_
  refine K_reg (Wops_run rfl rfl (K_fin [(0, _)] rfl (?_)))
  refine K_ss (K_reg (Wops_run rfl rfl (Wops_run rfl rfl (K_fin [(0, _), (4, _)] rfl (?_)))))
  refine K_scond rfl (fun hc => by cases hc) (fun hc => ?_)
  refine K_sskip (K_reg (Wops_run rfl rfl (Wops_run rfl rfl (Wops_run rfl rfl (Wops_ld (v := .slice none 0 0) rfl g rfl (Wops_call rfl C92n ?_))))))
  rintro _ _ ⟨rfl, rfl⟩
  refine Wops_run rfl rfl (Wops_box (cs := [.slice none 0 0]) rfl rfl fun h2 n2 x2 g2 => ?_)
  refine Wops_run rfl rfl (K_fin [(2, _)] rfl (?_))
  exact K_ret (Told.mk _ rfl ⟨_, rfl, x2, Nat.le_refl _, g2⟩)
/-- Session.Copy -/
theorem C38 {h : Heap} {p pp ph m pc n c no co : Nat} {a ao : Option Addr} {bs O : List Int} {bad : Bool} (g : At h p (.cells [ptr pp, ptr ph, ptr pc, .slice ao no co] 0 false))
    (gp : At h pp (.cells [.slice a n c, .bool bad] 0 false)) (s : SlA h 1 a n c (ints .u8 bs)) (hb : n ≤ 1000000) (gh : At h ph (.cells [.map (some m), .int .u64 1] 0 false)) (gm : At h m (.map [(.int .u64 1, .int .i64 4)])) (gc : At h pc (.cells [.slice none 0 0] 0 false))
    (o : SlA h 1 ao no co (ints .u8 O)) (hno : no ≤ 1000000) :
    Fn Try.prog 38 [ptr p] h fun v h' => ∃ p' pp' ph' m' pc' a' c' ao' co', v = ptr p' ∧ Ext0 h h' ∧ At h' p' (.cells [ptr pp', ptr ph', ptr pc', .slice ao' no co'] 0 false) ∧ At h' pp' (.cells [.slice a' n c', .bool bad] 0 false) ∧ SlA h' 1 a' n c' (ints .u8 bs) ∧
      (∀ i, Blk a' i → i ≠ pp' ∧ i < m') ∧ At h' ph' (.cells [.map (some m'), .int .u64 1] 0 false) ∧ At h' m' (.map [(.int .u64 1, .int .i64 4)]) ∧ At h' pc' (.cells [.slice none 0 0] 0 false) ∧ OwS h' 1 ao' no co' (ints .u8 O) ∧ (∀ i, Blk ao' i → pc' < i ∧ i < p') ∧
      h.next ≤ pp' ∧ pp' < m' ∧ m' < ph' ∧ ph' < pc' ∧ pc' < p' := by
  refine fnK F38.fok rfl ?_
  refine K_reg (Wops_run rfl rfl (K_fin [(0, _)] rfl (?_)))
  refine K_ss (K_reg (Wops_run rfl rfl (Wops_run rfl rfl (K_fin [(0, _), (4, _)] rfl (?_)))))
  refine K_scond rfl (fun hc => by cases hc) (fun hc => ?_)
  refine K_sskip (K_reg (Wops_run rfl rfl (Wops_run rfl rfl (Wops_run rfl rfl (Wops_ld (v := ptr pp) rfl g rfl ?_)))))
  refine Wops_run rfl rfl (Wops_run rfl rfl (Wops_run rfl rfl (Wops_run rfl rfl (Wops_ld (v := ptr ph) rfl g rfl ?_))))
  refine Wops_run rfl rfl (Wops_run rfl rfl (Wops_run rfl rfl (Wops_run rfl rfl (Wops_ld (v := ptr pc) rfl g rfl ?_))))
  refine Wops_run rfl rfl (Wops_run rfl rfl (Wops_run rfl rfl (Wops_ld (v := .slice ao no co) rfl g rfl ?_)))
  have sp : ∀ x : Nat, sameV (ptr x) (ptr x) = true := fun x => by simp [sameV, sameCell]
  refine Wops_call rfl (C75 gp s hb) ?_
  rintro _ h1 ⟨pp', a', c', rfl, x1, l1, g1, s1, b1⟩
  have z1 := x1.next
  have k1 := g1.lt
  refine Wops_chk (v := ptr ph) rfl rfl (g.ext x1) rfl (sp _) (Wops_chk (v := ptr pc) rfl rfl (g.ext x1) rfl (sp _) (Wops_chk (v := .slice ao no co) rfl rfl (g.ext x1) rfl o.same ?_))
  refine Wops_call rfl (C76 (gh.ext x1) (gm.ext x1)) ?_
  rintro _ h2 ⟨ph', m', rfl, x2, l2, l2', g2, gm2⟩
  have z2 := x2.next
  have k2 := g2.lt
  have x02 := x1.trans x2
  refine Wops_chk (v := ptr pc) rfl rfl (g.ext x02) rfl (sp _) (Wops_chk (v := .slice ao no co) rfl rfl (g.ext x02) rfl o.same ?_)
  refine Wops_call rfl (C77 (gc.ext x02)) ?_
  rintro _ h3 ⟨pc', rfl, x3, l3, g3⟩
  have z3 := x3.next
  have k3 := g3.lt
  have x03 := x02.trans x3
  refine Wops_chk (v := .slice ao no co) rfl rfl (g.ext x03) rfl o.same ?_
  refine Wops_run rfl rfl (Wops_call rfl (C72f (o.ext x03) (ints_cell _ _) (by omega)) ?_)
  rintro _ h4 ⟨ao', co', rfl, o4, x4, b4⟩
  have z4 := x4.next
  refine Wops_run rfl rfl (Wops_box (cs := [ptr pp', ptr ph', ptr pc', .slice ao' no co']) rfl rfl fun h5 n5 x5 g5 => ?_)
  refine Wops_run rfl rfl (K_fin [(2, _)] rfl (?_))
  have x25 := (x3.trans x4).trans x5
  have x15 := x2.trans x25
  refine K_ret (Told.mk _ rfl ⟨h4.next, pp', ph', m', pc', a', c', ao', co', rfl, x1.trans x15, g5, g1.ext x15, s1.ext x15, ?_, g2.ext x25, gm2.ext x25, (g3.ext x4).ext x5, o4.ext x5, ?_, l1, by omega, l2', by omega, by omega⟩)
  · intro i q
    exact ⟨(b1 i q).1, by have := (b1 i q).2; omega⟩
  · intro i q
    exact ⟨by have := (b4 i q).1; omega, (b4 i q).2⟩

set_option maxHeartbeats 4000000 in
/-- SessApart -/
theorem C11 {h : Heap} {er : Int} {xb a : Option Addr} {xn xc n c tok han : Nat} {ys : List Int} {vs : List Nat} (sy : InS h xb xn xc (ints .u8 ys)) (hwy : Byte ys) (sv : SlA h 1 a n c (u64s vs)) (la : ∀ i, Blk a i → i < h.next)
    (ht : tok < 18446744073709551616) (hh : han < 18446744073709551616) (hv : ∀ v ∈ vs, v < 18446744073709551616) :
    Fn Try.prog 11 [.slice xb xn xc, .agg ⟨[.int .u64 (tok : Int), .int .i64 er, .int .u64 (han : Int), .slice a n c]⟩] h fun v _ => v = .bool true := by
  have hyn : ys.length = xn := by simpa using sy.sl.len
  have hvn : vs.length = n := by simpa using sv.len
  refine fnK F11.fok rfl ?_
  refine K_reg (Wops_box (cs := [.int .u64 (tok : Int), .int .i64 er, .int .u64 (han : Int), .slice a n c]) rfl rfl fun h1 n1 x1 g1 => Wops_run rfl rfl (K_fin [(0, _), (3, _)] rfl (?_)))
  replace g1 : At h1 h.next (.cells [.int .u64 (tok : Int), .int .i64 er, .int .u64 (han : Int), .slice a n c] 0 false) := g1
  have z1 := x1.next
  refine K_ss (K_reg (Wops_call rfl C27 ?_))
  rintro _ _ ⟨rfl, rfl⟩
  refine Wops_run rfl rfl (K_fin [(0, _), (3, _), (13, _)] rfl (?_))
  refine K_scond rfl (fun hc => by cases hc) (fun _ => ?_)
  refine K_sskip (K_ss (K_join (fun e h' => ∃ b, e = [(0, .slice xb xn xc), (3, ptr h.next), (32, .bool b)] ∧ h1 = h' ∧ (b = false → xn ≤ 60 ∧ n ≤ 8 ∧ 0 ≤ er ∧ er ≤ 17)) ?_ ?_))
  · refine K_last (Wops_run rfl rfl (Wops_run rfl rfl ?_))
    by_cases c1 : xn ≤ 60
    case neg =>
      refine Wops_as (w := .bool true) rfl rfl (by rw [decide_eq_true (by omega)]) ?_
      (repeat (first | refine Wops_skip rfl ?_ | refine Wops_run rfl rfl ?_))
      exact K_finL [(0, _), (3, _), (32, _)] rfl ⟨_, rfl, rfl, fun e => by cases e⟩
    refine Wops_as (w := .bool false) rfl rfl (by rw [decide_eq_false (by omega)]) (Wops_run rfl rfl (Wops_go rfl (Wops_run rfl rfl (Wops_go rfl (Wops_ld (v := .slice a n c) rfl g1 rfl (Wops_go rfl (Wops_run rfl rfl (Wops_go rfl ?_))))))))
    by_cases c2 : n ≤ 8
    case neg =>
      refine Wops_as (w := .bool true) rfl rfl (by rw [decide_eq_true (by omega)]) ?_
      (repeat (first | refine Wops_skip rfl ?_ | refine Wops_run rfl rfl ?_))
      exact K_finL [(0, _), (3, _), (32, _)] rfl ⟨_, rfl, rfl, fun e => by cases e⟩
    refine Wops_as (w := .bool false) rfl rfl (by rw [decide_eq_false (by omega)]) (Wops_run rfl rfl (Wops_run rfl rfl (Wops_go rfl (Wops_run rfl rfl (Wops_go rfl (Wops_ld (v := .int .i64 er) rfl g1 rfl (Wops_go rfl ?_)))))))
    by_cases c3 : 0 ≤ er
    case neg =>
      refine Wops_as (w := .bool true) rfl rfl (by rw [decide_eq_true (by omega)]) ?_
      (repeat (first | refine Wops_skip rfl ?_ | refine Wops_run rfl rfl ?_))
      exact K_finL [(0, _), (3, _), (32, _)] rfl ⟨_, rfl, rfl, fun e => by cases e⟩
    refine Wops_as (w := .bool false) rfl rfl (by rw [decide_eq_false (by omega)]) (Wops_run rfl rfl (Wops_run rfl rfl (Wops_go rfl (Wops_run rfl rfl (Wops_go rfl (Wops_ld (v := .int .i64 er) rfl g1 rfl (Wops_go rfl ?_)))))))
    refine Wops_run rfl rfl (Wops_run rfl rfl ?_)
    exact K_finL [(0, _), (3, _), (32, _)] rfl ⟨_, rfl, rfl, fun e => ⟨c1, c2, c3, by have := of_decide_eq_false e; omega⟩⟩
  rintro _ _ ⟨b, rfl, rfl, hbf⟩
  refine K_scond rfl (fun hc => ?_) (fun hc => ?_)
  · refine K_ss (K_reg (Wops_run rfl rfl (K_fin [(4, _)] rfl (?_))))
    exact K_sret (Told.mk _ rfl rfl)
  obtain ⟨c1, c2, c3, c4⟩ := hbf hc
  obtain ⟨r, hr⟩ : ∃ r : Rp, r = ⟨tok, er.toNat, han, vs⟩ := ⟨_, rfl⟩
  have eV : [Value.int .u64 (tok : Int), .int .i64 er, .int .u64 (han : Int), .slice a n c] = RpV r a n c := by
    subst hr; unfold RpV; simp only; rw [Int.toNat_of_nonneg c3]
  rw [eV] at g1
  have kr : r.In h a n c := by subst hr; exact ⟨sv, by omega, ht, by show er.toNat < 256; omega, hh, hv⟩
  -- the session
  refine K_sskip (K_reg (Wops_call rfl C29x ?_))
  rintro _ h2 ⟨p, pp, ph, m, pc, rfl, q2, x2, l1, l2, l3, l4, l5, l6, l7, g2, gh2, gm2, gc2⟩
  refine Wops_run rfl rfl (K_fin [(0, _), (3, _), (5, _)] rfl (?_))
  have kp := g2.lt
  refine K_reg (Wops_run rfl rfl (Wops_run rfl rfl (Wops_call rfl (C30 q2 (fun i e => by omega) (fun x hx => by cases hx) ((sy.ext0 x1).ext0 x2) hwy (by simp) (by omega)) ?_)))
  rintro v h3 hv3
  rw [if_neg (by simp)] at hv3
  obtain ⟨x3, q3, -⟩ := hv3
  refine K_fin [(3, _), (5, _)] rfl (?_)
  have g3 := g2.ext x3 (by omega)
  have gh3 := gh2.ext x3 (by omega)
  have gm3 := gm2.ext x3 (by omega)
  have gc3 := gc2.ext x3 (by omega)
  have x13 : Ext0 h1 h3 := x2.then x3 fun i e => .inr (by omega)
  have gr3 := g1.ext x13
  obtain ⟨bs, hbs⟩ : ∃ bs, bs = (addR [] false ys).2.1 := ⟨_, rfl⟩
  obtain ⟨bad, hbad⟩ : ∃ bad, bad = (addR [] false ys).2.2.1 := ⟨_, rfl⟩
  rw [← hbs, ← hbad] at q3
  have kr3 : r.In h3 a n c := (kr.ext x1 fun i _ e => e).ext x13 fun i _ e => e
  obtain ⟨-, -, -, pa, pn, pcap, gp3, sp3, bp3⟩ := q3
  -- Tell
  refine K_reg (Wops_run rfl rfl (Wops_ldA (l := RpV r a n c) rfl gr3 (by simp [RpV]) rfl (Wops_call rfl (C32 (O := []) g3 OwS.none Blk.none kr3 (fun i e => ⟨by have := la i e; omega, Blk.none⟩) (by omega) (by omega)) ?_)))
  rintro _ h4 ⟨ao, no, co, g4, o4, x4', b4⟩
  have x4 : Ext (· = p) h3 h4 := x4'.mono fun i _ e => e.elim id fun e => absurd e Blk.none
  refine K_fin [(3, _), (5, _)] rfl (?_)
  have z3 := x3.next
  have z4 := x4.next
  have b4' : ∀ i, Blk ao i → h3.next ≤ i := fun i e => (b4 i e).elim (fun e => absurd e Blk.none) id
  have gh4 := gh3.ext x4 (by omega)
  have gm4 := gm3.ext x4 (by omega)
  have gc4 := gc3.ext x4 (by omega)
  have gp4 := gp3.ext x4 (by omega)
  have kq3 := gp3.lt
  have x14 : Ext0 h1 h4 := x13.then x4 fun i e => .inr (by omega)
  have sp4 := sp3.ext x4 (fun i e f => (bp3 i e).1 (.inr (.inl f)))
  obtain ⟨O, hO⟩ : ∃ O, O = [] ++ tld r (1 : Int).toNat := ⟨_, rfl⟩
  rw [← hO] at o4
  have hOn : O.length = no := by simpa using o4.sl.len
  have hFr : 0 < (frR r).length := by unfold frR putF; simp
  have hOl : O = frR r := by rw [hO]; simp [tld]
  have hFl : (frR r).length ≤ 1000 := by
    have k : r.Ok := ⟨by subst hr; exact ht, by subst hr; show er.toNat ≤ 17; omega, by subst hr; exact hh, by subst hr; show vs.length ≤ 8; omega, by subst hr; exact hv⟩
    have := (encR_len k).1
    unfold frR
    rw [putF_length, ci_len]
    omega
  have hno : no ≤ 1000 := by rw [← hOn, hOl]; exact hFl
  have hpn : pn ≤ 1000000 := by
    have h1 : bs.length = pn := by simpa using sp3.len
    have h2 := (addR_facts (bs := []) (ys := ys) false (fun x hx => by cases hx) hwy).1
    rw [← hbs] at h2
    simp at h2
    omega
  -- Add
  refine K_reg (Wops_run rfl rfl (Wops_call rfl (C36 g4) ?_))
  rintro _ _ ⟨rfl, rfl⟩
  refine Wops_call rfl (C39 gh4 gm4 l6) ?_
  rintro _ h5 ⟨rfl, gh5, gm5, x5⟩
  refine Wops_run rfl rfl (Wops_run rfl rfl (Wops_run rfl rfl (Wops_run rfl rfl (Wops_run rfl rfl (K_fin [(3, _), (5, _), (6, _), (7, _)] rfl (?_))))))
  have z5 := x5.next
  have g5 := g4.ext x5 (by omega)
  have gp5 := gp4.ext x5 (by omega)
  have gc5 := gc4.ext x5 (by omega)
  have sp5 := sp4.ext x5 (fun i e f => (bp3 i e).1 (by omega))
  have o5 := o4.ext x5 (fun i e f => by have := b4' i e; omega)
  have kO5 : ∀ i, Blk ao i → i < h5.next := fun i e => o5.lt e
  have x15 : Ext0 h1 h5 := x14.then x5 fun i e => .inr (by omega)
  -- Copy
  refine K_reg (Wops_run rfl rfl (Wops_call rfl (C38 g5 gp5 sp5 hpn gh5 gm5 gc5 o5.sl (by omega)) ?_))
  rintro _ h6 ⟨p', pp', ph', m', pc', a', c', ao', co', rfl, x6, g6', gp6', s6', bs6', gh6', gm6', gc6', o6', bo6', k1, k2, k3, k4, k5⟩
  refine Wops_run rfl rfl (K_fin [(3, _), (5, _), (6, _), (7, _), (8, _)] rfl (?_))
  have kl := g6'.lt
  refine K_ss (K_reg (Wops_run rfl rfl (Wops_run rfl rfl (Wops_run rfl rfl (Wops_go rfl (Wops_run rfl rfl (Wops_go rfl (Wops_neq (v := false) rfl rfl (by simp) (Wops_run rfl rfl (Wops_run rfl rfl (Wops_go rfl (Wops_run rfl rfl (Wops_go rfl (Wops_call rfl (C36 g6') ?_))))))))))))))
  rintro _ _ ⟨rfl, rfl⟩
  refine Wops_go rfl (Wops_run rfl rfl (Wops_run rfl rfl (Wops_run rfl rfl (Wops_go rfl (Wops_run rfl rfl (Wops_go rfl (Wops_call rfl (C37 g6') ?_)))))))
  rintro _ _ ⟨rfl, rfl⟩
  refine Wops_go rfl (Wops_run rfl rfl (Wops_run rfl rfl (K_fin [(3, _), (5, _), (6, _), (8, _), (63, _)] rfl (?_))))
  refine K_scond rfl (fun hc => by cases hc) (fun _ => ?_)
  -- Out
  have g6 := g5.ext x6
  have o6 := o5.ext x6
  refine K_sskip (K_reg (Wops_run rfl rfl (Wops_call rfl (C33 g6 o6.sl (by omega)) ?_)))
  rintro _ h7 ⟨a7, c7, rfl, o7, x7, -⟩
  refine Wops_toStr rfl o7.sl (Wops_run rfl rfl (K_fin [(3, _), (5, _), (6, _), (8, _), (9, _)] rfl (?_)))
  have z7 := x7.next
  have z6 := x6.next
  -- Tell, of the copy
  have x17 := (x15.trans x6).trans x7
  have kr7 : r.In h7 a n c := (kr.ext x1 fun i _ e => e).ext x17 fun i _ e => e
  refine K_reg (Wops_run rfl rfl (Wops_ldA (l := RpV r a n c) rfl (g1.ext x17) (by simp [RpV]) rfl (Wops_call rfl (C32 (O := O) (g6'.ext x7) (o6'.ext x7) (fun e => by have := (bo6' _ e).2; omega) kr7 (fun i e => ⟨by have := la i e; omega, fun f => by have := la i e; have := (bo6' i f).1; omega⟩) (by omega) (by omega)) ?_)))
  rintro _ h8 ⟨ao2, no2, co2, g8, o8, x8, b8⟩
  refine K_fin [(5, _), (6, _), (8, _), (9, _)] rfl (?_)
  have z8 := x8.next
  have gp8 := (gp6'.ext x7).ext x8 (fun e => e.elim (fun e => by omega) fun e => by have := (bo6' _ e).1; omega)
  have gh8 := (gh6'.ext x7).ext x8 (fun e => e.elim (fun e => by omega) fun e => by have := (bo6' _ e).1; omega)
  have gm8 := (gm6'.ext x7).ext x8 (fun e => e.elim (fun e => by omega) fun e => by have := (bo6' _ e).1; omega)
  have gc8 := (gc6'.ext x7).ext x8 (fun e => e.elim (fun e => by omega) fun e => by have := (bo6' _ e).1; omega)
  have s8 := (s6'.ext x7).ext x8 (fun i f e => e.elim (fun e => by have := (bs6' i f).2; omega) fun e => by have := (bo6' _ e).1; have := (bs6' i f).2; omega)
  have hb8 : ∀ i, Blk ao2 i → pc' < i := fun i e => (b8 i e).elim (fun e => (bo6' i e).1) fun e => by omega
  -- Close, of the copy
  refine K_reg (Wops_run rfl rfl (Wops_call rfl (C36 g8) ?_))
  rintro _ _ ⟨rfl, rfl⟩
  refine Wops_run rfl rfl (Wops_call rfl (C40 gh8 gm8) ?_)
  rintro _ h9 x9
  refine K_fin [(5, _), (6, _), (8, _), (9, _)] rfl (?_)
  have z9 := x9.next
  have g9 := g8.ext x9 (by omega)
  have gp9 := gp8.ext x9 (by omega)
  have gc9 := gc8.ext x9 (by omega)
  have s9 := s8.ext x9 (fun i f e => by have := (bs6' i f).2; omega)
  have o9 := o8.ext x9 (fun i f e => by have := hb8 i f; omega)
  -- Begin, of the copy
  refine K_reg (Wops_run rfl rfl (Wops_call rfl (C37 g9) ?_))
  rintro _ _ ⟨rfl, rfl⟩
  refine Wops_run rfl rfl (Wops_call rfl (C41 gc9) ?_)
  rintro _ h10 x10
  refine K_fin [(5, _), (6, _), (8, _), (9, _)] rfl (?_)
  have g10' := g9.ext x10 (by omega)
  have gp10' := gp9.ext x10 (by omega)
  have s10' := s9.ext x10 (fun i f e => by have := (bs6' i f).2; omega)
  have o10' := o9.ext x10 (fun i f e => by have := hb8 i f; omega)
  have xs : Ext (fun i => h5.next ≤ i) h5 h10 := by
    have y1 : Ext (fun i => h5.next ≤ i) h5 h7 := (x6.trans x7).of0
    refine ((y1.then x8 fun i e => .inl (e.elim (fun e => by omega) fun e => by have := (bo6' _ e).1; omega)).then x9 fun i e => .inl (by omega)).then x10 fun i e => .inl (by omega)
  have kg := g5.lt
  have g10 := g5.ext xs (by omega)
  have gp10 := gp5.ext xs (by have := gp5.lt; omega)
  have gh10 := gh5.ext xs (by have := gh5.lt; omega)
  have gm10 := gm5.ext xs (by have := gm5.lt; omega)
  have gc10 := gc5.ext xs (by have := gc5.lt; omega)
  have o10 := o5.ext xs (fun i e f => by have := kO5 i e; omega)
  have sp10 := sp5.ext xs (fun i e f => by have := (bp3 i e).2; omega)
  -- Get
  refine K_reg (Wops_run rfl rfl (Wops_call rfl (C36 g10) ?_))
  rintro _ _ ⟨rfl, rfl⟩
  refine Wops_run rfl rfl (Wops_call rfl (C42 gh10 gm10) ?_)
  rintro _ _ ⟨rfl, rfl⟩
  refine Wops_run rfl rfl (Wops_run rfl rfl (Wops_run rfl rfl (Wops_run rfl rfl (Wops_run rfl rfl (K_fin [(5, _), (8, _), (9, _), (11, _)] rfl (?_))))))
  -- what is told
  refine K_reg (Wops_run rfl rfl (Wops_call rfl (C33 g10 o10.sl (by omega)) ?_))
  rintro _ h11 ⟨a11, c11, rfl, o11, x11, -⟩
  refine Wops_toStr rfl o11.sl (Wops_run rfl rfl (Wops_as (w := .bool true) rfl rfl (by simp) (Wops_run rfl rfl (Wops_go rfl (Wops_run rfl rfl (Wops_go rfl (Wops_eq (v := true) rfl rfl (by simp) (Wops_run rfl rfl (Wops_run rfl rfl (Wops_go rfl (Wops_run rfl rfl (Wops_go rfl (Wops_call rfl (C37 (g10.ext x11)) ?_)))))))))))))
  rintro _ _ ⟨rfl, rfl⟩
  refine Wops_go rfl (Wops_call rfl (C43 (gc10.ext x11)) ?_)
  rintro _ _ ⟨rfl, rfl⟩
  refine Wops_go rfl (Wops_run rfl rfl (Wops_go rfl (Wops_eq (v := true) rfl rfl (by simp) (Wops_run rfl rfl (Wops_run rfl rfl (Wops_go rfl (Wops_run rfl rfl (Wops_go rfl ?_))))))))
  have hno2 : no2 ≤ 1000000 := by
    have h1 : (O ++ tld r (1 : Int).toNat).length = no2 := by simpa using o8.sl.len
    rw [List.length_append, hOl] at h1
    have h2 : (tld r (1 : Int).toNat).length = (frR r).length := by simp [tld]
    omega
  refine Wops_call rfl (C33 (g10'.ext x11) (o10'.sl.ext x11) hno2) ?_
  rintro _ h12 ⟨a12, c12, rfl, o12, x12, -⟩
  refine Wops_go rfl (Wops_toStr rfl o12.sl (Wops_go rfl (Wops_run rfl rfl (Wops_go rfl (Wops_as (w := .bool true) rfl rfl ?_ ?_)))))
  · congr 1
    rw [Bool.not_eq_true', beq_eq_false_iff_ne]
    intro e
    rw [toList_bytes, toList_bytes] at e
    have := congrArg List.length e
    simp only [bytesOf, List.length_map, List.length_append] at this
    have h2 : (tld r (1 : Int).toNat).length = (frR r).length := by simp [tld]
    omega
  have x1012 := x11.trans x12
  have P1 : Pt (fun i => i = pp') h12 pp' bs bad := ⟨rfl, a', pn, c', gp10'.ext x1012, s10'.ext x1012, fun i f => ⟨(bs6' i f).1, by have := (bs6' i f).2; have := x1012.next; have := x10.next; omega⟩⟩
  have P2 : Pt (fun i => i = pp) h12 pp bs bad := ⟨rfl, pa, pn, pcap, gp10.ext x1012, sp10.ext x1012, fun i f => ⟨fun e => (bp3 i f).1 (.inl e), by have := (bp3 i f).2; have := x1012.next; have := xs.next; omega⟩⟩
  refine Wops_run rfl rfl (Wops_run rfl rfl (Wops_go rfl (Wops_run rfl rfl (Wops_go rfl (Wops_call rfl (C31 (g10'.ext x1012) P1) ?_)))))
  rintro _ _ ⟨rfl, rfl⟩
  refine Wops_go rfl (Wops_run rfl rfl (Wops_go rfl (Wops_call rfl (C31 (g10.ext x1012) P2) ?_)))
  rintro _ _ ⟨rfl, rfl⟩
  refine Wops_go rfl (Wops_as (w := .bool true) rfl rfl (by simp) (Wops_run rfl rfl (Wops_run rfl rfl (K_fin [(4, _)] rfl (?_)))))
  exact K_ret (Told.mk _ rfl rfl)

set_option maxRecDepth 100000 in
theorem sessApart_fn {b : Base} {N : Nat} {vs : List Value} (h0 : 0 < N) (hd : ∀ id l, b id = some l → id < N) (hb : b 0 = none) (hG : ArgsG Try.prog b 4 [23, 41] vs) : Fn Try.prog 11 vs (heapIn b N) fun v _ => v = .bool true := by
  obtain ⟨v2, r2, rfl, g2, hr2⟩ := ArgsG_cons hG
  obtain ⟨v3, r3, rfl, g3, hr3⟩ := ArgsG_cons hr2
  obtain rfl := ArgsG_nil hr3
  obtain ⟨xb, xn, xc, ys, hv2, sy, hxn, hys⟩ := GV_ints h0 hd hb Try.underlying23 Try.underlying5 cells5 (GA_slice Try.underlying23 g2)
  obtain rfl : v2 = .slice xb xn xc := by simpa using hv2
  unfold GA at g3
  rw [Try.underlying41] at g3
  obtain ⟨cs, rfl, g⟩ := g3
  obtain ⟨c1, q1, rfl, l1, f1, c2, q2, rfl, l2, f2, c3, q3, rfl, l3, f3, c4, q4, rfl, l4, f4, rfl⟩ := GV_struct Try.underlying41 g
  obtain ⟨tok, rfl, htok⟩ := GV_int Try.underlying22 f1
  obtain ⟨er, rfl, her⟩ := GV_int Try.underlying29 f2
  obtain ⟨han, rfl, hhan⟩ := GV_int Try.underlying22 f3
  obtain ⟨a, n, c, xs, rfl, s, hn, hxs⟩ := GV_ints h0 hd hb Try.underlying24 Try.underlying22 cells22' f4
  have w1 := wf_u64 htok
  have w2 := wf_u64 hhan
  obtain ⟨t, rfl⟩ : ∃ t : Nat, tok = t := ⟨tok.toNat, by omega⟩
  obtain ⟨u, rfl⟩ : ∃ u : Nat, han = u := ⟨han.toNat, by omega⟩
  have s' := s.sl
  rw [ints_nat fun x hx => (wf_u64 (hxs x hx)).1] at s'
  have hv : ∀ v ∈ xs.map Int.toNat, v < 18446744073709551616 := by
    intro v hv
    obtain ⟨x, hx, rfl⟩ := List.mem_map.1 hv
    have := wf_u64 (hxs x hx); omega
  exact C11 sy (fun x hx => wf_u8 (hys x hx)) s' s.lt (by omega) (by omega) hv

end
end Go.Dx.SYtkppbmhpcjjceaa
