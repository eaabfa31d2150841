/- Contracts of req: reading a request. -/
import Derived.Test.YtkppbmhpcjjceaaRq8
namespace Go.Dx.SYtkppbmhpcjjceaa
open Go.Proofs
set_option linter.unusedVariables false
set_option linter.unusedSimpArgs false

/-- cursor.name -/
theorem C84 {h : Heap} {p B : Nat} {s : Rd} {rest : List Value} (q : Cu h p B s rest) :
    Fn Try.prog 84 [ptr p] h fun v h' => Cu h' p B (nameS s).2 rest ∧ Ext (· = p) h h' ∧ v = .string (strOf (nameS s).1) := by
  have hc : (countS 32 s).1 < 18446744073709551616 := by
    by_cases h0 : s.2 = 0
    · have hns : countS 32 s = ((rdL 32 0 0 s.1).1, failS (decide ((rdL 32 0 0 s.1).1 > 32)) 4 (s.1.drop (rdL 32 0 0 s.1).2.1, (rdL 32 0 0 s.1).2.2)) := by unfold countS; rw [if_neg (fun w => w h0)]
      rw [hns]; exact Nat.lt_of_lt_of_le (rdL_lt (size := 32) s.1 0 0 (by decide) (by decide) q.1) (by decide)
    · rw [stick_count h0]; exact (by decide : 0 < 18446744073709551616)
  refine fnK F84.fok rfl ?_
  refine K_reg (Wops_run rfl rfl (K_fin [(0, _)] rfl (?_)))
  refine K_reg (Wops_run rfl rfl (Wops_run rfl rfl (Wops_call rfl (C88 (most := 32) q) ?_)))
  rintro _ h1 ⟨q1, x1, rfl⟩
  refine Wops_call rfl (C83 q1 hc) ?_
  rintro _ h2 ⟨q2, x2, a', c', rfl, o, b'⟩
  have s' := o.sl
  rw [bys_ints] at s'
  refine Wops_toStr rfl s' (Wops_run rfl rfl (K_fin [(2, _)] rfl (?_)))
  exact K_ret (Told.mk _ rfl ⟨q2, x1.trans x2, rfl⟩)

section
variable {P : Program} {d : Option Nat} {r : List SOp} {e : Env} {h : Heap} {Q : Env → Heap → Prop}
theorem Wops_stC {p B i : Nat} {s : Rd} {rest : List Value} {a x : Arg} {v : Value} (q : Cu h p B s rest) (ha : a.ev e = some (.pointer (some ⟨p, i + 2, none⟩))) (hx : x.ev e = some v) (hv : v.cells.toList = [v]) (hi : i + 1 ≤ rest.length) (hc : [v].all isCell = true)
    (hq : ∀ h', Ext (· = p) h h' → Cu h' p B s (putL rest i [v]) → Wops P r (e.put d undefV) h' Q) : Wops P (⟨d, none, .st 1 a x⟩ :: r) e h Q := by
  obtain ⟨hx', a', c, g, sl, hb, hd⟩ := q
  refine Wops_st (l := [v]) ha hx hv rfl g (by simp; omega) hc fun h' n' x' g' => hq h' x' ⟨hx', a', c, g', sl.ext x' fun i r z => (by have := hd.1; have := hd.2 i r; omega), hb, hd⟩
end

set_option maxHeartbeats 2000000 in
/-- asked.all -/
theorem C44 {h : Heap} {p B : Nat} {xs : List Nat} (q : Cu h p B (xs, 0) (RqV Rq.zero none 0 0 none 0 0)) :
    Fn Try.prog 44 [ptr p] h fun v h' => ∃ ba bc aa ac, Cu h' p B (allS xs).2 (RqV (allS xs).1 ba (allS xs).1.body.length bc aa (allS xs).1.args.length ac) ∧ Ext (· = p) h h' ∧
      OwS h' 1 ba (allS xs).1.body.length bc (bys (allS xs).1.body) ∧ OwS h' 1 aa (allS xs).1.args.length ac (u64s (allS xs).1.args) ∧ (∀ i, Blk ba i → h.next ≤ i) ∧ ∀ i, Blk aa i → h.next ≤ i := by
  have hp := q.lt
  refine fnK F44.fok rfl ?_
  refine K_reg (Wops_run rfl rfl (Wops_run rfl rfl (Wops_run rfl rfl (Wops_run rfl rfl (K_fin [(0, _), (2, _)] rfl (?_))))))
  have hk1 := fixed1_lt (xs, 0) q.1
  refine K_reg (Wops_run rfl rfl (Wops_run rfl rfl (Wops_run rfl rfl (Wops_run rfl rfl (Wops_call rfl (C62 (n := 1) q (by decide)) ?_)))))
  rintro _ h1 ⟨q1, x1, rfl⟩
  have hkA : kindS (xs, 0) = ((fixedS 1 (xs, 0)).1, failS (decide ((fixedS 1 (xs, 0)).1 < 1 ∨ (fixedS 1 (xs, 0)).1 > 6)) 2 (fixedS 1 (xs, 0)).2) := rfl
  have hall : allS xs = bodyS (kindS (xs, 0)).1 (fixedS 8 (kindS (xs, 0)).2).1 (fixedS 8 (kindS (xs, 0)).2).2 := rfl
  rw [hkA] at hall
  rw [hall]
  clear hall hkA
  generalize fixedS 1 (xs, 0) = A at q1 hk1 ⊢
  obtain ⟨k, s1⟩ := A
  have hk1' : k < 256 := hk1
  simp only [] at q1 ⊢
  refine Wops_as (w := .int .i64 (k : Int)) rfl rfl (by rw [w64 (by omega)]) (Wops_run rfl rfl (Wops_run rfl rfl (Wops_stC (i := 0) q1 rfl rfl rfl (by simp [RqV]) rfl fun h2 x2 q2 => K_fin [(0, _), (2, _)] rfl (?_))))
  have z1 := x1.next
  have z2 := x2.next
  refine K_join (fun e h' => e = [(0, ptr p), (2, .pointer (some ⟨p, 2, none⟩))] ∧ Ext (· = p) h2 h' ∧ Cu h' p B (failS (decide (k < 1 ∨ k > 6)) 2 s1) (RqV { Rq.zero with kind := k } none 0 0 none 0 0)) ?_ ?_
  · obtain ⟨hx2, a2, c2, g2, _⟩ := id q2
    refine K_last (Wops_run rfl rfl (Wops_run rfl rfl (Wops_run rfl rfl (Wops_run rfl rfl (Wops_run rfl rfl (Wops_run rfl rfl (Wops_ld (v := .int .i64 (k : Int)) rfl g2 rfl ?_)))))))
    by_cases c1 : k < 1
    · refine Wops_as (w := .bool true) rfl rfl (by rw [decide_eq_true (by omega)]) (Wops_run rfl rfl (Wops_skip rfl (Wops_skip rfl (Wops_skip rfl (Wops_skip rfl (Wops_skip rfl (Wops_run rfl rfl (Wops_call rfl (C63 q2) ?_))))))))
      rintro _ h3 ⟨q3, x3⟩
      refine K_finL [(0, _), (2, _)] rfl (?_)
      rw [decide_eq_true (.inl c1)]
      exact ⟨rfl, x3, q3⟩
    · refine Wops_as (w := .bool false) rfl rfl (by rw [decide_eq_false (by omega)]) (Wops_run rfl rfl (Wops_go rfl (Wops_run rfl rfl (Wops_go rfl (Wops_run rfl rfl (Wops_go rfl (Wops_run rfl rfl (Wops_go rfl (Wops_ld (v := .int .i64 (k : Int)) rfl g2 rfl (Wops_go rfl (Wops_as (w := .bool (decide (k < 1 ∨ k > 6))) rfl rfl (by congr 1; exact decide_eq_decide.2 (by omega)) (Wops_run rfl rfl (Wops_call rfl (C63 q2) ?_)))))))))))))
      rintro _ h3 ⟨q3, x3⟩
      exact K_finL [(0, _), (2, _)] rfl ⟨rfl, x3, q3⟩
  rintro _ h3 ⟨rfl, x3, q3⟩
  have z3 := x3.next
  generalize failS (decide (k < 1 ∨ k > 6)) 2 s1 = sA at q3 ⊢
  refine K_reg (Wops_run rfl rfl (Wops_run rfl rfl (Wops_run rfl rfl (Wops_run rfl rfl (Wops_call rfl (C62 (n := 8) q3 (by decide)) ?_)))))
  rintro _ h4 ⟨q4, x4, rfl⟩
  have z4 := x4.next
  generalize fixedS 8 sA = F at q4 ⊢
  obtain ⟨t, s⟩ := F
  simp only [] at q4 ⊢
  refine Wops_run rfl rfl (Wops_run rfl rfl (Wops_stC (i := 1) q4 rfl rfl rfl (by simp [RqV]) rfl fun h5 x5 q5 => K_fin [(0, _), (2, _)] rfl (?_)))
  have z5 := x5.next
  have X : Ext (· = p) h h5 := (((x1.trans x2).trans x3).trans x4).trans x5
  replace q5 : Cu h5 p B s (RqV { Rq.zero with kind := k, tok := t } none 0 0 none 0 0) := q5
  obtain ⟨hx5, a5, c5, g5, sl5, hb5, hd5⟩ := id q5
  refine K_reg (Wops_run rfl rfl (Wops_run rfl rfl (Wops_run rfl rfl (Wops_ld (v := .int .i64 (k : Int)) rfl g5 rfl (K_fin [(0, _), (2, _), (40, _)] rfl (?_))))))
  refine K_block ?_
  by_cases e1 : k = 1
  · subst e1
    refine K_reg (Wops_as (w := .bool true) rfl rfl rfl (Wops_run rfl rfl (K_fin [(0, _), (2, _), (40, _), (41, _)] rfl (?_))))
    refine K_cond rfl (fun _ => ?_) (fun hc => by cases hc)
    refine K_last (Wops_run rfl rfl (Wops_run rfl rfl (Wops_run rfl rfl (Wops_run rfl rfl (Wops_run rfl rfl (Wops_run rfl rfl (Wops_run rfl rfl (Wops_run rfl rfl (Wops_ld (v := .slice a5 s.1.length c5) rfl g5 rfl (Wops_run rfl rfl (Wops_as (w := .int .u64 (s.1.length : Int)) rfl rfl (by rw [wr64m, Nat.mod_eq_of_lt (by omega)]) (Wops_call rfl (C83 q5 (by omega)) ?_))))))))))))
    rintro _ h6 ⟨q6, x6, ba, bc, rfl, ob, bb⟩
    refine Wops_run rfl rfl (Wops_run rfl rfl (Wops_stC (i := 4) q6 rfl rfl rfl (by simp [RqV]) rfl fun h7 x7 q7 => K_finL [] rfl (?_)))
    have z6 := x6.next
    refine Told.mk [] rfl ⟨ba, bc, none, 0, q7, (X.trans x6).trans x7, ob.ext x7 (fun i r => by have := bb i r; omega), OwS.none, fun i r => by have := bb i r; omega, fun i r => absurd r Blk.none⟩
  refine K_reg (Wops_as (w := .bool false) rfl rfl (by simp; omega) (Wops_run rfl rfl (K_fin [(0, _), (2, _), (40, _), (41, _)] rfl (?_))))
  refine K_cond rfl (fun hc => by cases hc) (fun _ => ?_)
  by_cases e2 : k = 2
  · subst e2
    refine K_reg (Wops_as (w := .bool true) rfl rfl rfl (Wops_run rfl rfl (K_fin [(0, _), (2, _), (40, _), (57, _)] rfl (?_))))
    refine K_cond rfl (fun _ => ?_) (fun hc => by cases hc)
    refine K_last (Wops_run rfl rfl (Wops_run rfl rfl (Wops_run rfl rfl (Wops_run rfl rfl (Wops_run rfl rfl (Wops_run rfl rfl (Wops_run rfl rfl (Wops_run rfl rfl (Wops_call rfl (C64 q5) ?_)))))))))
    rintro _ h6 ⟨q6, x6, rfl⟩
    refine Wops_call rfl (C84 q6) ?_
    rintro _ h7 ⟨q7, x7, rfl⟩
    refine Wops_run rfl rfl (Wops_run rfl rfl (Wops_stC (i := 2) q7 rfl rfl rfl (by simp [RqV]) rfl fun h8 x8 q8 => ?_))
    refine Wops_run rfl rfl (Wops_run rfl rfl (Wops_stC (i := 3) q8 rfl rfl rfl (by simp [RqV, putL]) rfl fun h9 x9 q9 => K_finL [] rfl (?_)))
    exact Told.mk [] rfl ⟨none, 0, none, 0, q9, (((X.trans x6).trans x7).trans x8).trans x9, OwS.none, OwS.none, fun i r => absurd r Blk.none, fun i r => absurd r Blk.none⟩
  refine K_reg (Wops_as (w := .bool false) rfl rfl (by simp; omega) (Wops_run rfl rfl (K_fin [(0, _), (2, _), (40, _), (57, _)] rfl (?_))))
  refine K_cond rfl (fun hc => by cases hc) (fun _ => ?_)
  by_cases e3 : k = 3
  · subst e3
    refine K_reg (Wops_as (w := .bool true) rfl rfl rfl (Wops_run rfl rfl (K_fin [(0, _), (2, _), (40, _), (73, _)] rfl (?_))))
    refine K_cond rfl (fun _ => ?_) (fun hc => by cases hc)
    refine K_last (Wops_run rfl rfl (Wops_run rfl rfl (Wops_run rfl rfl (Wops_run rfl rfl (Wops_call rfl (C84 q5) ?_)))))
    rintro _ h7 ⟨q7, x7, rfl⟩
    refine Wops_run rfl rfl (Wops_run rfl rfl (Wops_stC (i := 3) q7 rfl rfl rfl (by simp [RqV]) rfl fun h9 x9 q9 => K_finL [] rfl (?_)))
    exact Told.mk [] rfl ⟨none, 0, none, 0, q9, (X.trans x7).trans x9, OwS.none, OwS.none, fun i r => absurd r Blk.none, fun i r => absurd r Blk.none⟩
  refine K_reg (Wops_as (w := .bool false) rfl rfl (by simp; omega) (Wops_run rfl rfl (K_fin [(0, _), (2, _), (40, _), (73, _)] rfl (?_))))
  refine K_cond rfl (fun hc => by cases hc) (fun _ => ?_)
  by_cases e4 : k = 4
  · subst e4
    refine K_reg (Wops_as (w := .bool true) rfl rfl rfl (Wops_run rfl rfl (K_fin [(0, _), (2, _), (40, _), (82, _)] rfl (?_))))
    refine K_cond rfl (fun _ => ?_) (fun hc => by cases hc)
    refine K_last (Wops_run rfl rfl (Wops_run rfl rfl (Wops_run rfl rfl (Wops_run rfl rfl (Wops_run rfl rfl (Wops_run rfl rfl (Wops_run rfl rfl (Wops_run rfl rfl (Wops_run rfl rfl (Wops_run rfl rfl (Wops_run rfl rfl (Wops_run rfl rfl (Wops_run rfl rfl (Wops_run rfl rfl (Wops_run rfl rfl (Wops_run rfl rfl (Wops_call rfl (C64 q5) ?_)))))))))))))))))
    rintro _ h6 ⟨q6, x6, rfl⟩
    refine Wops_call rfl (C84 q6) ?_
    rintro _ h7 ⟨q7, x7, rfl⟩
    refine Wops_call rfl (C65 q7) ?_
    rintro _ h8 ⟨q8, x8, aa, ac, rfl, oa, ba⟩
    refine Wops_call rfl (C64 q8) ?_
    rintro _ h9 ⟨q9, x9, rfl⟩
    have z6 := x6.next
    have z7 := x7.next
    have z8 := x8.next
    have z9 := x9.next
    have ne : ∀ i, Blk aa i → ¬ i = p := fun i r => by have := ba i r; omega
    refine Wops_run rfl rfl (Wops_run rfl rfl (Wops_stC (i := 2) q9 rfl rfl rfl (by simp [RqV]) rfl fun h10 x10 q10 => ?_))
    refine Wops_run rfl rfl (Wops_run rfl rfl (Wops_stC (i := 3) q10 rfl rfl rfl (by simp [RqV, putL]) rfl fun h11 x11 q11 => ?_))
    refine Wops_run rfl rfl (Wops_run rfl rfl (Wops_stC (i := 5) q11 rfl rfl rfl (by simp [RqV, putL]) rfl fun h12 x12 q12 => ?_))
    refine Wops_run rfl rfl (Wops_run rfl rfl (Wops_stC (i := 6) q12 rfl rfl rfl (by simp [RqV, putL]) rfl fun h13 x13 q13 => K_finL [] rfl (?_)))
    exact Told.mk [] rfl ⟨none, 0, aa, ac, q13, (((((((X.trans x6).trans x7).trans x8).trans x9).trans x10).trans x11).trans x12).trans x13, OwS.none, ((((oa.ext x9 ne).ext x10 ne).ext x11 ne).ext x12 ne).ext x13 ne, fun i r => absurd r Blk.none, fun i r => by have := ba i r; omega⟩
  refine K_reg (Wops_as (w := .bool false) rfl rfl (by simp; omega) (Wops_run rfl rfl (K_fin [(0, _), (2, _), (40, _), (82, _)] rfl (?_))))
  refine K_cond rfl (fun hc => by cases hc) (fun _ => ?_)
  by_cases e5 : k = 5
  · subst e5
    refine K_reg (Wops_as (w := .bool true) rfl rfl rfl (Wops_run rfl rfl (K_fin [(0, _), (2, _), (40, _), (112, _)] rfl (?_))))
    refine K_cond rfl (fun _ => ?_) (fun hc => by cases hc)
    refine K_last (Wops_run rfl rfl (Wops_run rfl rfl (Wops_run rfl rfl (Wops_run rfl rfl (Wops_call rfl (C64 q5) ?_)))))
    rintro _ h7 ⟨q7, x7, rfl⟩
    refine Wops_run rfl rfl (Wops_run rfl rfl (Wops_stC (i := 2) q7 rfl rfl rfl (by simp [RqV]) rfl fun h9 x9 q9 => K_finL [] rfl (?_)))
    exact Told.mk [] rfl ⟨none, 0, none, 0, q9, (X.trans x7).trans x9, OwS.none, OwS.none, fun i r => absurd r Blk.none, fun i r => absurd r Blk.none⟩
  refine K_reg (Wops_as (w := .bool false) rfl rfl (by simp; omega) (Wops_run rfl rfl (K_fin [(0, _), (2, _), (40, _), (112, _)] rfl (?_))))
  refine K_cond rfl (fun hc => by cases hc) (fun _ => ?_)
  by_cases e6 : k = 6
  · subst e6
    refine K_reg (Wops_as (w := .bool true) rfl rfl rfl (Wops_run rfl rfl (K_fin [(0, _), (2, _), (121, _)] rfl (?_))))
    refine K_cond rfl (fun _ => ?_) (fun hc => by cases hc)
    refine K_last (Wops_run rfl rfl (Wops_run rfl rfl (Wops_run rfl rfl (Wops_run rfl rfl (Wops_call rfl (C62 (n := 8) q5 (by decide)) ?_)))))
    rintro _ h7 ⟨q7, x7, rfl⟩
    refine Wops_run rfl rfl (Wops_run rfl rfl (Wops_stC (i := 7) q7 rfl rfl rfl (by simp [RqV]) rfl fun h9 x9 q9 => K_finL [] rfl (?_)))
    exact Told.mk [] rfl ⟨none, 0, none, 0, q9, (X.trans x7).trans x9, OwS.none, OwS.none, fun i r => absurd r Blk.none, fun i r => absurd r Blk.none⟩
  refine K_reg (Wops_as (w := .bool false) rfl rfl (by simp; omega) (Wops_run rfl rfl (K_fin [(0, _), (2, _), (121, _)] rfl (?_))))
  refine K_cond rfl (fun hc => by cases hc) (fun _ => ?_)
  have hb : bodyS k t s = (⟨k, t, 0, [], [], [], 0, 0⟩, s) := by
    unfold bodyS
    split <;> first | omega | rfl
  rw [hb]
  exact K_skip (Told.mk [] rfl ⟨none, 0, none, 0, q5, X, OwS.none, OwS.none, fun i r => absurd r Blk.none, fun i r => absurd r Blk.none⟩)

set_option maxHeartbeats 1000000 in
/-- req.Take -/
theorem C14 {h : Heap} {a : Option Addr} {c n : Nat} {xs : List Nat} (s : SlA h 1 a n c (bys xs)) (hb : n ≤ 100000) (hx : ∀ x ∈ xs, x < 256) (ha : ∀ i, Blk a i → i < h.next) :
    Fn Try.prog 14 [.slice a n c] h fun v h' => Ext0 h h' ∧ ∃ ba bc aa ac, v = .tuple ⟨[.agg ⟨RqV (takeQ xs).1 ba (takeQ xs).1.body.length bc aa (takeQ xs).1.args.length ac⟩, .int .i64 (takeQ xs).2]⟩ ∧
      OwS h' 1 ba (takeQ xs).1.body.length bc (bys (takeQ xs).1.body) ∧ OwS h' 1 aa (takeQ xs).1.args.length ac (u64s (takeQ xs).1.args) ∧ (∀ i, Blk ba i → h.next ≤ i) ∧ ∀ i, Blk aa i → h.next ≤ i := by
  have hn : xs.length = n := by simpa using s.len
  subst hn
  refine fnK F14.fok rfl ?_
  refine K_reg (Wops_new fun h1 n1 x1 g1 => Wops_run rfl rfl (K_fin [(0, _), (2, _)] rfl (?_)))
  refine K_reg (Wops_run rfl rfl (Wops_run rfl rfl (Wops_run rfl rfl (Wops_box (cs := .slice a xs.length c :: .int .i64 0 :: RqV Rq.zero none 0 0 none 0 0) rfl rfl fun h2 n2 x2 g2 => Wops_run rfl rfl (K_fin [(2, _), (4, _)] rfl (?_))))))
  have q2 : Cu h2 h1.next h.next (xs, 0) (RqV Rq.zero none 0 0 none 0 0) := ⟨hx, a, c, g2, (s.ext x1).ext x2, hb, by omega, ha⟩
  have g12 : At h2 h.next (.cells (RqV Rq.zero none 0 0 none 0 0) 0 false) := At.ext g1 x2
  refine K_reg (Wops_run rfl rfl (Wops_call rfl (C44 q2) ?_))
  rintro _ h3 ⟨ba, bc, aa, ac, q3, x3, ob, oa, bb, bba⟩
  refine K_fin [(2, _), (4, _)] rfl (?_)
  refine K_ss (K_reg (Wops_run rfl rfl (Wops_run rfl rfl (Wops_run rfl rfl (Wops_call rfl (C45 q3) ?_)))))
  rintro _ h4 ⟨q4, x4, rfl⟩
  refine Wops_run rfl rfl (K_fin [(2, _), (4, _), (5, _)] rfl (?_))
  have z1 := x1.next
  have z2 := x2.next
  have z3 := x3.next
  have z4 := x4.next
  have X : Ext0 h h4 := ((x1.trans x2).then x3 fun i r => .inr (by omega)).then x4 fun i r => .inr (by omega)
  have g14 : At h4 h.next (.cells (RqV Rq.zero none 0 0 none 0 0) 0 false) := (g12.ext x3 (by omega)).ext x4 (by omega)
  have ob4 := ob.ext x4 (fun i r => by have := bb i r; omega)
  have oa4 := oa.ext x4 (fun i r => by have := bba i r; omega)
  have htk : takeQ xs = if (endS (allS xs).2).2 ≠ 0 then (Rq.zero, (endS (allS xs).2).2) else ((allS xs).1, 0) := rfl
  refine K_ss (K_reg (Wops_run rfl rfl ?_))
  by_cases h0 : (endS (allS xs).2).2 = 0
  · rw [if_neg (fun w => w h0)] at htk
    rw [htk]
    refine Wops_as (w := .bool false) rfl rfl (by simp [h0]) (K_fin [(2, _), (4, _), (5, _), (17, _)] rfl (?_))
    refine K_scond rfl (fun hc => by cases hc) (fun _ => ?_)
    obtain ⟨_, a4, c4, g4, _⟩ := id q4
    refine K_sskip (K_reg (Wops_run rfl rfl (Wops_run rfl rfl (Wops_run rfl rfl (Wops_ldA (l := RqV (allS xs).1 ba (allS xs).1.body.length bc aa (allS xs).1.args.length ac) rfl g4 (by simp [RqV]) rfl ?_)))))
    refine Wops_st (l := RqV (allS xs).1 ba (allS xs).1.body.length bc aa (allS xs).1.args.length ac) rfl rfl rfl rfl g14 (by simp [RqV]) rfl fun h5 n5 x5 g5 => ?_
    refine Wops_run rfl rfl (K_fin [(2, _), (3, _)] rfl (?_))
    exact K_ret (Told.mk _ (resL_cons (res_c (l := RqV (allS xs).1 ba (allS xs).1.body.length bc aa (allS xs).1.args.length ac) rfl g5 (by simp [putL_length, RqV]) (by rfl)) (resL_cons rfl rfl)) ⟨X.then x5 fun i r => .inr (by omega), ba, bc, aa, ac, rfl, ob4.ext x5 (fun i r => by have := bb i r; omega), oa4.ext x5 (fun i r => by have := bba i r; omega), fun i r => by have := bb i r; omega, fun i r => by have := bba i r; omega⟩)
  · rw [if_pos h0] at htk
    rw [htk]
    refine Wops_as (w := .bool true) rfl rfl (by simp [h0]) (K_fin [(2, _), (4, _), (5, _), (17, _)] rfl (?_))
    refine K_scond rfl (fun _ => ?_) (fun hc => by cases hc)
    refine K_ss (K_reg (Wops_run rfl rfl (Wops_run rfl rfl (Wops_st (l := RqV Rq.zero none 0 0 none 0 0) rfl rfl rfl rfl g14 (by simp [RqV]) rfl fun h5 n5 x5 g5 => ?_))))
    refine Wops_run rfl rfl (K_fin [(2, _), (3, _)] rfl (?_))
    exact K_sret (Told.mk _ (resL_cons (res_c (l := RqV Rq.zero none 0 0 none 0 0) rfl g5 (by simp [putL_length, RqV]) (by rfl)) (resL_cons rfl rfl)) ⟨X.then x5 fun i r => .inr (by omega), none, 0, none, 0, rfl, OwS.none, OwS.none, fun i r => absurd r Blk.none, fun i r => absurd r Blk.none⟩)
end Go.Dx.SYtkppbmhpcjjceaa
