/- ClockDrops: the walk. -/
import Derived.Test.YtfhdeagbgdnkaaaCk4
namespace Go.Dx.SYtfhdeagbgdnkaaa
open Go.Proofs
set_option linter.unusedVariables false
set_option linter.unusedSimpArgs false

theorem Wops_iaA {P : Program} {d : Option Nat} {r : List SOp} {e : Env} {h : Heap} {Q : Env → Heap → Prop} {n size id off : Nat} {x i : Arg} {k : IntKind} {j : Nat} (hx : x.ev e = some (.pointer (some ⟨id, off, none⟩))) (hi : i.ev e = some (.int k j)) (hj : j < n) (hq : Wops P r (e.put d (.pointer (some ⟨id, off + j * size, none⟩))) h Q) :
    Wops P (⟨d, none, .iaA n size x i⟩ :: r) e h Q := by
  refine Wops_run (v := .pointer (some ⟨id, off + j * size, none⟩)) (h' := h) rfl ?_ hq
  simp only [SO.run, hx, hi]
  rw [if_pos ⟨by omega, by omega⟩, Int.toNat_natCast]

def kept (ids : List Int) (i : Nat) : List Nat := (List.range i).filter fun m => !decide ((m : Int) ∈ ids)
def tm (B : Int) (l : List Nat) : List D := l.map fun m : Nat => ((m : Int), 1 + B)
def idl (l : List Nat) : List Int := l.map fun m : Nat => (m : Int)
theorem tm_drop (B : Int) (ids : List Int) (i : Nat) : dropR (tm B (List.range i)) ids = tm B (kept ids i) := by
  unfold dropR tm kept
  rw [List.filter_map]; rfl
theorem tm_late (B t : Int) (l : List Nat) : lateL (tm B l) t = if 1 + B ≤ t then idl l else [] := by
  unfold lateL tm idl
  by_cases h : 1 + B ≤ t
  · rw [if_pos h, List.filter_eq_self.2 (fun d hd => by obtain ⟨m, _, rfl⟩ := List.mem_map.1 hd; simp [h]), List.map_map]; rfl
  · rw [if_neg h, List.filter_eq_nil_iff.2 (fun d hd => by obtain ⟨m, _, rfl⟩ := List.mem_map.1 hd; simp [h])]; rfl
theorem tm_gone (B : Int) (l : List Nat) : dropR (tm B l) (idl l) = [] := by
  unfold dropR tm idl
  apply List.filter_eq_nil_iff.2
  intro d hd
  obtain ⟨m, hm, rfl⟩ := List.mem_map.1 hd
  have : (m : Int) ∈ l.map fun m : Nat => (m : Int) := List.mem_map.2 ⟨m, hm, rfl⟩
  rw [decide_eq_true this]; simp
theorem drop_nil (ds : List D) : dropR ds [] = ds := by simp [dropR]
theorem tm_len (B : Int) (l : List Nat) : (tm B l).length = l.length := by simp [tm]
theorem kept_len (ids : List Int) (i : Nat) : (kept ids i).length ≤ i := by
  have := List.length_filter_le (fun m : Nat => !decide ((m : Int) ∈ ids)) (List.range i)
  rw [List.length_range] at this; exact this
theorem kept_succ (ids : List Int) (i : Nat) : kept ids (i + 1) = kept ids i ++ if (i : Int) ∈ ids then [] else [i] := by
  unfold kept
  rw [List.range_succ, List.filter_append]
  by_cases h : (i : Int) ∈ ids <;> simp [h]
theorem kept_le (ids : List Int) : ∀ (k i : Nat), ∃ r, kept ids (i + k) = kept ids i ++ r
  | 0, i => ⟨[], by simp⟩
  | k + 1, i => by
    obtain ⟨r, h⟩ := kept_le ids k i
    exact ⟨_, by rw [← Nat.add_assoc, kept_succ, h, List.append_assoc]⟩
theorem kept_at {ids : List Int} {i n : Nat} (hi : i < n) (h : ¬ (i : Int) ∈ ids) : (kept ids i).length < (kept ids n).length ∧ (kept ids n)[(kept ids i).length]? = some i := by
  obtain ⟨r, hr⟩ := kept_le ids (n - (i + 1)) (i + 1)
  rw [show i + 1 + (n - (i + 1)) = n by omega, kept_succ, if_neg h] at hr
  rw [hr]
  constructor
  · simp only [List.length_append, List.length_singleton]; omega
  · simp
def offL (ids : List Int) : List Value := (List.range 10).map fun m : Nat => .bool (decide ((m : Int) ∈ ids))
theorem offL_set (ids : List Int) (r : Nat) (hr : r < 10) : (offL ids).set r (.bool true) = offL (ids ++ [(r : Int)]) := by
  apply List.ext_getElem (by simp [offL])
  intro m h1 h2
  by_cases hm : r = m
  · subst hm; simp [offL]
  · rw [List.getElem_set_ne hm]
    have : ¬ (m : Int) = r := by omega
    simp [offL, this]
theorem offL_at (ids : List Int) (m : Nat) (hm : m < 10) : (offL ids)[m]? = some (.bool (decide ((m : Int) ∈ ids))) := by
  simp [offL, hm]

theorem C13 {h : Heap} {a0 : Option Addr} {n0 c0 : Nat} {xs : List Int} {at' : Int} (s0 : InS h a0 n0 c0 (xs.map (.int .u8))) (w0 : ∀ x ∈ xs, 0 ≤ x ∧ x ≤ 255) (hat : 0 ≤ at' ∧ at' ≤ 255) : Fn Try.prog 13 [.slice a0 n0 c0, .int .u8 at'] h fun v _ => v = .bool true := by
  have hn : xs.length = n0 := by simpa using s0.sl.len
  obtain ⟨B, hB, hBe'⟩ := rem_nat hat.1 (m := 5) (by omega)
  have hBe : at'.tmod 5 = B := hBe'
  have rem : ∀ i (hi : i < xs.length), ∃ A : Nat, A < 10 ∧ xs[i].tmod 10 = A := fun i hi => rem_nat (w0 _ (List.getElem_mem hi)).1 (m := 10) (by omega)
  refine fnK F13.fok rfl ?_
  refine K_reg (Wops_run rfl rfl (K_fin [(0, _), (1, _)] rfl (?_)))
  refine K_ss (K_reg (Wops_call rfl C31 ?_))
  rintro _ _ ⟨rfl, rfl⟩
  refine Wops_run rfl rfl (K_fin [(0, _), (1, _), (15, _)] rfl (?_))
  refine K_scond rfl (fun hc => by cases hc) (fun _ => ?_)
  refine K_sskip (K_ss (K_reg (Wops_run rfl rfl (Wops_run rfl rfl (Wops_run rfl rfl (K_fin [(0, _), (1, _), (18, _)] rfl (?_)))))))
  refine K_scond rfl (fun hc => ?_) (fun hc => ?_)
  · refine K_ss (K_reg (Wops_run rfl rfl (K_fin [(4, _)] rfl (?_))))
    exact K_sret (Told.mk _ rfl rfl)
  have h10 : n0 ≤ 10 := by have := of_decide_eq_false hc; omega
  clear hc
  refine K_sskip (K_reg (Wops_call rfl C32 ?_))
  rintro _ h1 ⟨p, rfl, q1, x1, n1⟩
  refine Wops_run rfl rfl (K_fin [(0, _), (1, _), (5, _)] rfl (?_))
  refine K_ss (K_reg (Wops_run rfl rfl (K_fin [(0, _), (1, _), (5, _), (6, _)] rfl (?_))))
  refine K_sblock ?_
  refine K_loop (fun k e h' => ∃ (i : Nat) (S : Nat → Prop), e = [(0, .slice a0 n0 c0), (1, .int .u8 at'), (5, ptr p), (6, .int .u64 i)] ∧ i ≤ 10 ∧ k = 10 - i ∧ Ck h' p (tm B (List.range i)) 0 S ∧ Ext0 h h' ∧ ∀ j, S j → h.next ≤ j) ?_ (k := 10) ⟨0, (· = p), rfl, by omega, rfl, q1, x1, fun j r => by rw [r]; exact n1⟩
  clear q1 x1 n1 h1
  rintro k e h1 ⟨i, S1, rfl, hi, rfl, q1, x1, n1⟩
  refine K_ss (K_reg (Wops_run rfl rfl ?_))
  by_cases hc : (i : Int) < 10
  · refine Wops_as (w := .bool true) rfl rfl (by rw [decide_eq_true hc]) (K_fin [(0, _), (1, _), (5, _), (6, _), (21, _)] rfl (?_))
    refine K_scond rfl (fun _ => ?_) (fun hc => by cases hc)
    have hset : setR (tm B (List.range i)) 0 (i : Int) (1 + (B : Int)) = (0, tm B (List.range (i + 1))) := by
      unfold setR
      rw [if_neg (by omega), if_neg]
      · rw [List.range_succ]; simp [tm]
      · intro hany
        rw [List.any_eq_true] at hany
        obtain ⟨d, hd, e⟩ := hany
        obtain ⟨m, hm, rfl⟩ := List.mem_map.1 hd
        have := List.mem_range.1 hm
        have := eq_of_beq e
        simp at this; omega
    refine K_sskip (K_sblock (K_last ?_))
    refine Wops_run rfl rfl (Wops_run rfl rfl (Wops_run rfl rfl (Wops_rem rfl rfl (by decide) (Wops_as (w := .int .u64 (B : Int)) rfl rfl (by rw [hBe, wrapu (by omega)]) (Wops_as (w := .int .u64 (1 + (B : Int))) rfl rfl (by rw [wrapu (by omega)]) ?_)))))
    refine Wops_call rfl (C33 q1 (by rw [tm_len, List.length_range]; omega) (by omega) (by omega)) ?_
    rw [hset]
    rintro _ h2 ⟨rfl, S2, q2, t2⟩
    refine K_finL [(0, _), (1, _), (5, _), (6, _)] rfl (?_)
    refine K_last (Wops_run rfl rfl (Wops_as (w := .int .u64 ((i + 1 : Nat) : Int)) rfl rfl (by rw [wrapu (by omega)]; rfl) (Wops_run rfl rfl (K_finL [(0, _), (1, _), (5, _), (6, _)] rfl (?_)))))
    exact ⟨10 - (i + 1), by omega, i + 1, S2, rfl, by omega, rfl, q2, t2.ext0 x1 n1, t2.new x1 n1⟩
  have hi10 : i = 10 := by omega
  subst hi10
  refine Wops_as (w := .bool false) rfl rfl (by rw [decide_eq_false hc]) (K_fin [(0, _), (1, _), (5, _), (6, _), (21, _)] rfl (?_))
  refine K_scond rfl (fun hc => by cases hc) (fun _ => ?_)
  refine K_sexit (bx_same ?_)
  refine K_reg (Wops_new fun h2 n2 x2 g2 => K_fin [(0, _), (1, _), (5, _), (7, _)] rfl (?_))
  refine K_reg (Wops_run rfl rfl (K_fin [(0, _), (1, _), (5, _), (7, _), (8, _)] rfl (?_)))
  refine K_ss (K_reg (Wops_run rfl rfl (K_fin [(0, _), (1, _), (5, _), (7, _), (8, _), (9, _)] rfl (?_))))
  refine K_sblock ?_
  have q2 := q1.ext0 x2
  have lS : ∀ j, S1 j → j < h1.next := fun j r => q1.lt r
  have X2 := x1.trans x2
  have e1 := x1.next
  generalize hpo : h1.next = po at *
  refine K_loop (fun k e h' => ∃ (i no co : Nat) (ao : Option Addr) (ids : List Int), e = [(0, .slice a0 n0 c0), (1, .int .u8 at'), (5, ptr p), (7, ptr po), (8, .slice ao no co), (9, .int .i64 i)] ∧ i ≤ n0 ∧ k = n0 - i ∧ Ext (fun j => j = po) h2 h' ∧ At h' po (.cells (offL ids) 0 false) ∧ OwS h' 1 ao no co (us ids) ∧ (∀ j, Blk ao j → h2.next ≤ j) ∧ ids.length = i) ?_ (k := n0) ⟨0, 0, 0, none, [], rfl, by omega, rfl, Ext.refl _ _, g2, OwS.none, fun j r => absurd r Blk.none, rfl⟩
  rintro k e h3 ⟨i, no, co, ao, ids, rfl, hi, rfl, x3, g3, oo, bo, hil⟩
  have hno : ids.length = no := by simpa using oo.len
  have X3 : Ext0 h h3 := X2.then x3 fun j r => .inr (by omega)
  refine K_ss (K_reg (Wops_run rfl rfl (Wops_run rfl rfl (Wops_run rfl rfl (Wops_run rfl rfl (K_fin [(0, _), (1, _), (5, _), (7, _), (8, _), (9, _), (34, _)] rfl (?_)))))))
  refine K_scond rfl (fun hc => ?_) (fun hc => ?_)
  · have hlt : i < n0 := by have := of_decide_eq_true hc; omega
    obtain ⟨A, hA, hAe⟩ := rem i (by omega)
    refine K_sskip (K_sblock ?_)
    refine K_reg (Wops_run rfl rfl (Wops_run rfl rfl (Wops_idx (u := .int .u8 xs[i]) rfl rfl (s0.sl.ext X3) ⟨by omega, by omega⟩ (by simp [hn, hlt]) fun _ => ?_)))
    refine Wops_as (w := .int .u8 (A : Int)) rfl (show _ = some (Value.int .u8 (xs[i].tmod 10), h3) from rfl) (by rw [hAe]) (Wops_iaA rfl rfl hA ?_)
    refine Wops_st rfl rfl rfl rfl g3 (by simp [offL]; omega) rfl fun h4 n4 x4 g4 => ?_
    have g4' : At h4 po (.cells (offL (ids ++ [(A : Int)])) 0 false) := by
      have e : putL (offL ids) (0 + A * 1) [.bool true] = offL (ids ++ [(A : Int)]) := by
        rw [← offL_set _ _ hA, Nat.zero_add, Nat.mul_one]; rfl
      rw [← e]; exact g4
    refine K_fin [(0, _), (1, _), (5, _), (7, _), (8, _), (9, _)] rfl (?_)
    have X4 : Ext0 h h4 := X3.then x4 fun j r => .inr (by omega)
    refine K_last (Wops_run rfl rfl (Wops_run rfl rfl (Wops_run rfl rfl (Wops_idx (u := .int .u8 xs[i]) rfl rfl (s0.sl.ext X4) ⟨by omega, by omega⟩ (by simp [hn, hlt]) fun _ => ?_))))
    refine Wops_as (w := .int .u8 (A : Int)) rfl (show _ = some (Value.int .u8 (xs[i].tmod 10), h4) from rfl) (by rw [hAe]) (Wops_as (w := .int .u64 (A : Int)) rfl rfl (by rw [wrapu (by omega)]) ?_)
    refine Wops_bslice (l := us [(A : Int)]) rfl rfl fun h5 n5 x5 g5 => ?_
    have nao : ∀ j, Blk ao j → ¬ j = po := fun j r => by have := bo j r; omega
    refine Wops_app rfl rfl ((oo.ext x4 nao).ext x5) rfl (OwS.new (n := 1) (c := 1) g5 rfl).sl.first ⟨by omega, by omega⟩ rfl rfl (by decide) fun h6 a6 c6 x6 o6 b6 => ?_
    refine Wops_run rfl rfl (K_finL [(0, _), (1, _), (5, _), (7, _), (8, _), (9, _)] rfl (?_))
    refine K_last (Wops_run rfl rfl (Wops_run rfl rfl (Wops_run rfl rfl (K_finL [(0, _), (1, _), (5, _), (7, _), (8, _), (9, _)] rfl (?_)))))
    have e3 := x3.next
    have e4 := x4.next
    refine ⟨n0 - (i + 1), by omega, i + 1, no + 1, c6, a6, ids ++ [(A : Int)], by rw [w64s (by omega)], by omega, rfl, ((x3.trans x4).trans x5.of0).then x6 fun j r => .inr (bo j r), (g4'.ext x5).ext x6 (fun r => nao _ r rfl), ?_, fun j r => (b6 j r).elim (bo j) fun r => by omega, by simp [hil]⟩
    rw [us, List.map_append]; exact o6
  have hin : i = n0 := by have := of_decide_eq_false hc; omega
  refine K_sexit (bx_same ?_)
  have q3 := q2.ext x3 (fun j r e => by have := lS j r; omega)
  have e3 := x3.next
  refine K_reg (Wops_run rfl rfl (Wops_run rfl rfl (Wops_call rfl (C37 q3 oo.sl (fun j r s => by have := bo j r; have := lS j s; omega) (by rw [tm_len, List.length_range]; omega) (by omega)) ?_)))
  rw [tm_drop]
  rintro _ h4 ⟨S4, q4, t4⟩
  have nS4 : ∀ j, S4 j → ¬ j = po := fun j r e => by
    rcases t4.own j r with s | s
    · have := lS j s; omega
    · have := g3.lt; omega
  have g4 : At h4 po (.cells (offL ids) 0 false) := g3.ext t4.ext (fun r => by have := lS _ r; omega)
  refine K_fin [(1, _), (5, _), (7, _)] rfl (?_)
  refine K_reg (Wops_run rfl rfl (K_fin [(1, _), (5, _), (7, _), (10, _)] rfl (?_)))
  refine K_ss (K_reg (Wops_run rfl rfl (K_fin [(1, _), (5, _), (7, _), (10, _), (11, _)] rfl (?_))))
  refine K_sblock ?_
  have hkl := kept_len ids 10
  refine K_loop (fun k e h' => ∃ (i nl cl : Nat) (al : Option Addr) (S : Nat → Prop), e = [(1, .int .u8 at'), (5, ptr p), (7, ptr po), (10, .slice al nl cl), (11, .int .i64 i)] ∧ i ≤ B + 1 ∧ k = B + 1 - i ∧ Ck h' p (if i ≤ B then tm B (kept ids 10) else []) i S ∧ At h' po (.cells (offL ids) 0 false) ∧ (∀ j, S j → ¬ j = po) ∧ SlA h' 1 al nl cl (us (if i ≤ B then [] else idl (kept ids 10)))) ?_ (k := B + 1) ⟨0, 0, 0, none, S4, rfl, by omega, rfl, by rw [if_pos (by omega)]; exact q4, g4, nS4, by rw [if_pos (by omega)]; exact SlA.none⟩
  clear q4 t4 nS4 g4 hc
  rintro k e h5 ⟨i5, nl, cl, al, S5, rfl, hi5, rfl, q5, g5, nS5, s5⟩
  refine K_ss (K_reg (Wops_run rfl rfl (Wops_run rfl rfl (Wops_rem rfl rfl (by decide) (Wops_as (w := .int .i64 (B : Int)) rfl rfl (by rw [hBe, w64 (by omega)]) (Wops_run rfl rfl (K_fin [(1, _), (5, _), (7, _), (10, _), (11, _), (59, _)] rfl (?_))))))))
  refine K_scond rfl (fun hc => ?_) (fun hc => ?_)
  · have hle : i5 ≤ B := by have := of_decide_eq_true hc; omega
    rw [if_pos hle] at q5 s5
    have hnl : nl = 0 := by have := s5.len; simp at this; omega
    subst hnl
    refine K_sskip (K_sblock ?_)
    refine K_ss (K_reg (Wops_run rfl rfl (Wops_run rfl rfl (Wops_neq (v := false) rfl rfl rfl (K_fin [(1, _), (5, _), (7, _), (11, _), (64, _)] rfl (?_))))))
    refine K_scond rfl (fun hc => by cases hc) (fun _ => ?_)
    refine K_sskip (K_last (Wops_run rfl rfl (Wops_call rfl (C34 q5 (by rw [tm_len]; omega) (by omega)) ?_)))
    rw [tm_late]
    rintro _ h6 ⟨ao6, no6, co6, S6, rfl, so, bl, q6, t6⟩
    refine Wops_run rfl rfl (K_finL [(1, _), (5, _), (7, _), (10, _), (11, _)] rfl (?_))
    refine K_last (Wops_run rfl rfl (Wops_run rfl rfl (Wops_run rfl rfl (K_finL [(1, _), (5, _), (7, _), (10, _), (11, _)] rfl (?_)))))
    refine ⟨B + 1 - (i5 + 1), by omega, i5 + 1, no6, co6, ao6, S6, by rw [w64s (by omega)], by omega, rfl, ?_, g5.ext t6.ext (fun r => nS5 _ r rfl), fun j r e => ?_, ?_⟩
    · have e : ((i5 : Int) + 1) = ((i5 + 1 : Nat) : Int) := rfl
      rw [e] at q6
      by_cases hb : i5 + 1 ≤ B
      · rw [if_pos hb]; rw [if_neg (by omega), drop_nil] at q6; exact q6
      · rw [if_neg hb]; rw [if_pos (by omega), tm_gone] at q6; exact q6
    · rcases t6.own j r with s | s
      · exact nS5 j s e
      · have := g5.lt; omega
    · by_cases hb : i5 + 1 ≤ B
      · rw [if_pos hb]; rw [if_neg (by omega)] at so; exact so
      · rw [if_neg hb]; rw [if_pos (by omega)] at so; exact so
  have hgt : ¬ i5 ≤ B := by have := of_decide_eq_false hc; omega
  rw [if_neg hgt] at q5 s5
  have hnl : (kept ids 10).length = nl := by have := s5.len; simp [idl] at this; omega
  refine K_sexit (bx_same ?_)
  refine K_reg (Wops_run rfl rfl (K_fin [(5, _), (7, _), (10, _), (12, _)] rfl (?_)))
  refine K_ss (K_reg (Wops_run rfl rfl (K_fin [(5, _), (7, _), (10, _), (12, _), (13, _)] rfl (?_))))
  refine K_sblock ?_
  refine K_loop (fun k e h' => ∃ i : Nat, e = [(5, ptr p), (7, ptr po), (10, .slice al nl cl), (12, .int .i64 (kept ids i).length), (13, .int .u64 i)] ∧ h5 = h' ∧ i ≤ 10 ∧ k = 10 - i) ?_ (k := 10) ⟨0, rfl, rfl, by omega, rfl⟩
  clear hc
  rintro k e h6 ⟨i6, rfl, rfl, hi6, rfl⟩
  refine K_ss (K_reg (Wops_run rfl rfl ?_))
  by_cases hc : (i6 : Int) < 10
  · refine Wops_as (w := .bool true) rfl rfl (by rw [decide_eq_true hc]) (K_fin [(5, _), (7, _), (10, _), (12, _), (13, _), (68, _)] rfl (?_))
    refine K_scond rfl (fun _ => ?_) (fun hc => by cases hc)
    have hlt : i6 < 10 := by omega
    have hk6 := kept_len ids i6
    refine K_sskip (K_sblock ?_)
    refine K_ss (K_reg (Wops_run rfl rfl (Wops_iaA rfl rfl hlt (Wops_ld rfl g5 (v := .bool (decide ((i6 : Int) ∈ ids))) (by rw [Nat.zero_add, Nat.mul_one]; exact offL_at ids i6 hlt) (K_fin [(5, _), (7, _), (10, _), (12, _), (13, _), (73, _)] rfl (?_))))))
    refine K_scond rfl (fun hd => ?_) (fun hd => ?_)
    · have hin := of_decide_eq_true hd
      refine K_sexit (bx_same ?_)
      refine K_last (Wops_run rfl rfl (Wops_as (w := .int .u64 ((i6 + 1 : Nat) : Int)) rfl rfl (by rw [wrapu (by omega)]; rfl) (Wops_run rfl rfl (K_finL [(5, _), (7, _), (10, _), (12, _), (13, _)] rfl (?_)))))
      exact ⟨10 - (i6 + 1), by omega, i6 + 1, by rw [kept_succ, if_pos hin, List.append_nil], rfl, by omega, rfl⟩
    · have hin := of_decide_eq_false hd
      obtain ⟨k1, k2⟩ := kept_at hlt hin
      refine K_sskip (K_ss (K_reg (Wops_run rfl rfl (Wops_run rfl rfl (Wops_run rfl rfl (Wops_as (w := .bool false) rfl rfl (by rw [decide_eq_false]; omega) (Wops_run rfl rfl (Wops_go rfl (Wops_run rfl rfl (Wops_go rfl (Wops_run rfl rfl (Wops_go rfl ?_))))))))))))
      refine Wops_idxG (u := .int .u64 i6) rfl rfl s5 ⟨by omega, by omega⟩ (by rw [Int.toNat_natCast]; simp [us, idl, k2]) (fun _ => rfl) fun _ => ?_
      refine Wops_go rfl (Wops_run rfl rfl (Wops_go rfl (Wops_neq (v := false) rfl rfl (by simp) (Wops_run rfl rfl (K_fin [(5, _), (7, _), (10, _), (12, _), (13, _), (85, _)] rfl (?_))))))
      refine K_scond rfl (fun hc => by cases hc) (fun _ => ?_)
      refine K_sskip (K_last (Wops_run rfl rfl (Wops_as (w := .int .i64 (((kept ids i6).length + 1 : Nat) : Int)) rfl rfl (by rw [w64s (by omega)]) (Wops_run rfl rfl (K_finL [(5, _), (7, _), (10, _), (12, _), (13, _)] rfl (?_))))))
      refine K_last (Wops_run rfl rfl (Wops_as (w := .int .u64 ((i6 + 1 : Nat) : Int)) rfl rfl (by rw [wrapu (by omega)]; rfl) (Wops_run rfl rfl (K_finL [(5, _), (7, _), (10, _), (12, _), (13, _)] rfl (?_)))))
      exact ⟨10 - (i6 + 1), by omega, i6 + 1, by rw [kept_succ, if_neg hin, List.length_append]; rfl, rfl, by omega, rfl⟩
  have hi10 : i6 = 10 := by omega
  subst hi10
  refine Wops_as (w := .bool false) rfl rfl (by rw [decide_eq_false hc]) (K_fin [(5, _), (7, _), (10, _), (12, _), (13, _), (68, _)] rfl (?_))
  refine K_scond rfl (fun hc => by cases hc) (fun _ => ?_)
  refine K_sexit (bx_same ?_)
  refine K_reg (Wops_run rfl rfl (Wops_run rfl rfl (Wops_run rfl rfl (Wops_eq (v := true) rfl rfl (by simp; omega) (Wops_run rfl rfl (Wops_go rfl (Wops_run rfl rfl (Wops_go rfl (Wops_call rfl (C34 q5 (by simp) (by omega)) ?_)))))))))
  rintro _ h7 ⟨ao7, no7, co7, S7, rfl, so, _, _, _⟩
  have hno7 : no7 = 0 := by have := so.len; simp [lateL] at this; omega
  subst hno7
  refine Wops_go rfl (Wops_run rfl rfl (Wops_go rfl (Wops_run rfl rfl (Wops_run rfl rfl (Wops_run rfl rfl (K_fin [(4, _)] rfl (?_)))))))
  exact K_ret (Told.mk _ rfl rfl)
set_option maxRecDepth 100000 in
theorem clockDrops_fn {L : List (List Value)} {vs : List Value} (hG : FlatG Try.prog 0 [30, 5] vs L) : Fn Try.prog 13 vs (flatH L) fun v _ => v = .bool true := by
  obtain ⟨a, m, c, l, r, k2, L2, L3, rfl, s, hl, _, _, hF⟩ := flat_slice (P := Try.prog) (k := 0) (t := 30) (ts := [5]) (L0 := []) (L := L) (L' := L) Try.underlying30 rfl rfl hG
  obtain ⟨v, r, rfl, hv, hF2⟩ := flat_scal (P := Try.prog) (k := k2) (t := 5) (ts := []) (L' := L3) (by rw [Try.underlying5]; simp) hF
  obtain ⟨n, rfl, hn⟩ := scal_int Try.underlying5 hv
  obtain rfl := flat_nil hF2
  obtain ⟨xs, rfl, hw⟩ := scal_ints Try.underlying5 hl
  exact C13 s (fun x hx => wf_u8 (hw x hx)) (wf_u8 hn)
end Go.Dx.SYtfhdeagbgdnkaaa
