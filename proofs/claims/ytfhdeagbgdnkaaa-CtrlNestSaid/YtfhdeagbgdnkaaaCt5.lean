/- Contracts of the document's blocks. -/
import Derived.Test.YtfhdeagbgdnkaaaCt4
namespace Go.Dx.SYtfhdeagbgdnkaaa
open Go.Proofs
set_option linter.unusedVariables false
set_option linter.unusedSimpArgs false

theorem rfS_succ {ops : List Int} {i : Nat} {st : List Nat} {es : Bl} (h : rfS ops i = .inl (st, es)) : rfS ops (i + 1) = refOne ops i st es := by
  conv => lhs; unfold rfS
  rw [h]
theorem rfS_fin {ops : List Int} {i : Nat} {r : Option Bl} (h : rfS ops i = .inr r) : ∀ j, i ≤ j → rfS ops j = .inr r := by
  intro j hj
  induction j with
  | zero => obtain rfl : i = 0 := by omega
            exact h
  | succ j ih =>
    by_cases hij : i = j + 1
    · subst hij; exact h
    · unfold rfS; rw [ih (by omega)]
theorem refB_fin {ops : List Int} {i : Nat} {r : Option Bl} (hi : i ≤ ops.length) (h : rfS ops i = .inr r) : refB ops = r := by
  unfold refB; rw [rfS_fin h _ hi]
theorem rfS_st {ops : List Int} : ∀ {i : Nat} {s : List Nat × Bl}, i ≤ ops.length → rfS ops i = .inl s → (∀ k ∈ s.1, k < i) ∧ s.1.length ≤ i := by
  intro i s hi h
  have := sim (ops := ops) i hi
  rw [h] at this
  obtain ⟨es, dep, hp, _, v⟩ := this
  exact ⟨(pst_st hp).1, (pst_st hp).2.1⟩

set_option maxHeartbeats 2000000 in
/-- the document's Blocks -/
theorem C24 {h : Heap} {la : Option Addr} {ln lc : Nat} {l : List Value} {ops : List Int} (I : Ins h la ln lc l ops) :
    Fn Try.prog 24 [.slice la ln lc] h fun v h' => Ext0 h h' ∧
      ((refB ops = none ∧ v = .tuple ⟨[.map none, .bool false]⟩) ∨ ∃ es m, refB ops = some es ∧ v = .tuple ⟨[.map (some m), .bool true]⟩ ∧ At h' m (.map (mapC es))) := by
  have hln := I.len
  have hbig := I.big
  refine fnK F24.fok rfl ?_
  refine K_reg (Wops_run rfl rfl (Wops_run rfl rfl (K_fin [(0, _)] rfl (?_))))
  refine K_reg (Wops_mkMap fun h1 n1 x1 g1 => Wops_run rfl rfl (K_fin [(0, _), (4, _)] rfl (?_)))
  refine K_reg (Wops_run rfl rfl (K_fin [(0, _), (4, _), (5, _)] rfl (?_)))
  refine K_ss (K_reg (Wops_run rfl rfl (K_fin [(0, _), (4, _), (5, _), (6, _)] rfl (?_))))
  refine K_sblock ?_
  refine K_loop (fun k e h' => ∃ (i : Nat) (st : List Nat) (es : Bl) (sa : Option Addr) (sc : Nat), e = [(0, .slice la ln lc), (4, .map (some h.next)), (5, .slice sa st.length sc), (6, .int .i64 i)] ∧ i ≤ ln ∧ k = ln - i ∧ rfS ops i = .inl (st, es) ∧ OwS h' 1 sa st.length sc (ns st) ∧ At h' h.next (.map (mapC es)) ∧ (∀ j, Blk sa j → h1.next ≤ j) ∧ Ext0 h h') ?_ (k := ln)
    ⟨0, [], [], none, 0, rfl, by omega, rfl, rfl, OwS.none, g1, fun j r => absurd r Blk.none, x1⟩
  rintro k e h' ⟨i, st, es, sa, sc, rfl, hi, rfl, hr, o, gm, bs, x'⟩
  obtain ⟨p1, p2⟩ := rfS_st (by omega) hr
  have p1' : ∀ k ∈ st, k < i := p1
  have p2' : st.length ≤ i := p2
  have hsucc := rfS_succ hr
  have I' := I.ext x'
  refine K_ss (K_reg (Wops_run rfl rfl (Wops_run rfl rfl (Wops_run rfl rfl (Wops_run rfl rfl (K_fin [(0, _), (4, _), (5, _), (6, _), (16, _)] rfl (?_)))))))
  refine K_scond rfl (fun hc => ?_) (fun hc => ?_)
  rotate_left
  · have hin : i = ln := by have := of_decide_eq_false hc; omega
    refine K_sexit (bx_same ?_)
    refine K_reg (Wops_run rfl rfl (Wops_run rfl rfl (K_fin [(2, _), (3, _)] rfl (?_))))
    refine K_ret (Told.mk _ rfl ⟨x', .inl ⟨?_, rfl⟩⟩)
    unfold refB; rw [show ops.length = i by omega, hr]
  have hlt : i < ln := by have := of_decide_eq_true hc; omega
  refine K_sskip ?_
  refine K_jblock (fun e h' => ∃ (st : List Nat) (es : Bl) (sa : Option Addr) (sc : Nat) (l : Env), e = [(0, .slice la ln lc), (4, .map (some h.next)), (5, .slice sa st.length sc), (6, .int .i64 i)] ++ l ∧ rfS ops (i + 1) = .inl (st, es) ∧ OwS h' 1 sa st.length sc (ns st) ∧ At h' h.next (.map (mapC es)) ∧ (∀ j, Blk sa j → h1.next ≤ j) ∧ Ext0 h h') ?_ ?_
  rotate_left
  · rintro e h2 ⟨st2, es2, sa2, sc2, l2, rfl, hr2, o2, gm2, bs2, x2⟩
    refine K_last (Wops_run rfl rfl (Wops_run rfl rfl (Wops_run rfl rfl (K_finL [(0, _), (4, _), (5, _), (6, _)] rfl (?_)))))
    exact ⟨ln - (i + 1), by omega, i + 1, st2, es2, sa2, sc2, by rw [w64s (by omega)], by omega, rfl, hr2, o2, gm2, bs2, x2⟩
  refine K_reg (Wops_run rfl rfl (Wops_run rfl rfl (Wops_iaS rfl rfl I'.sl ⟨by omega, by omega⟩ fun id off vs ez ro _ v1 v2 v3 => ?_)))
  refine Wops_run rfl rfl (Wops_ld rfl v1 (I'.at (by omega) v3) (Wops_run rfl rfl (K_fin [(0, _), (4, _), (5, _), (6, _), (7, _)] rfl (?_))))
  have hno : h1.next = h.next + 1 := n1
  have dsm : ∀ j, Blk sa j → j ≠ h.next := fun j r e => by have := bs j r; omega
  unfold refOne at hsucc
  generalize hop : ops.getD i 0 = op at *
  refine K_block ?_
  by_cases h234 : op = 2 ∨ op = 3 ∨ op = 4
  · rw [if_pos h234] at hsucc
    refine K_reg (Wops_run rfl rfl (Wops_as (w := .bool true) rfl rfl (by rw [decide_eq_true (by omega)]) (Wops_run rfl rfl (Wops_go rfl (Wops_run rfl rfl (Wops_go rfl (Wops_as (w := .bool true) rfl rfl (by rw [decide_eq_true (by omega)]) (Wops_run rfl rfl (Wops_run rfl rfl (K_fin [(0, _), (4, _), (5, _), (6, _), (7, _), (24, _)] rfl (?_)))))))))))
    refine K_cond rfl (fun _ => ?_) (fun hc => by cases hc)
    refine K_reg (Wops_run rfl rfl (Wops_run rfl rfl (Wops_bslice (l := ns [i]) rfl rfl fun h2 n2 x2 g2 => ?_)))
    refine Wops_app rfl rfl (o.ext x2) rfl (OwS.new (n := 1) (c := 1) g2 rfl).sl.first ⟨by omega, by omega⟩ rfl rfl (by decide) fun h3 a3 c3 x3 o3 b3 => ?_
    refine Wops_run rfl rfl (K_fin [(0, _), (4, _), (5, _), (6, _)] rfl (?_))
    have z' := x'.next
    have z2 := x2.next
    have b3' : ∀ j, Blk a3 j → h1.next ≤ j := fun j r => (b3 j r).elim (bs j) fun r => by have := gm.lt; omega
    have gm3 := (gm.ext x2).ext x3 (fun r => dsm _ r rfl)
    refine K_last (Wops_run rfl rfl (Wops_run rfl rfl (Wops_run rfl rfl (Wops_mput (b := (-1, -1)) rfl rfl rfl gm3 fun h4 n4 x4 g4 => ?_))))
    refine K_finL [(0, _), (4, _), (5, _), (6, _)] rfl (?_)
    have hl : (st ++ [i]).length = st.length + 1 := by simp
    refine ⟨st ++ [i], _, a3, c3, [], by rw [hl]; rfl, hsucc, ?_, g4, b3', ((x'.trans x2).then x3 fun j r => .inr (by have := bs j r; omega)).then x4 fun j r => .inr (by omega)⟩
    rw [hl, ns, List.map_append]; exact o3.ext x4 fun j r e => by have := b3' j r; omega
  rw [if_neg h234] at hsucc
  refine K_join (fun e h2 => e = [(0, .slice la ln lc), (4, .map (some h.next)), (5, .slice sa st.length sc), (6, .int .i64 (i : Int)), (7, .int .i64 op), (24, .bool false)] ∧ h' = h2) ?_ ?_
  · by_cases hge : op ≥ 2
    · refine K_last (Wops_run rfl rfl (Wops_as (w := .bool true) rfl rfl (by rw [decide_eq_true (by omega)]) (Wops_run rfl rfl (Wops_go rfl (Wops_run rfl rfl (Wops_go rfl (Wops_as (w := .bool false) rfl rfl (by rw [decide_eq_false (by omega)]) (Wops_run rfl rfl (Wops_run rfl rfl (K_finL [(0, _), (4, _), (5, _), (6, _), (7, _), (24, _)] rfl (?_)))))))))))
      exact ⟨rfl, rfl⟩
    · refine K_last (Wops_run rfl rfl (Wops_as (w := .bool false) rfl rfl (by rw [decide_eq_false (by omega)]) (Wops_run rfl rfl (Wops_skip rfl (Wops_skip rfl (Wops_run rfl rfl (Wops_run rfl rfl (K_finL [(0, _), (4, _), (5, _), (6, _), (7, _), (24, _)] rfl (?_)))))))))
      exact ⟨rfl, rfl⟩
  rintro e _ ⟨rfl, rfl⟩
  refine K_cond rfl (fun hc => by cases hc) (fun _ => ?_)
  by_cases h5 : op = 5
  · rw [if_pos h5] at hsucc
    refine K_reg (Wops_run rfl rfl (Wops_eq (v := true) rfl rfl (by rw [h5]; rfl) (Wops_run rfl rfl (K_fin [(0, _), (4, _), (5, _), (6, _), (7, _), (38, _)] rfl (?_)))))
    refine K_cond rfl (fun _ => ?_) (fun hc => by cases hc)
    rcases List.eq_nil_or_concat st with rfl | ⟨s0, k, rfl⟩
    · refine K_ss (K_reg (Wops_run rfl rfl (Wops_run rfl rfl (Wops_eq (v := true) rfl rfl rfl (K_fin [(0, _), (4, _), (5, _), (6, _), (43, _)] rfl (?_))))))
      refine K_scond rfl (fun _ => ?_) (fun hc => by cases hc)
      refine K_ss (K_reg (Wops_run rfl rfl (Wops_run rfl rfl (K_fin [(2, _), (3, _)] rfl (?_)))))
      exact K_sret (Told.mk _ rfl ⟨x', .inl ⟨refB_fin (by omega) hsucc, rfl⟩⟩)
    rw [List.concat_eq_append] at *
    have hlast : (s0 ++ [k]).getLast? = some k := by simp
    have hl : (s0 ++ [k]).length = s0.length + 1 := by simp
    have hk : k < ops.length := by have := p1' k (by simp); omega
    rw [hlast] at hsucc
    simp only at hsucc
    rw [hl] at o ⊢
    refine K_ss (K_reg (Wops_run rfl rfl (Wops_run rfl rfl (Wops_eq (v := false) rfl rfl (by simp; omega) (K_fin [(0, _), (4, _), (5, _), (6, _), (43, _)] rfl (?_))))))
    refine K_scond rfl (fun hc => by cases hc) (fun _ => ?_)
    refine K_sskip (K_reg (Wops_run rfl rfl (Wops_run rfl rfl (Wops_run rfl rfl (Wops_as (w := .int .i64 (s0.length : Int)) rfl rfl (by rw [w64 (by simp at p2'; omega)]; congr 1; omega) ?_)))))
    refine Wops_idx (u := .int .i64 (k : Int)) rfl rfl o.sl ⟨by omega, by omega⟩ (by simp [ns]) fun _ => ?_
    refine Wops_run rfl rfl (K_fin [(0, _), (4, _), (5, _), (6, _), (8, _)] rfl (?_))
    generalize hb : (getM k es).getD (0, 0) = b at hsucc
    refine K_reg (Wops_run rfl rfl (Wops_run rfl rfl (Wops_look rfl rfl gm ?_)))
    rw [hb]
    refine Wops_new fun h2 n2 x2 g2 => Wops_st (l := [.int .i64 b.1, .int .i64 b.2]) rfl rfl rfl rfl g2 (by simp) rfl fun h3 n3 x3 g3 => ?_
    have X3 : Ext0 h' h3 := x2.then x3 fun j r => .inr (by omega)
    refine K_fin [(0, _), (4, _), (5, _), (6, _), (8, _), (9, _)] rfl (?_)
    have I3 := I'.ext X3
    refine K_ss (K_reg (Wops_run rfl rfl (Wops_run rfl rfl (Wops_iaS rfl rfl I3.sl ⟨by omega, by omega⟩ fun id off vs ez ro _ v1 v2 v3 => ?_))))
    refine Wops_run rfl rfl (Wops_ld rfl v1 (I3.at hk v3) ?_)
    by_cases h4 : ops.getD k 0 = 4
    rotate_left
    · refine Wops_neq (v := true) rfl rfl (by simpa using h4) (Wops_run rfl rfl (Wops_skip rfl (Wops_skip rfl (Wops_skip rfl (Wops_run rfl rfl (K_fin [(0, _), (4, _), (5, _), (6, _), (8, _), (9, _), (63, _)] rfl (?_)))))))
      refine K_scond rfl (fun _ => ?_) (fun hc => by cases hc)
      refine K_ss (K_reg (Wops_run rfl rfl (Wops_run rfl rfl (K_fin [(2, _), (3, _)] rfl (?_)))))
      rw [if_pos (.inl h4)] at hsucc
      exact K_sret (Told.mk _ rfl ⟨x'.trans X3, .inl ⟨refB_fin (by omega) hsucc, rfl⟩⟩)
    refine Wops_neq (v := false) rfl rfl (by rw [h4]; rfl) (Wops_run rfl rfl (Wops_go rfl (Wops_run rfl rfl (Wops_go rfl (Wops_ld (v := .int .i64 b.1) rfl g3 (by rfl) (Wops_go rfl ?_))))))
    by_cases hbe : b.1 ≥ 0
    · refine Wops_as (w := .bool true) rfl rfl (by rw [decide_eq_true hbe]) (Wops_run rfl rfl (K_fin [(0, _), (4, _), (5, _), (6, _), (8, _), (9, _), (63, _)] rfl (?_)))
      refine K_scond rfl (fun _ => ?_) (fun hc => by cases hc)
      refine K_ss (K_reg (Wops_run rfl rfl (Wops_run rfl rfl (K_fin [(2, _), (3, _)] rfl (?_)))))
      rw [if_pos (.inr hbe)] at hsucc
      exact K_sret (Told.mk _ rfl ⟨x'.trans X3, .inl ⟨refB_fin (by omega) hsucc, rfl⟩⟩)
    rw [if_neg (fun q => q.elim (fun q => q h4) hbe)] at hsucc
    refine Wops_as (w := .bool false) rfl rfl (by rw [decide_eq_false hbe]) (Wops_run rfl rfl (K_fin [(0, _), (4, _), (5, _), (6, _), (8, _), (9, _), (63, _)] rfl (?_)))
    refine K_scond rfl (fun hc => by cases hc) (fun _ => ?_)
    refine K_sskip (K_reg (Wops_run rfl rfl (Wops_run rfl rfl (Wops_st (l := [.int .i64 (i : Int)]) rfl rfl rfl rfl g3 (by simp [putL_length]) rfl fun h4 n4 x4 g4 => ?_))))
    refine K_fin [(0, _), (4, _), (5, _), (6, _), (8, _), (9, _)] rfl (?_)
    refine K_last (Wops_run rfl rfl (Wops_run rfl rfl (Wops_ldA (l := [.int .i64 (i : Int), .int .i64 b.2]) rfl g4 (by simp [putL_length]) (by rfl) ?_)))
    have z' := x'.next
    have hgl := gm.lt
    refine Wops_mput (b := ((i : Int), b.2)) rfl rfl rfl ((gm.ext X3).ext x4 (by omega)) fun h5 n5 x5 g5 => ?_
    refine K_finL [(0, _), (4, _), (5, _), (6, _)] rfl (?_)
    refine ⟨s0 ++ [k], _, sa, sc, [], by rw [hl]; rfl, hsucc, ?_, g5, bs, ((x'.trans X3).then x4 fun j r => .inr (by omega)).then x5 fun j r => .inr (by omega)⟩
    rw [hl]
    exact ((o.ext X3).ext x4 (fun j r e => by have := o.lt r; omega)).ext x5 (fun j r e => dsm j r e)
  rw [if_neg h5] at hsucc
  refine K_reg (Wops_run rfl rfl (Wops_eq (v := false) rfl rfl (by simpa using h5) (Wops_run rfl rfl (K_fin [(0, _), (4, _), (5, _), (6, _), (7, _), (38, _)] rfl (?_)))))
  refine K_cond rfl (fun hc => by cases hc) (fun _ => ?_)
  by_cases h11 : op = 11
  · rw [if_pos h11] at hsucc
    refine K_reg (Wops_run rfl rfl (Wops_eq (v := true) rfl rfl (by rw [h11]; rfl) (Wops_run rfl rfl (K_fin [(0, _), (4, _), (5, _), (6, _), (69, _)] rfl (?_)))))
    refine K_cond rfl (fun _ => ?_) (fun hc => by cases hc)
    rcases List.eq_nil_or_concat st with rfl | ⟨s0, k, rfl⟩
    · refine K_ss (K_reg (Wops_run rfl rfl (Wops_run rfl rfl (Wops_eq (v := true) rfl rfl rfl (K_fin [(0, _), (4, _), (5, _), (6, _), (74, _)] rfl (?_))))))
      refine K_scond rfl (fun _ => ?_) (fun hc => by cases hc)
      refine K_ss (K_ss (K_reg (Wops_run rfl rfl (Wops_run rfl rfl (Wops_run rfl rfl (Wops_as (w := .int .i64 ((ln : Int) - 1)) rfl rfl (by rw [w64 (by omega)]) ?_))))))
      have hs2 : rfS ops (i + 1) = if i + 1 = ops.length then .inr (some es) else .inr none := hsucc
      by_cases hl : i + 1 = ops.length
      · rw [if_pos hl] at hs2
        refine Wops_neq (v := false) rfl rfl (by simp; omega) (K_fin [(4, _), (79, _)] rfl (?_))
        refine K_scond rfl (fun hc => by cases hc) (fun _ => ?_)
        refine K_sskip (K_ss (K_reg (Wops_run rfl rfl (Wops_run rfl rfl (Wops_run rfl rfl (K_fin [(2, _), (3, _)] rfl (?_)))))))
        exact K_sret (Told.mk _ rfl ⟨x', .inr ⟨es, h.next, refB_fin (by omega) hs2, rfl, gm⟩⟩)
      · rw [if_neg hl] at hs2
        refine Wops_neq (v := true) rfl rfl (by simp; omega) (K_fin [(4, _), (79, _)] rfl (?_))
        refine K_scond rfl (fun _ => ?_) (fun hc => by cases hc)
        refine K_ss (K_reg (Wops_run rfl rfl (Wops_run rfl rfl (K_fin [(2, _), (3, _)] rfl (?_)))))
        exact K_sret (Told.mk _ rfl ⟨x', .inl ⟨refB_fin (by omega) hs2, rfl⟩⟩)
    rw [List.concat_eq_append] at *
    have hlast : (s0 ++ [k]).getLast? = some k := by simp
    have hl : (s0 ++ [k]).length = s0.length + 1 := by simp
    rw [hlast] at hsucc
    simp only at hsucc
    rw [hl] at o ⊢
    refine K_ss (K_reg (Wops_run rfl rfl (Wops_run rfl rfl (Wops_eq (v := false) rfl rfl (by simp; omega) (K_fin [(0, _), (4, _), (5, _), (6, _), (74, _)] rfl (?_))))))
    refine K_scond rfl (fun hc => by cases hc) (fun _ => ?_)
    refine K_sskip (K_reg (Wops_run rfl rfl (Wops_run rfl rfl (Wops_run rfl rfl (Wops_as (w := .int .i64 (s0.length : Int)) rfl rfl (by rw [w64 (by simp at p2'; omega)]; congr 1; omega) ?_)))))
    refine Wops_idx (u := .int .i64 (k : Int)) rfl rfl o.sl ⟨by omega, by omega⟩ (by simp [ns]) fun _ => ?_
    refine Wops_run rfl rfl (K_fin [(0, _), (4, _), (5, _), (6, _), (10, _)] rfl (?_))
    generalize hb : (getM k es).getD (0, 0) = b at hsucc
    refine K_reg (Wops_run rfl rfl (Wops_run rfl rfl (Wops_look rfl rfl gm ?_)))
    rw [hb]
    refine Wops_new fun h2 n2 x2 g2 => Wops_st (l := [.int .i64 b.1, .int .i64 b.2]) rfl rfl rfl rfl g2 (by simp) rfl fun h3 n3 x3 g3 => ?_
    have X3 : Ext0 h' h3 := x2.then x3 fun j r => .inr (by omega)
    refine K_fin [(0, _), (4, _), (5, _), (6, _), (10, _), (11, _)] rfl (?_)
    refine K_reg (Wops_run rfl rfl (Wops_run rfl rfl (Wops_st (l := [.int .i64 (i : Int)]) rfl rfl rfl rfl g3 (by simp [putL_length]) rfl fun h4 n4 x4 g4 => ?_)))
    refine K_fin [(0, _), (4, _), (5, _), (6, _), (10, _), (11, _)] rfl (?_)
    refine K_reg (Wops_run rfl rfl (Wops_run rfl rfl (Wops_ldA (l := [.int .i64 b.1, .int .i64 (i : Int)]) rfl g4 (by simp [putL_length]) (by rfl) ?_)))
    have z' := x'.next
    have hgl := gm.lt
    refine Wops_mput (b := (b.1, (i : Int))) rfl rfl rfl ((gm.ext X3).ext x4 (by omega)) fun h5 n5 x5 g5 => ?_
    refine K_fin [(0, _), (4, _), (5, _), (6, _)] rfl (?_)
    have o5 := ((o.ext X3).ext x4 (fun j r e => by have := o.lt r; omega)).ext x5 (fun j r e => dsm j r e)
    refine K_last (Wops_run rfl rfl (Wops_run rfl rfl (Wops_run rfl rfl (Wops_as (w := .int .i64 (s0.length : Int)) rfl rfl (by rw [w64 (by simp at p2'; omega)]; congr 1; omega) ?_))))
    refine Wops_slV rfl rfl rfl o5.sl.ok (bounds_hi (i := s0.length) (by omega)) ?_
    refine Wops_run rfl rfl (K_finL [(0, _), (4, _), (5, _), (6, _)] rfl (?_))
    have hs := o5.sub (i := 0) (j := s0.length) (by omega) (by omega)
    have e2 : ((ns (s0 ++ [k])).drop (0 * 1)).take ((s0.length - 0) * 1) = ns s0 := by simp [ns]
    rw [e2] at hs
    rw [List.dropLast_concat] at hsucc
    exact ⟨s0, _, shift sa (0 * 1), sc, [], rfl, hsucc, hs, g5, fun j r => bs j (shift_blk.1 r), ((x'.trans X3).then x4 fun j r => .inr (by omega)).then x5 fun j r => .inr (by omega)⟩
  rw [if_neg h11] at hsucc
  refine K_reg (Wops_run rfl rfl (Wops_eq (v := false) rfl rfl (by simpa using h11) (Wops_run rfl rfl (K_fin [(0, _), (4, _), (5, _), (6, _), (69, _)] rfl (?_)))))
  refine K_cond rfl (fun hc => by cases hc) (fun _ => ?_)
  exact K_skip ⟨st, es, sa, sc, [(69, .bool false)], rfl, hsucc, o, gm, bs, x'⟩
end Go.Dx.SYtfhdeagbgdnkaaa
