/- Contracts of ctrl: walk, Blocks, Depth. -/
import Derived.Test.YtfhdeagbgdnkaaaCt2
namespace Go.Dx.SYtfhdeagbgdnkaaa
open Go.Proofs
set_option linter.unusedVariables false
set_option linter.unusedSimpArgs false

/-- What a walker has behind so many instructions. -/
def pst (ops : List Int) : Nat → Option Wst
  | 0 => some ([], [], 0)
  | i + 1 => match pst ops i with
    | none => none
    | some s => if (oneP ops i s).1 = true then some (oneP ops i s).2 else none
def walkP (ops : List Int) : Option (Bl × Nat × Bool) := match pst ops ops.length with
  | none => none
  | some s => if ops.length = 0 ∨ s.1 ≠ [] ∨ ops.getD (ops.length - 1) 0 ≠ 11 then none else some (s.2.1, s.2.2, decide (ops.count 11 = s.2.1.length + 1))

theorem putM_length {k : Nat} {v : Int × Int} : ∀ {es : Bl}, (putM k v es).length ≤ es.length + 1
  | [] => by simp [putM]
  | (k', v') :: r => by
    unfold putM
    split
    · simp
    · have := @putM_length k v r; simp; omega
theorem oneP_es {ops : List Int} {i : Nat} {s : Wst} : (oneP ops i s).2.2.1.length ≤ s.2.1.length + 1 := by
  unfold oneP
  split
  · exact putM_length
  · split
    · unfold halfP
      split
      · simp
      · split
        · simp
        · exact putM_length
    · split
      · unfold closeP
        split
        · simp
        · exact putM_length
      · simp
theorem oneP_st {ops : List Int} {i : Nat} {s : Wst} (h1 : ∀ k ∈ s.1, k < i) (h2 : s.1.length ≤ i) : (∀ k ∈ (oneP ops i s).2.1, k < i + 1) ∧ (oneP ops i s).2.1.length ≤ i + 1 := by
  have a1 : ∀ k ∈ s.1, k < i + 1 := fun k hk => Nat.lt_succ_of_lt (h1 k hk)
  have a2 : s.1.length ≤ i + 1 := by omega
  unfold oneP
  split
  · refine ⟨fun k hk => ?_, by simp; omega⟩
    rcases List.mem_append.1 hk with hk | hk
    · exact a1 k hk
    · simp at hk; omega
  · split
    · exact ⟨a1, a2⟩
    · split
      · unfold closeP
        split
        · exact ⟨a1, a2⟩
        · exact ⟨fun k hk => a1 k (List.dropLast_subset _ hk), by simp; omega⟩
      · exact ⟨a1, a2⟩
theorem pst_st {ops : List Int} : ∀ {i : Nat} {s : Wst}, pst ops i = some s → (∀ k ∈ s.1, k < i) ∧ s.1.length ≤ i ∧ s.2.1.length ≤ i
  | 0, s, h => by cases h; exact ⟨fun k hk => (by cases hk), Nat.le_refl _, Nat.le_refl _⟩
  | i + 1, s, h => by
    unfold pst at h
    split at h
    · cases h
    · rename_i s0 h0
      split at h
      · cases h
        obtain ⟨a, b, c⟩ := pst_st h0
        have d := @oneP_es ops i s0
        exact ⟨(oneP_st a b).1, (oneP_st a b).2, by omega⟩
      · cases h
theorem pst_none {ops : List Int} {i : Nat} (h : pst ops i = none) : ∀ j, i ≤ j → pst ops j = none := by
  intro j hj
  induction j with
  | zero => obtain rfl : i = 0 := by omega
            exact h
  | succ j ih =>
    by_cases hij : i = j + 1
    · subst hij; exact h
    · unfold pst; rw [ih (by omega)]

theorem take_count {ops : List Int} {i : Nat} (hi : i < ops.length) : (ops.take (i + 1)).count 11 = (ops.take i).count 11 + if ops.getD i 0 = 11 then 1 else 0 := by
  rw [List.take_add_one, List.getElem?_eq_getElem hi, Option.toList_some, List.count_append, List.getD_eq_getElem?_getD, List.getElem?_eq_getElem hi]
  by_cases h : ops[i] = 11
  · simp [h]
  · simp [h]

set_option maxHeartbeats 2000000 in
/-- walk -/
theorem C46 {h : Heap} {la : Option Addr} {ln lc : Nat} {l : List Value} {ops : List Int} (I : Ins h la ln lc l ops) :
    Fn Try.prog 46 [.slice la ln lc] h fun v h' => Ext0 h h' ∧
      ((walkP ops = none ∧ v = .tuple ⟨[.pointer none, .bool false]⟩) ∨
       ∃ es dep b w m S, walkP ops = some (es, dep, b) ∧ v = .tuple ⟨[ptr w, .bool b]⟩ ∧ Wk h' w m la ln lc [] es dep S) := by
  have hln := I.len
  have hbig := I.big
  refine fnK F46.fok rfl ?_
  refine K_reg (Wops_run rfl rfl (Wops_run rfl rfl (K_fin [(0, _)] rfl (?_))))
  refine K_reg (Wops_run rfl rfl (Wops_mkMap fun h1 n1 x1 g1 => Wops_run rfl rfl (Wops_box (cs := [.slice none 0 0, .slice la ln lc, .map (some h.next), .int .i64 0]) rfl rfl fun h2 n2 x2 g2 => Wops_run rfl rfl (K_fin [(0, _), (4, _)] rfl (?_)))))
  have X2 : Ext0 h h2 := x1.trans x2
  have q0 : Wk h2 h1.next h.next la ln lc [] [] 0 (fun i => i = h1.next ∨ i = h.next) := ⟨none, 0, g2, OwS.none, g1.ext x2, Blk.none, Blk.none, by omega, fun i => ⟨fun r => r.imp id .inl, fun r => r.imp id fun r => r.elim id fun r => absurd r Blk.none⟩⟩
  have hw1 : h.next ≤ h1.next := by omega
  generalize h1.next = w at *
  refine K_ss (K_reg (Wops_run rfl rfl (Wops_run rfl rfl (Wops_run rfl rfl (K_fin [(0, _), (4, _), (14, _), (15, _)] rfl (?_))))))
  refine K_jblock (fun e h' => e = [(0, .slice la ln lc), (4, ptr w), (14, .int .i64 ln), (15, .int .i64 ln), (16, .bool false)] ∧ ∃ st es dep S, pst ops ops.length = some (st, es, dep) ∧ Wk h' w h.next la ln lc st es dep S ∧ Ext0 h h') ?_ ?_
  · refine K_loop (fun k e h' => ∃ (i : Nat) (st : List Nat) (es : Bl) (dep : Nat) (S : Nat → Prop), e = [(0, .slice la ln lc), (4, ptr w), (14, .int .i64 ln), (15, .int .i64 i)] ∧ i ≤ ln ∧ k = ln - i ∧ pst ops i = some (st, es, dep) ∧ Wk h' w h.next la ln lc st es dep S ∧ (∀ j, S j → h.next ≤ j) ∧ Ext0 h h') ?_ (k := ln)
      ⟨0, [], [], 0, _, rfl, by omega, rfl, rfl, q0, fun j r => by rcases r with rfl | rfl <;> omega, X2⟩
    rintro k e h' ⟨i, st, es, dep, S, rfl, hi, rfl, hp, q, nS, x'⟩
    obtain ⟨p1, p2, _⟩ := pst_st hp
    have p1' : ∀ k ∈ st, k < i := p1
    have p2' : st.length ≤ i := p2
    refine K_reg (Wops_run rfl rfl (K_fin [(0, _), (4, _), (14, _), (15, _), (16, _)] rfl (?_)))
    refine K_scond rfl (fun hc => ?_) (fun hc => ?_)
    · have hlt : i < ln := by have := of_decide_eq_true hc; omega
      refine K_sskip (K_sblock ?_)
      refine K_reg (Wops_run rfl rfl (Wops_run rfl rfl (K_fin [(0, _), (4, _), (5, _), (14, _), (15, _)] rfl (?_))))
      refine K_reg (Wops_run rfl rfl (Wops_run rfl rfl (Wops_call rfl (C57 q (I.ext x') (fun j r e => by have := I.lt j r; have := nS j e; omega) (by omega) (fun k hk => by have := p1' k hk; omega) (by omega)) ?_)))
      rintro _ h3 ⟨rfl, S3, q3, t3⟩
      have hpn : pst ops (i + 1) = if (oneP ops i (st, es, dep)).1 = true then some (oneP ops i (st, es, dep)).2 else none := by
        conv => lhs; unfold pst
        rw [hp]
      cases hb : (oneP ops i (st, es, dep)).1 with
      | false =>
        rw [hb, if_neg (by simp)] at hpn
        refine Wops_run rfl rfl (K_fin [(0, _), (4, _), (14, _), (15, _), (21, _)] rfl (?_))
        refine K_cond rfl (fun _ => ?_) (fun hc => by cases hc)
        refine K_reg (Wops_run rfl rfl (Wops_run rfl rfl (K_fin [(2, _), (3, _)] rfl (?_))))
        refine K_ret (Told.mk _ rfl ⟨t3.ext0 x' nS, .inl ⟨?_, rfl⟩⟩)
        unfold walkP; rw [pst_none hpn _ (by omega)]
      | true =>
        rw [hb, if_pos rfl] at hpn
        refine Wops_run rfl rfl (K_fin [(0, _), (4, _), (14, _), (15, _), (21, _)] rfl (?_))
        refine K_cond rfl (fun hc => by cases hc) (fun _ => ?_)
        refine K_skip ?_
        refine K_last (Wops_run rfl rfl (Wops_run rfl rfl (K_finL [(0, _), (4, _), (14, _), (15, _)] rfl (?_))))
        exact ⟨ln - (i + 1), by omega, i + 1, _, _, _, S3, by rw [w64s (by omega)], by omega, rfl, hpn, q3, t3.new x' nS, t3.ext0 x' nS⟩
    · have hin : i = ln := by have := of_decide_eq_false hc; omega
      subst hin
      refine K_sexit (bx_same ⟨?_, st, es, dep, S, by rw [hln]; exact hp, q, x'⟩)
      have : decide ((i : Int) < (i : Int)) = false := by simp
      show [_, _, _, _, (16, Value.bool (decide ((i : Int) < (i : Int))))] = _
      rw [this]
  rintro e h3 ⟨rfl, st, es, dep, S, hp, q, x3⟩
  have I3 := I.ext x3
  obtain ⟨sa, sc, g, o, gm, d1, d2, d3, hS⟩ := id q
  have hW : walkP ops = if ops.length = 0 ∨ st ≠ [] ∨ ops.getD (ops.length - 1) 0 ≠ 11 then none else some (es, dep, decide (ops.count 11 = es.length + 1)) := by unfold walkP; rw [hp]
  by_cases h0 : ln = 0
  · refine K_ss (K_reg (Wops_run rfl rfl (Wops_run rfl rfl (Wops_eq (v := true) rfl rfl (by rw [h0]; rfl) (Wops_run rfl rfl ?_)))))
    repeat (first | refine Wops_skip rfl ?_ | refine Wops_run rfl rfl ?_)
    refine K_fin [(0, _), (4, _), (43, .bool true)] rfl (?_)
    refine K_scond rfl (fun _ => ?_) (fun hc => by cases hc)
    refine K_ss (K_reg (Wops_run rfl rfl (Wops_run rfl rfl (K_fin [(2, _), (3, _)] rfl (?_)))))
    exact K_sret (Told.mk _ rfl ⟨x3, .inl ⟨by rw [hW, if_pos (.inl (by omega))], rfl⟩⟩)
  refine K_ss (K_reg (Wops_run rfl rfl (Wops_run rfl rfl (Wops_eq (v := false) rfl rfl (by simpa using h0) (Wops_run rfl rfl (Wops_go rfl (Wops_run rfl rfl (Wops_go rfl (Wops_run rfl rfl (Wops_go rfl (Wops_run rfl rfl (Wops_go rfl (Wops_ld rfl g (by rfl) (Wops_go rfl (Wops_run rfl rfl (Wops_go rfl ?_))))))))))))))))
  by_cases hst : st = []
  rotate_left
  · have hl : 0 < st.length := by cases st with | nil => exact absurd rfl hst | cons a b => simp
    refine Wops_as (w := .bool true) rfl rfl (by rw [decide_eq_true (by omega)]) (Wops_run rfl rfl (Wops_run rfl rfl ?_))
    repeat (first | refine Wops_skip rfl ?_ | refine Wops_run rfl rfl ?_)
    refine K_fin [(0, _), (4, _), (43, .bool true)] rfl (?_)
    refine K_scond rfl (fun _ => ?_) (fun hc => by cases hc)
    refine K_ss (K_reg (Wops_run rfl rfl (Wops_run rfl rfl (K_fin [(2, _), (3, _)] rfl (?_)))))
    exact K_sret (Told.mk _ rfl ⟨x3, .inl ⟨by rw [hW, if_pos (.inr (.inl hst))], rfl⟩⟩)
  subst hst
  refine Wops_as (w := .bool false) rfl rfl rfl (Wops_run rfl rfl (Wops_run rfl rfl ?_))
  refine Wops_go rfl (Wops_run rfl rfl (Wops_go rfl (Wops_run rfl rfl (Wops_go rfl (Wops_run rfl rfl (Wops_go rfl (Wops_as (w := .int .i64 ((ln - 1 : Nat) : Int)) rfl rfl (by rw [w64 (by omega)]; congr 1; omega) (Wops_go rfl ?_))))))))
  refine Wops_iaS rfl rfl I3.sl ⟨by omega, by omega⟩ fun id' off vs ez ro _ v1 v2 v3 => ?_
  refine Wops_go rfl (Wops_run rfl rfl (Wops_go rfl (Wops_ld rfl v1 (I3.at (k := ln - 1) (by omega) v3) (Wops_go rfl ?_))))
  by_cases h11 : ops.getD (ln - 1) 0 = 11
  rotate_left
  · refine Wops_neq (v := true) rfl rfl (by simpa using h11) (Wops_run rfl rfl (K_fin [(0, _), (4, _), (43, .bool true)] rfl (?_)))
    refine K_scond rfl (fun _ => ?_) (fun hc => by cases hc)
    refine K_ss (K_reg (Wops_run rfl rfl (Wops_run rfl rfl (K_fin [(2, _), (3, _)] rfl (?_)))))
    exact K_sret (Told.mk _ rfl ⟨x3, .inl ⟨by rw [hW, if_pos (.inr (.inr (by rw [hln]; exact h11)))], rfl⟩⟩)
  have hW2 : walkP ops = some (es, dep, decide (ops.count 11 = es.length + 1)) := by rw [hW, if_neg (by rw [hln]; simp [h0, h11]; exact h11)]
  refine Wops_neq (v := false) rfl rfl (by rw [h11]; rfl) (Wops_run rfl rfl (K_fin [(0, _), (4, _), (43, .bool false)] rfl (?_)))
  refine K_scond rfl (fun hc => by cases hc) (fun _ => ?_)
  refine K_sskip (K_reg (Wops_run rfl rfl (K_fin [(0, _), (4, _), (6, _)] rfl (?_))))
  refine K_ss (K_reg (Wops_run rfl rfl (Wops_run rfl rfl (Wops_run rfl rfl (K_fin [(4, _), (6, _), (44, _), (45, _), (46, _)] rfl (?_))))))
  refine K_sblock ?_
  refine K_loop (fun k e h' => ∃ i : Nat, e = [(4, ptr w), (6, .int .i64 ((ops.take i).count 11 : Nat)), (44, .slice la ln lc), (45, .int .i64 ln), (46, .int .i64 i)] ∧ i ≤ ln ∧ k = ln - i ∧ Ext0 h3 h') ?_ (k := ln) ⟨0, rfl, by omega, rfl, Ext.refl _ _⟩
  rintro k e h' ⟨i, rfl, hi, rfl, x'⟩
  have I' := I3.ext x'
  have hcnt : (ops.take i).count 11 ≤ i := Nat.le_trans (List.count_le_length) (by simp; omega)
  refine K_reg (Wops_run rfl rfl (K_fin [(4, _), (6, _), (44, _), (45, _), (46, _), (47, _)] rfl (?_)))
  refine K_scond rfl (fun hc => ?_) (fun hc => ?_)
  · have hlt : i < ln := by have := of_decide_eq_true hc; omega
    have htc := take_count (ops := ops) (i := i) (by omega)
    refine K_sskip (K_sblock ?_)
    refine K_reg (Wops_iaS rfl rfl I'.sl ⟨by omega, by omega⟩ fun id'' off vs ez ro _ v1 v2 v3 => ?_)
    have hwin : ∀ j, j < 6 → ((vs.drop (off + (i : Int).toNat * 6)).take 6)[j]? = l[i * 6 + j]? := fun j hj => by
      rw [List.getElem?_take_of_lt hj, List.getElem?_drop, Int.toNat_natCast, Nat.add_assoc, v3 _ (by omega)]
    refine Wops_ldA (l := (vs.drop (off + (i : Int).toNat * 6)).take 6) rfl v1 (by rw [Int.toNat_natCast]; omega) rfl ?_
    have hlen6 : ((vs.drop (off + (i : Int).toNat * 6)).take 6).length = 6 := by rw [Int.toNat_natCast]; simp; omega
    have hcell : ((vs.drop (off + (i : Int).toNat * 6)).take 6).all isCell = true := by
      rw [List.all_eq_true]
      intro x hx
      obtain ⟨j, hj, rfl⟩ := List.getElem_of_mem hx
      have h1 := hwin j (by omega)
      rw [List.getElem?_eq_getElem hj] at h1
      exact List.all_eq_true.1 I'.cell _ (List.mem_of_getElem? h1.symm)
    have h0op : ((vs.drop (off + (i : Int).toNat * 6)).take 6)[0]? = some (.int .i64 (ops.getD i 0)) := by
      rw [hwin 0 (by omega), I'.op i (by omega), List.getD_eq_getElem?_getD, List.getElem?_eq_getElem (show i < ops.length by omega)]; rfl
    generalize (vs.drop (off + (i : Int).toNat * 6)).take 6 = row at hlen6 hcell h0op
    refine Wops_new fun h4 n4 x4 g4 => Wops_st (l := row) rfl rfl rfl hlen6 g4 (by simp) hcell fun h5 n5 x5 g5 => ?_
    refine K_fin [(4, _), (6, _), (8, _), (44, _), (45, _), (46, _)] rfl (?_)
    have X5 : Ext0 h' h5 := x4.then x5 fun j r => .inr (by omega)
    refine K_reg (Wops_run rfl rfl (Wops_ld (v := .int .i64 (ops.getD i 0)) rfl g5 (by rw [putL_get _ _ _ _ (by simp [hlen6]), if_pos ⟨by omega, by rw [hlen6]; omega⟩]; exact h0op) ?_))
    by_cases ho : ops.getD i 0 = 11
    · rw [if_pos ho] at htc
      refine Wops_eq (v := true) rfl rfl (by rw [ho]; rfl) (K_fin [(4, _), (6, _), (44, _), (45, _), (46, _), (52, _)] rfl (?_))
      refine K_cond rfl (fun _ => ?_) (fun hc => by cases hc)
      refine K_last (Wops_run rfl rfl (Wops_run rfl rfl (Wops_run rfl rfl (K_finL [(4, _), (6, _), (44, _), (45, _), (46, _)] rfl (?_)))))
      refine K_last (Wops_run rfl rfl (Wops_run rfl rfl (K_finL [(4, _), (6, _), (44, _), (45, _), (46, _)] rfl (?_))))
      exact ⟨ln - (i + 1), by omega, i + 1, by rw [w64s (by omega), w64s (by omega), htc], by omega, rfl, x'.trans X5⟩
    · rw [if_neg ho] at htc
      refine Wops_eq (v := false) rfl rfl (by simpa using ho) (K_fin [(4, _), (6, _), (44, _), (45, _), (46, _), (52, _)] rfl (?_))
      refine K_cond rfl (fun hc => by cases hc) (fun _ => ?_)
      refine K_skip ?_
      refine K_last (Wops_run rfl rfl (Wops_run rfl rfl (K_finL [(4, _), (6, _), (44, _), (45, _), (46, _)] rfl (?_))))
      exact ⟨ln - (i + 1), by omega, i + 1, by rw [w64s (by omega), htc]; rfl, by omega, rfl, x'.trans X5⟩
  · have hin : i = ln := by have := of_decide_eq_false hc; omega
    subst hin
    have hall : ops.take i = ops := List.take_of_length_le (by omega)
    rw [hall] at hcnt ⊢
    refine K_sexit (bx_same ?_)
    have q' : Wk h' w h.next la i lc [] es dep S := ⟨sa, sc, x'.some0 g, o.ext x', gm.ext x', d1, d2, d3, hS⟩
    have hes : es.length ≤ 1000000 := by have h1 : es.length ≤ ops.length := (pst_st hp).2.2; omega
    refine K_reg (Wops_run rfl rfl (Wops_run rfl rfl (Wops_run rfl rfl (Wops_run rfl rfl (Wops_run rfl rfl (Wops_ld rfl (x'.some0 g) (by rfl) ?_))))))
    refine Wops_lenM rfl (gm.ext x') (Wops_as (w := .int .i64 ((es.length + 1 : Nat) : Int)) rfl rfl (by rw [w64s (by omega)]) ?_)
    refine Wops_eq (v := decide (ops.count 11 = es.length + 1)) rfl rfl ?_ (Wops_run rfl rfl (Wops_run rfl rfl (K_fin [(2, _), (3, _)] rfl (?_))))
    · by_cases he : ops.count 11 = es.length + 1
      · rw [decide_eq_true he, he]; simp
      · rw [decide_eq_false he]; simp; omega
    exact K_ret (Told.mk _ rfl ⟨x3.trans x', .inr ⟨es, dep, _, w, h.next, S, hW2, rfl, q'⟩⟩)

/-- Blocks -/
theorem C23 {h : Heap} {la : Option Addr} {ln lc : Nat} {l : List Value} {ops : List Int} (I : Ins h la ln lc l ops) :
    Fn Try.prog 23 [.slice la ln lc] h fun v h' => Ext0 h h' ∧
      (((∀ es dep, walkP ops ≠ some (es, dep, true)) ∧ v = .tuple ⟨[.map none, .bool false]⟩) ∨
       ∃ es dep m, walkP ops = some (es, dep, true) ∧ v = .tuple ⟨[.map (some m), .bool true]⟩ ∧ At h' m (.map (mapC es))) := by
  refine fnK F23.fok rfl ?_
  refine K_reg (Wops_run rfl rfl (Wops_run rfl rfl (K_fin [(0, _)] rfl (?_))))
  refine K_reg (Wops_run rfl rfl (Wops_call rfl (C46 I) ?_))
  rintro _ h1 ⟨x1, hv⟩
  rcases hv with ⟨e, rfl⟩ | ⟨es, dep, b, w, m, S, e, rfl, q⟩
  · refine Wops_run rfl rfl (Wops_run rfl rfl (Wops_run rfl rfl (Wops_run rfl rfl (Wops_run rfl rfl (K_fin [(4, _), (5, _)] rfl (?_))))))
    refine K_ss (K_reg (Wops_run rfl rfl (Wops_run rfl rfl (K_fin [(4, _), (12, _)] rfl (?_)))))
    refine K_scond rfl (fun _ => ?_) (fun hc => by cases hc)
    refine K_ss (K_reg (Wops_run rfl rfl (Wops_run rfl rfl (K_fin [(2, _), (3, _)] rfl (?_)))))
    exact K_sret (Told.mk _ rfl ⟨x1, .inl ⟨fun es dep => by rw [e]; simp, rfl⟩⟩)
  · obtain ⟨sa, sc, g, o, gm, d1, d2, d3, hS⟩ := id q
    refine Wops_run rfl rfl (Wops_run rfl rfl (Wops_run rfl rfl (Wops_run rfl rfl (Wops_run rfl rfl (K_fin [(4, _), (5, _)] rfl (?_))))))
    cases b with
    | false =>
      refine K_ss (K_reg (Wops_run rfl rfl (Wops_run rfl rfl (K_fin [(4, _), (12, _)] rfl (?_)))))
      refine K_scond rfl (fun _ => ?_) (fun hc => by cases hc)
      refine K_ss (K_reg (Wops_run rfl rfl (Wops_run rfl rfl (K_fin [(2, _), (3, _)] rfl (?_)))))
      exact K_sret (Told.mk _ rfl ⟨x1, .inl ⟨fun es dep => by rw [e]; simp, rfl⟩⟩)
    | true =>
      refine K_ss (K_reg (Wops_run rfl rfl (Wops_run rfl rfl (K_fin [(4, _), (12, _)] rfl (?_)))))
      refine K_scond rfl (fun hc => by cases hc) (fun _ => ?_)
      refine K_sskip (K_reg (Wops_run rfl rfl (Wops_run rfl rfl (Wops_run rfl rfl (Wops_ld rfl g (by rfl) ?_)))))
      refine Wops_run rfl rfl (Wops_run rfl rfl (K_fin [(2, _), (3, _)] rfl (?_)))
      exact K_ret (Told.mk _ rfl ⟨x1, .inr ⟨es, dep, m, e, rfl, gm⟩⟩)

/-- Depth -/
theorem C26 {h : Heap} {la : Option Addr} {ln lc : Nat} {l : List Value} {ops : List Int} (I : Ins h la ln lc l ops) :
    Fn Try.prog 26 [.slice la ln lc] h fun v h' => Ext0 h h' ∧
      (((∀ es dep, walkP ops ≠ some (es, dep, true)) ∧ v = .int .i64 0) ∨ ∃ es dep, walkP ops = some (es, dep, true) ∧ v = .int .i64 (dep : Int)) := by
  refine fnK F26.fok rfl ?_
  refine K_reg (Wops_run rfl rfl (K_fin [(0, _)] rfl (?_)))
  refine K_reg (Wops_run rfl rfl (Wops_call rfl (C46 I) ?_))
  rintro _ h1 ⟨x1, hv⟩
  rcases hv with ⟨e, rfl⟩ | ⟨es, dep, b, w, m, S, e, rfl, q⟩
  · refine Wops_run rfl rfl (Wops_run rfl rfl (Wops_run rfl rfl (Wops_run rfl rfl (Wops_run rfl rfl (K_fin [(3, _), (4, _)] rfl (?_))))))
    refine K_ss (K_reg (Wops_run rfl rfl (Wops_run rfl rfl (K_fin [(3, _), (11, _)] rfl (?_)))))
    refine K_scond rfl (fun _ => ?_) (fun hc => by cases hc)
    refine K_ss (K_reg (Wops_run rfl rfl (K_fin [(2, _)] rfl (?_))))
    exact K_sret (Told.mk _ rfl ⟨x1, .inl ⟨fun es dep => by rw [e]; simp, rfl⟩⟩)
  · obtain ⟨sa, sc, g, o, gm, d1, d2, d3, hS⟩ := id q
    refine Wops_run rfl rfl (Wops_run rfl rfl (Wops_run rfl rfl (Wops_run rfl rfl (Wops_run rfl rfl (K_fin [(3, _), (4, _)] rfl (?_))))))
    cases b with
    | false =>
      refine K_ss (K_reg (Wops_run rfl rfl (Wops_run rfl rfl (K_fin [(3, _), (11, _)] rfl (?_)))))
      refine K_scond rfl (fun _ => ?_) (fun hc => by cases hc)
      refine K_ss (K_reg (Wops_run rfl rfl (K_fin [(2, _)] rfl (?_))))
      exact K_sret (Told.mk _ rfl ⟨x1, .inl ⟨fun es dep => by rw [e]; simp, rfl⟩⟩)
    | true =>
      refine K_ss (K_reg (Wops_run rfl rfl (Wops_run rfl rfl (K_fin [(3, _), (11, _)] rfl (?_)))))
      refine K_scond rfl (fun hc => by cases hc) (fun _ => ?_)
      refine K_sskip (K_reg (Wops_run rfl rfl (Wops_run rfl rfl (Wops_run rfl rfl (Wops_ld rfl g (by rfl) ?_)))))
      refine Wops_run rfl rfl (K_fin [(2, _)] rfl (?_))
      exact K_ret (Told.mk _ rfl ⟨x1, .inr ⟨es, dep, e, rfl⟩⟩)
end Go.Dx.SYtfhdeagbgdnkaaa
