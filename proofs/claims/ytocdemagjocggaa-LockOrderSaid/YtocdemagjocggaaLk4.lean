/- LockLeaves: the walk. -/
import Derived.Test.YtocdemagjocggaaLk3
namespace Go.Dx.SYtocdemagjocggaa
open Go.Proofs
set_option linter.unusedVariables false
set_option linter.unusedSimpArgs false

set_option maxRecDepth 100000 in
theorem begun22_run : isTrue (fnR T 300 22 [] Heap.empty) = true := by kernel_rfl
theorem C22 {h : Heap} : Fn Try.prog 22 [] h fun v h' => v = .bool true ∧ h = h' :=
  Fn.anywhere (R := fun v => v = .bool true) rfl (fn_of_true T.ok begun22_run) fun v h' q => ⟨by rw [q]; rfl, q⟩

def rngI (i : Nat) : List Int := (List.range i).map fun (k : Nat) => (k : Int)
theorem rngI_succ (i : Nat) : rngI (i + 1) = rngI i ++ [(i : Int)] := by simp [rngI, List.range_succ]
theorem rngI_length (i : Nat) : (rngI i).length = i := by simp [rngI]
theorem rngI_not (i : Nat) : ¬ (i : Int) ∈ rngI i := by
  intro h
  simp [rngI] at h
  obtain ⟨a, h1, h2⟩ := h; omega
theorem askR_rng {i : Nat} (hi : i ≤ 3) : askR (rngI i) i = ((rngI i).isEmpty, 0, rngI (i + 1)) := by
  unfold askR
  rw [if_neg (rngI_not i), if_neg (by rw [rngI_length]; omega), rngI_succ]

abbrev u8s (xs : List Int) : List Value := xs.map (Value.int .u8)
theorem tmod6 {x : Int} (h : 0 ≤ x ∧ x ≤ 255) : IntKind.wrap .u64 (x.tmod 6) = x.tmod 6 := by
  have h1 := Int.tmod_nonneg 6 h.1
  have h2 := Int.tmod_lt_of_pos x (show (0 : Int) < 6 by omega)
  exact wu64 (by omega)

theorem fst'_cases (ys : List Int) : fst' ys = (0, false) ∧ ys = [] ∨ ∃ y r, ys = y :: r ∧ fst' ys = (y, true) := by
  cases ys with
  | nil => exact .inl ⟨rfl, rfl⟩
  | cons y r => exact .inr ⟨y, r, rfl, rfl⟩

theorem C8 {h : Heap} {a0 : Option Addr} {n0 c0 : Nat} {ls : List Int} (s0 : InS h a0 n0 c0 (u8s ls)) (hw : ∀ x ∈ ls, 0 ≤ x ∧ x ≤ 255) : Fn Try.prog 8 [.slice a0 n0 c0] h fun v _ => v = .bool true := by
  have hn : ls.length = n0 := by simpa using s0.sl.len
  refine fnK F8.fok rfl ?_
  refine K_reg (Wops_run rfl rfl (K_fin [(0, _)] rfl (?_)))
  refine K_ss (K_reg (Wops_call rfl C22 ?_))
  rintro _ _ ⟨rfl, rfl⟩
  refine Wops_run rfl rfl (K_fin [(0, _), (19, _)] rfl (?_))
  refine K_scond rfl (fun hc => by cases hc) (fun _ => ?_)
  refine K_sskip (K_ss (K_reg (Wops_run rfl rfl (Wops_run rfl rfl (Wops_run rfl rfl (K_fin [(0, _), (22, _)] rfl (?_)))))))
  refine K_scond rfl (fun hc => ?_) (fun hc => ?_)
  · refine K_ss (K_reg (Wops_run rfl rfl (K_fin [(2, _)] rfl (?_))))
    exact K_sret (Told.mk _ rfl rfl)
  have h8 : n0 ≤ 8 := by have := of_decide_eq_false hc; omega
  refine K_sskip (K_reg (Wops_call rfl C23 ?_))
  rintro _ h1 ⟨pa, rfl, qa, xa, la⟩
  refine Wops_call rfl C23 ?_
  rintro _ h2 ⟨pb, rfl, qb, xb, lb⟩
  refine Wops_run rfl rfl (Wops_run rfl rfl (K_fin [(0, _), (3, _), (4, _)] rfl (?_)))
  refine K_reg (Wops_run rfl rfl (K_fin [(0, _), (3, _), (4, _), (5, _)] rfl (?_)))
  refine K_ss (K_reg (Wops_run rfl rfl (K_fin [(0, _), (3, _), (4, _), (5, _), (6, _)] rfl (?_))))
  refine K_sblock ?_
  have hpa : pa < h1.next := qa.lt rfl
  refine K_loop (fun k e h' => ∃ (i : Nat) (Sa Sb : Nat → Prop), e = [(0, .slice a0 n0 c0), (3, ptr pa), (4, ptr pb), (5, .slice none 0 0), (6, .int .i64 i)] ∧ i ≤ 4 ∧ k = 4 - i ∧ InS h' a0 n0 c0 (u8s ls) ∧ Qu h' pa (rngI i) Sa ∧ Qu h' pb (rngI i) Sb ∧ Dis Sa Sb ∧ (∀ i, Blk a0 i → ¬ Sa i) ∧ (∀ i, Blk a0 i → ¬ Sb i)) ?_ (k := 4)
    ⟨0, (· = pa), (· = pb), rfl, by omega, rfl, (s0.ext0 xa).ext0 xb, qa.ext xb fun _ _ r => r, qb, fun i r t => by omega, fun i r t => by have := s0.lt i r; omega, fun i r t => by have := s0.lt i r; have := xa.next; omega⟩
  · rintro k e h' ⟨i, Sa, Sb, rfl, hi, rfl, s, qa, qb, dab, d0a, d0b⟩
    refine K_ss (K_reg (Wops_run rfl rfl (Wops_run rfl rfl (K_fin [(0, _), (3, _), (4, _), (5, _), (6, _), (26, _)] rfl (?_)))))
    refine K_scond rfl (fun hc => ?_) (fun hc => ?_)
    · have hlt : i < 4 := by have := of_decide_eq_true hc; omega
      refine K_sskip (K_sblock ?_)
      refine K_reg (Wops_run rfl rfl (Wops_run rfl rfl (Wops_as (w := .int .u64 i) rfl rfl (by rw [wu64 (by omega)]) (Wops_call rfl (C24 qa (by rw [rngI_length]; omega)) ?_))))
      rw [askR_rng (by omega)]
      rintro _ h1 ⟨rfl, Sa', qa', ta⟩
      refine K_fin [(0, _), (3, _), (4, _), (5, _), (6, _)] rfl (?_)
      have qb1 := qb.ext ta.ext dab.symm
      refine K_last (Wops_run rfl rfl (Wops_run rfl rfl (Wops_as (w := .int .u64 i) rfl rfl (by rw [wu64 (by omega)]) (Wops_call rfl (C24 qb1 (by rw [rngI_length]; omega)) ?_))))
      rw [askR_rng (by omega)]
      rintro _ h2 ⟨rfl, Sb', qb', tb⟩
      have s1 : InS h1 a0 n0 c0 (u8s ls) := ⟨s.sl.ext ta.ext d0a, fun i q => Nat.lt_of_lt_of_le (s.lt i q) ta.ext.next⟩
      have s2 : InS h2 a0 n0 c0 (u8s ls) := ⟨s1.sl.ext tb.ext d0b, fun i q => Nat.lt_of_lt_of_le (s1.lt i q) tb.ext.next⟩
      have dab1 : Dis Sa' Sb := (dab.symm.turn (fun i r => qb.lt r) ta).symm
      refine K_finL [(0, _), (3, _), (4, _), (5, _), (6, _)] rfl (?_)
      refine K_last (Wops_run rfl rfl (Wops_run rfl rfl (Wops_run rfl rfl (K_finL [(0, _), (3, _), (4, _), (5, _), (6, _)] rfl (?_)))))
      exact ⟨4 - (i + 1), by omega, i + 1, Sa', Sb', by rw [w64s (by omega)], by omega, rfl, s2, qa'.ext tb.ext dab1, qb', dab1.turn (fun i r => qa'.lt r) tb, Dis.turn d0a s.lt ta, Dis.turn d0b s1.lt tb⟩
    · have hi4 : i = 4 := by have := of_decide_eq_false hc; omega
      subst hi4
      refine K_sexit (bx_same ?_)
      refine K_reg (Wops_run rfl rfl (K_fin [(0, _), (3, _), (4, _), (5, _), (7, _)] rfl (?_)))
      refine K_ss (K_reg (Wops_run rfl rfl (K_fin [(0, _), (3, _), (4, _), (5, _), (7, _), (8, _)] rfl (?_))))
      refine K_sblock ?_
      have hms : ∀ i (hi : i < ls.length), IntKind.wrap .u64 (ls[i].tmod 6) = ls[i].tmod 6 := fun i hi => tmod6 (hw _ (List.getElem_mem hi))
      refine K_loop (fun k e h' => ∃ (i : Nat) (Sb : Nat → Prop) (a5 : Option Addr) (c5 : Nat), e = [(0, .slice a0 n0 c0), (3, ptr pa), (4, ptr pb), (5, .slice a5 i c5), (7, .int .u64 0), (8, .int .i64 i)] ∧ i ≤ n0 ∧ k = n0 - i ∧ InS h' a0 n0 c0 (u8s ls) ∧ Qu h' pa (rngI 4) Sa ∧ Qu h' pb (leaveL (rngI 4) ((ls.take i).map (·.tmod 6))) Sb ∧ OwS h' 1 a5 i c5 (us ((ls.take i).map (·.tmod 6))) ∧
        Dis Sa Sb ∧ Dis (Blk a5) Sa ∧ Dis (Blk a5) Sb ∧ (∀ i, Blk a0 i → ¬ Sa i) ∧ (∀ i, Blk a0 i → ¬ Sb i) ∧ Dis (Blk a0) (Blk a5)) ?_ (k := n0)
        ⟨0, Sb, none, 0, rfl, by omega, rfl, s, qa, qb, OwS.none, dab, fun i r => absurd r Blk.none, fun i r => absurd r Blk.none, d0a, d0b, fun i _ r => absurd r Blk.none⟩
      rintro k e h' ⟨i, Sb, a5, c5, rfl, hi, rfl, s, qa, qb, o5, dab, d5a, d5b, d0a, d0b, d05⟩
      refine K_ss (K_reg (Wops_run rfl rfl (Wops_run rfl rfl (Wops_run rfl rfl (Wops_run rfl rfl (K_fin [(0, _), (3, _), (4, _), (5, _), (7, _), (8, _), (40, _)] rfl (?_)))))))
      have hle := leaveL_le ((ls.take i).map (·.tmod 6)) (rngI 4)
      rw [rngI_length] at hle
      refine K_scond rfl (fun hc => ?_) (fun hc => ?_)
      · have hlt : i < n0 := by have := of_decide_eq_true hc; omega
        have htk : (ls.take (i + 1)).map (·.tmod 6) = (ls.take i).map (·.tmod 6) ++ [ls[i].tmod 6] := by
          simp only [List.take_add_one, List.getElem?_eq_getElem (show i < ls.length by omega), Option.toList_some, List.map_append, List.map_cons, List.map_nil]
        refine K_sskip (K_sblock ?_)
        refine K_reg (Wops_run rfl rfl (Wops_run rfl rfl (Wops_run rfl rfl (Wops_idx (u := .int .u8 ls[i]) rfl rfl s.sl ⟨by omega, by omega⟩ (by simp [hn, hlt]) fun p => ?_))))
        refine Wops_run rfl rfl (Wops_as (w := .int .u64 (ls[i].tmod 6)) rfl rfl (by rw [hms i (by omega)]) (Wops_bslice (l := [.int .u64 (ls[i].tmod 6)]) rfl rfl fun h1 n1 x1 g1 => ?_))
        refine Wops_app rfl rfl (o5.ext x1) rfl (SlA.mk' (n := 1) (c := 1) g1 (by simp) (.inr (.inr rfl))).first ⟨by omega, by omega⟩ rfl rfl (by decide) fun h2 a2 c2 x2 o2 b2 => ?_
        refine Wops_run rfl rfl (K_fin [(0, _), (3, _), (4, _), (5, _), (7, _), (8, _)] rfl (?_))
        have t2 : Turn h' h2 (Blk a5) (Blk a2) := ⟨x1.of0.then x2 fun i r => .inl r, fun i r => (b2 i r).imp id fun r => by have := x1.next; omega⟩
        have s2 : InS h2 a0 n0 c0 (u8s ls) := ⟨s.sl.ext t2.ext d05, fun i q => Nat.lt_of_lt_of_le (s.lt i q) t2.ext.next⟩
        have qa2 := qa.ext t2.ext d5a.symm
        have qb2 := qb.ext t2.ext d5b.symm
        have d5a2 : Dis (Blk a2) Sa := (d5a.symm.turn (fun i r => qa.lt r) t2).symm
        have d5b2 : Dis (Blk a2) Sb := (d5b.symm.turn (fun i r => qb.lt r) t2).symm
        have d052 : Dis (Blk a0) (Blk a2) := d05.turn s.lt t2
        refine K_last (Wops_run rfl rfl (Wops_run rfl rfl (Wops_run rfl rfl (Wops_idx (u := .int .u8 ls[i]) rfl rfl s2.sl ⟨by omega, by omega⟩ (by simp [hn, hlt]) fun p => ?_))))
        refine Wops_run rfl rfl (Wops_as (w := .int .u64 (ls[i].tmod 6)) rfl rfl (by rw [hms i (by omega)]) (Wops_bslice (l := [.int .u64 (ls[i].tmod 6)]) rfl rfl fun h3 n3 x3 g3 => ?_))
        have qb3 := qb2.ext x3 fun _ _ r => r
        refine Wops_call rfl (C25 qb3 (ids := [ls[i].tmod 6]) (SlA.mk' (n := 1) (c := 1) g3 (by simp) (.inr (.inr rfl))) (fun i r t => by rw [Blk.at] at r; have := qb2.lt t; omega) (by omega) (by omega)) ?_
        rintro _ h4 ⟨rfl, Sb', qb4, t4⟩
        refine K_finL [(0, _), (3, _), (4, _), (5, _), (7, _), (8, _)] rfl (?_)
        have s3 := s2.ext0 x3
        have o3 := o2.ext x3
        have qa3 := qa2.ext x3 fun _ _ r => r
        refine K_last (Wops_run rfl rfl (Wops_run rfl rfl (Wops_run rfl rfl (K_finL [(0, _), (3, _), (4, _), (5, _), (7, _), (8, _)] rfl (?_)))))
        refine ⟨n0 - (i + 1), by omega, i + 1, Sb', a2, c2, by rw [w64s (by omega)], by omega, rfl, ⟨s3.sl.ext t4.ext d0b, fun i q => Nat.lt_of_lt_of_le (s3.lt i q) t4.ext.next⟩, qa3.ext t4.ext dab, ?_, ?_, dab.turn (fun i r => qa3.lt r) t4, d5a2, d5b2.turn (fun i r => o3.lt r) t4, d0a, Dis.turn d0b s3.lt t4, d052⟩
        · rw [htk, leaveL_append]; exact qb4
        · rw [htk]
          have := o3.ext t4.ext d5b2
          simpa [us] using this
      · have hin : i = n0 := by have := of_decide_eq_false hc; omega
        have htk : ls.take i = ls := List.take_of_length_le (by omega)
        rw [htk] at qb o5 hle
        refine K_sexit (bx_same ?_)
        refine K_reg (Wops_run rfl rfl (Wops_run rfl rfl (Wops_call rfl (C25 qa o5.sl d5a (by rw [rngI_length]; omega) (by omega)) ?_)))
        rintro _ h1 ⟨rfl, Sa', qa1, t1⟩
        have qb1 := qb.ext t1.ext dab.symm
        generalize leaveL (rngI 4) (ls.map (·.tmod 6)) = ys at *
        have hf : fst' (rngI 4) = (0, true) := rfl
        refine Wops_run rfl rfl (Wops_run rfl rfl (Wops_run rfl rfl (Wops_run rfl rfl (Wops_run rfl rfl (K_fin [(3, _), (4, _), (7, _), (9, _), (10, _)] rfl (?_))))))
        refine K_reg (Wops_run rfl rfl (Wops_call rfl (C26 qa1) ?_))
        rintro _ _ ⟨rfl, rfl⟩
        refine Wops_run rfl rfl (Wops_run rfl rfl (Wops_run rfl rfl (Wops_run rfl rfl (Wops_run rfl rfl (K_fin [(3, _), (4, _), (7, _), (9, _), (10, _), (11, _), (12, _)] rfl (?_))))))
        refine K_reg (Wops_run rfl rfl (Wops_call rfl (C26 qb1) ?_))
        rintro _ _ ⟨rfl, rfl⟩
        refine Wops_run rfl rfl (Wops_run rfl rfl (Wops_run rfl rfl (Wops_run rfl rfl (Wops_run rfl rfl (K_fin [(3, _), (4, _), (7, _), (9, _), (10, _), (11, _), (12, _), (13, _), (14, _)] rfl (?_))))))
        refine K_reg (Wops_run rfl rfl (Wops_call rfl (C27 qa1 (by omega)) ?_))
        rintro _ h2 ⟨aw, cw, rfl, ow, xw, lw⟩
        refine Wops_run rfl rfl (Wops_call rfl (C27 (qb1.ext xw fun _ _ r => r) (by omega)) ?_)
        rintro _ h3 ⟨av, cv, rfl, ov, xv, lv⟩
        have ow3 := ow.ext xv
        refine Wops_run rfl rfl (Wops_run rfl rfl (K_fin [(7, _), (9, _), (10, _), (11, _), (12, _), (13, _), (14, _), (15, _), (16, _)] rfl (?_)))
        have tail : ∀ (Qf : Value → Heap → Prop), (∀ h', Qf (.bool true) h') → W Try.prog (.seq .skip (.seq (.seq (.region [⟨some 17, none, .mov (.c (.int .i64 0))⟩] [15, 16, 17])
   (.block 4 (.loop (.seq (.seq (.region [⟨some 114, none, .mov (.t 17)⟩,
    ⟨some 115, none, .mov (.t 15)⟩,
    ⟨some 116, none, .lenV (.t 115)⟩,
    ⟨some 117, none, .bin .lss (.t 114) (.t 116)⟩] [15, 16, 17, 117])
   (.cond (.t 117) (.skip) (.exit 4)))
   (.seq (.block 5 (.seq (.region [⟨some 120, none, .mov (.t 15)⟩,
    ⟨some 121, none, .mov (.t 17)⟩,
    ⟨some 122, none, .iaV 1 (.t 120) (.t 121)⟩,
    ⟨some 123, none, .ld 1 false (.t 122)⟩,
    ⟨some 124, none, .mov (.t 16)⟩,
    ⟨some 125, none, .mov (.t 17)⟩,
    ⟨some 126, none, .iaV 1 (.t 124) (.t 125)⟩,
    ⟨some 127, none, .ld 1 false (.t 126)⟩,
    ⟨some 128, none, .bin .neq (.t 123) (.t 127)⟩] [15, 16, 17, 128])
   (.cond (.t 128) (.seq (.region [⟨some 2, none, .mov (.c (.bool false))⟩] [2])
   (.ret)) (.skip))))
   (.region [⟨some 118, none, .mov (.t 17)⟩,
    ⟨some 119, none, .bin .add (.t 118) (.c (.int .i64 1))⟩,
    ⟨some 17, none, .mov (.t 119)⟩] [15, 16, 17]))))))
   (.seq (.region [⟨some 2, none, .mov (.c (.bool true))⟩] [2])
   (.ret)))) [(15, .slice aw (ys.length - 1) cw), (16, .slice av (ys.length - 1) cv), (113, .bool false)] h3 (K3 (Told F8.res Qf) (fun _ _ _ => False) (Told F8.res Qf)) := by
          intro Qf hQ
          refine K_sskip (K_ss (K_reg (Wops_run rfl rfl (K_fin [(15, _), (16, _), (17, _)] rfl (?_)))))
          refine K_sblock ?_
          have hl : ys.tail.length = ys.length - 1 := by simp
          refine K_loop (fun k e h' => ∃ i : Nat, e = [(15, .slice aw (ys.length - 1) cw), (16, .slice av (ys.length - 1) cv), (17, .int .i64 i)] ∧ h3 = h' ∧ i ≤ ys.length - 1 ∧ k = ys.length - 1 - i) ?_ (k := ys.length - 1) ⟨0, rfl, rfl, by omega, rfl⟩
          rintro k e h' ⟨i, rfl, rfl, hi, rfl⟩
          refine K_ss (K_reg (Wops_run rfl rfl (Wops_run rfl rfl (Wops_run rfl rfl (Wops_run rfl rfl (K_fin [(15, _), (16, _), (17, _), (117, _)] rfl (?_)))))))
          refine K_scond rfl (fun hc => ?_) (fun hc => ?_)
          · have hlt : i < ys.length - 1 := by have := of_decide_eq_true hc; omega
            refine K_sskip (K_sblock ?_)
            refine K_reg (Wops_run rfl rfl (Wops_run rfl rfl (Wops_idx (u := .int .u64 (ys.tail[i]'(by omega))) rfl rfl ow3.sl ⟨by omega, by omega⟩ (by simp [us, hlt]) fun p => ?_)))
            refine Wops_run rfl rfl (Wops_run rfl rfl (Wops_idx (u := .int .u64 (ys.tail[i]'(by omega))) rfl rfl ov.sl ⟨by omega, by omega⟩ (by simp [us, hlt]) fun p => ?_))
            refine Wops_neq (v := false) rfl rfl (by simp) (K_fin [(15, _), (16, _), (17, _), (128, _)] rfl (?_))
            refine K_cond rfl (fun hc => by cases hc) (fun _ => ?_)
            refine K_skip (K_last (Wops_run rfl rfl (Wops_run rfl rfl (Wops_run rfl rfl (K_finL [(15, _), (16, _), (17, _)] rfl (?_))))))
            exact ⟨ys.length - 1 - (i + 1), by omega, i + 1, by rw [w64s (by omega)], rfl, by omega, rfl⟩
          · refine K_sexit (bx_same ?_)
            refine K_reg (Wops_run rfl rfl (K_fin [(2, _)] rfl (?_)))
            exact K_ret (Told.mk _ rfl (hQ _))
        refine K_ss (K_reg ?_)
        rcases fst'_cases ys with ⟨hy, rfl⟩ | ⟨y, r, rfl, hy⟩
        · have hL : leaveR (rngI 4) [] = (0, false) := rfl
          rw [hL, hy]
          refine Wops_run rfl rfl (Wops_run rfl rfl (Wops_run rfl rfl (Wops_run rfl rfl ?_)))
          refine Wops_go rfl (Wops_run rfl rfl (Wops_go rfl (Wops_run rfl rfl (Wops_go rfl (Wops_neq (v := false) rfl rfl (by simp) ?_)))))
          refine Wops_run rfl rfl (Wops_run rfl rfl ?_)
          refine Wops_go rfl (Wops_run rfl rfl (Wops_go rfl (Wops_run rfl rfl (Wops_go rfl (Wops_run rfl rfl (Wops_go rfl (Wops_run rfl rfl (Wops_go rfl (Wops_neq (v := false) rfl rfl (by simp) ?_)))))))))
          refine Wops_run rfl rfl (Wops_run rfl rfl ?_)
          refine Wops_go rfl (Wops_run rfl rfl (Wops_go rfl (Wops_run rfl rfl (Wops_go rfl (Wops_run rfl rfl ?_)))))
          refine Wops_skip rfl (Wops_skip rfl (Wops_skip rfl ?_))
          refine Wops_go rfl (Wops_run rfl rfl (Wops_go rfl (Wops_run rfl rfl (Wops_run rfl rfl (Wops_run rfl rfl ?_)))))
          refine Wops_go rfl (Wops_run rfl rfl (Wops_go rfl (Wops_run rfl rfl ?_)))
          refine Wops_skip rfl (Wops_skip rfl (Wops_skip rfl ?_))
          refine Wops_go rfl (Wops_run rfl rfl (Wops_run rfl rfl (K_fin [(15, _), (16, _), (113, _)] rfl ?_)))
          exact K_scond rfl (fun hc => by cases hc) (fun _ => tail _ (fun h' => rfl))
        · by_cases h0 : y = 0
          · subst h0
            have hL : leaveR (rngI 4) (0 :: r) = (0, false) := rfl
            rw [hL, hy]
            refine Wops_run rfl rfl (Wops_run rfl rfl (Wops_run rfl rfl (Wops_run rfl rfl ?_)))
            refine Wops_go rfl (Wops_run rfl rfl (Wops_go rfl (Wops_run rfl rfl (Wops_go rfl (Wops_neq (v := false) rfl rfl (by simp) ?_)))))
            refine Wops_run rfl rfl (Wops_run rfl rfl ?_)
            refine Wops_go rfl (Wops_run rfl rfl (Wops_go rfl (Wops_run rfl rfl (Wops_go rfl (Wops_run rfl rfl (Wops_go rfl (Wops_run rfl rfl (Wops_go rfl (Wops_neq (v := false) rfl rfl (by simp) ?_)))))))))
            refine Wops_run rfl rfl (Wops_run rfl rfl ?_)
            refine Wops_go rfl (Wops_run rfl rfl (Wops_go rfl (Wops_run rfl rfl (Wops_go rfl (Wops_run rfl rfl ?_)))))
            refine Wops_go rfl (Wops_run rfl rfl (Wops_go rfl (Wops_run rfl rfl (Wops_go rfl (Wops_neq (v := false) rfl rfl (by simp) ?_)))))
            refine Wops_go rfl (Wops_run rfl rfl (Wops_go rfl (Wops_run rfl rfl (Wops_run rfl rfl (Wops_run rfl rfl ?_)))))
            refine Wops_go rfl (Wops_run rfl rfl (Wops_go rfl (Wops_run rfl rfl ?_)))
            refine Wops_skip rfl (Wops_skip rfl (Wops_skip rfl ?_))
            refine Wops_go rfl (Wops_run rfl rfl (Wops_run rfl rfl (K_fin [(15, _), (16, _), (113, _)] rfl ?_)))
            exact K_scond rfl (fun hc => by cases hc) (fun _ => tail _ (fun h' => rfl))
          · have hL : leaveR (rngI 4) (y :: r) = (y, true) := by
              unfold leaveR; rw [hf, hy, if_neg (by simp; omega)]
            rw [hL, hy]
            refine Wops_run rfl rfl (Wops_run rfl rfl (Wops_run rfl rfl (Wops_run rfl rfl ?_)))
            refine Wops_go rfl (Wops_run rfl rfl (Wops_go rfl (Wops_run rfl rfl (Wops_go rfl (Wops_neq (v := false) rfl rfl (by simp) ?_)))))
            refine Wops_run rfl rfl (Wops_run rfl rfl ?_)
            refine Wops_go rfl (Wops_run rfl rfl (Wops_go rfl (Wops_run rfl rfl (Wops_go rfl (Wops_run rfl rfl (Wops_go rfl (Wops_run rfl rfl (Wops_go rfl (Wops_neq (v := false) rfl rfl (by simp) ?_)))))))))
            refine Wops_run rfl rfl (Wops_run rfl rfl ?_)
            refine Wops_go rfl (Wops_run rfl rfl (Wops_go rfl (Wops_run rfl rfl (Wops_go rfl (Wops_run rfl rfl ?_)))))
            refine Wops_go rfl (Wops_run rfl rfl (Wops_go rfl (Wops_run rfl rfl (Wops_go rfl (Wops_neq (v := true) rfl rfl (by simp [h0]) ?_)))))
            refine Wops_go rfl (Wops_run rfl rfl (Wops_go rfl (Wops_run rfl rfl (Wops_run rfl rfl (Wops_run rfl rfl ?_)))))
            refine Wops_go rfl (Wops_run rfl rfl (Wops_go rfl (Wops_run rfl rfl ?_)))
            refine Wops_go rfl (Wops_run rfl rfl (Wops_go rfl (Wops_run rfl rfl (Wops_go rfl (Wops_neq (v := false) rfl rfl (by simp) ?_)))))
            refine Wops_go rfl (Wops_run rfl rfl (Wops_run rfl rfl (K_fin [(15, _), (16, _), (113, _)] rfl ?_)))
            exact K_scond rfl (fun hc => by cases hc) (fun _ => tail _ (fun h' => rfl))
end Go.Dx.SYtocdemagjocggaa
