/- CtrlNest: the walk, its argument. -/
import Derived.Test.YtfhdeagbgdnkaaaMy
namespace Go.Dx.SYtfhdeagbgdnkaaa
open Go.Proofs
set_option linter.unusedVariables false
set_option linter.unusedSimpArgs false

theorem cnt_step {W : List Int} {i : Nat} (hi : i < W.length) : cnt (W.take (i + 1)) = cnt (W.take i) + if opens (W.getD i 0) = true then 1 else 0 := by
  unfold cnt
  rw [List.take_add_one, List.getElem?_eq_getElem hi, Option.toList_some, List.countP_append, List.countP_singleton, List.getD_eq_getElem?_getD, List.getElem?_eq_getElem hi]
  rfl
theorem opens_bool (x : Int) : (decide (x ≥ 2) && decide (x ≤ 4)) = opens x := by
  unfold opens
  by_cases h1 : x ≥ 2 <;> by_cases h2 : x ≤ 4 <;> simp [h1, h2] <;> omega

set_option maxHeartbeats 4000000 in
/-- What lies in a block is within it. -/
theorem nest_in {h : Heap} {es : Bl} {m b9 i : Nat} {el en : Int} {ba : Option Addr} {bn bc : Nat} {v6 v7 : Value} {kn : Kn} {kx : Nat → Kn} {kr : Kn} (gm : At h m (.map (mapC es))) (g9 : At h b9 (.cells [.int .i64 el, .int .i64 en] 0 false)) (hin : (i : Int) < en) (hen : en < 1000000)
    (hn : ∀ (k : Nat) el' en', i < k → (k : Int) < en → getM k es = some (el', en') → en' < en)
    (hk : ∀ h' l, Ext0 h h' → kn ([(4, .slice ba bn bc), (5, .map (some m)), (6, v6), (7, v7), (8, .int .i64 (i : Int))] ++ l) h') :
    W Try.prog (match F9.code with | .seq _ (.seq _ (.seq _ (.seq _ (.seq _ (.seq _ (.seq _ (.seq (.seq _ (.block _ (.loop (.seq _ (.seq (.block _ (.seq _ (.seq _ (.seq _ (.seq _ (.seq _ (.seq _ b)))))) ) _))))) _))))))) => b | _ => .skip)
      [(4, .slice ba bn bc), (5, .map (some m)), (6, v6), (7, v7), (8, .int .i64 (i : Int)), (9, ptr b9), (11, .int .i64 ((i + 1 : Nat) : Int))] h (K3 kn kx kr) := by
  obtain ⟨E, rfl⟩ : ∃ E : Nat, en = E := ⟨en.toNat, by omega⟩
  refine K_block ?_
  refine K_loop (fun q e h' => ∃ k : Nat, e = [(4, .slice ba bn bc), (5, .map (some m)), (6, v6), (7, v7), (8, .int .i64 (i : Int)), (9, ptr b9), (11, .int .i64 (k : Int))] ∧ i < k ∧ k ≤ E ∧ q = E - k ∧ Ext0 h h') ?_ (k := E - (i + 1)) ⟨i + 1, rfl, by omega, by omega, rfl, Ext.refl _ _⟩
  rintro q e h1 ⟨k, rfl, hik, hkE, rfl, x1⟩
  have g1 := g9.ext x1
  have gm1 := gm.ext x1
  refine K_ss (K_reg (Wops_run rfl rfl (Wops_run rfl rfl (Wops_ld (v := .int .i64 (E : Int)) rfl g1 rfl (Wops_run rfl rfl (K_fin [(4, _), (5, _), (6, _), (7, _), (8, _), (9, _), (11, _), (125, _)] rfl (?_)))))))
  refine K_scond rfl (fun hc => ?_) (fun hc => ?_)
  · have hkl : k < E := by have := of_decide_eq_true hc; omega
    refine K_sskip (K_sblock ?_)
    refine K_reg (Wops_run rfl rfl (Wops_run rfl rfl (Wops_lookB rfl rfl gm1 (Wops_run rfl rfl (Wops_run rfl rfl (Wops_run rfl rfl (Wops_new fun h2 n2 x2 g2 => ?_)))))))
    refine Wops_st (l := [.int .i64 ((getM k es).getD (0, 0)).1, .int .i64 ((getM k es).getD (0, 0)).2]) rfl rfl rfl rfl g2 (by simp) rfl fun h3 n3 x3 g3 => ?_
    replace g3 : At h3 h1.next (.cells [.int .i64 ((getM k es).getD (0, 0)).1, .int .i64 ((getM k es).getD (0, 0)).2] 0 false) := g3
    have x13 : Ext0 h1 h3 := x2.then x3 fun j r => .inr (by omega)
    have g9' := g1.ext x13
    refine Wops_run rfl rfl (K_fin [(4, _), (5, _), (6, _), (7, _), (8, _), (9, _), (11, _), (12, _), (13, _)] rfl (?_))
    refine K_reg (Wops_run rfl rfl (Wops_run rfl rfl ?_))
    cases hg : getM k es with
    | none =>
      rw [hg] at g3
      (repeat (first | refine Wops_skip rfl ?_ | refine Wops_run rfl rfl ?_))
      refine K_fin [(4, _), (5, _), (6, _), (7, _), (8, _), (9, _), (11, _), (141, .bool false)] rfl (?_)
      refine K_cond rfl (fun hc => by cases hc) (fun _ => K_skip ?_)
      refine K_last (Wops_run rfl rfl (Wops_run rfl rfl (Wops_run rfl rfl (K_finL [(4, _), (5, _), (6, _), (7, _), (8, _), (9, _), (11, _)] rfl (?_)))))
      exact ⟨E - (k + 1), by omega, k + 1, by rw [w64s (by omega)], by omega, by omega, rfl, x1.trans x13⟩
    | some b =>
      rw [hg] at g3
      have hb := hn k b.1 b.2 (by omega) (by omega) (by rw [hg])
      refine Wops_go rfl (Wops_run rfl rfl (Wops_go rfl (Wops_ld (v := .int .i64 b.2) rfl g3 rfl (Wops_go rfl (Wops_run rfl rfl (Wops_go rfl (Wops_ld (v := .int .i64 (E : Int)) rfl g9' rfl ?_)))))))
      refine Wops_go rfl (Wops_as (w := .bool false) rfl rfl (by rw [decide_eq_false (by omega)]) (Wops_run rfl rfl (K_fin [(4, _), (5, _), (6, _), (7, _), (8, _), (9, _), (11, _), (141, .bool false)] rfl (?_))))
      refine K_cond rfl (fun hc => by cases hc) (fun _ => K_skip ?_)
      refine K_last (Wops_run rfl rfl (Wops_run rfl rfl (Wops_run rfl rfl (K_finL [(4, _), (5, _), (6, _), (7, _), (8, _), (9, _), (11, _)] rfl (?_)))))
      exact ⟨E - (k + 1), by omega, k + 1, by rw [w64s (by omega)], by omega, by omega, rfl, x1.trans x13⟩
  · refine K_sexit (bx_same ?_)
    exact hk h1 [(9, _), (11, _), (125, _)] x1

set_option maxHeartbeats 4000000 in
/-- CtrlNest -/
theorem C9 {h0 : Heap} {a : Option Addr} {n c : Nat} {xs : List Int} (s : InS h0 a n c (ints .u8 xs)) (hx : ∀ x ∈ xs, 0 ≤ x ∧ x ≤ 255) : Fn Try.prog 9 [.slice a n c] h0 fun v _ => v = .bool true := by
  have hxn : xs.length = n := by simpa using s.sl.len
  subst hxn
  refine fnK F9.fok rfl ?_
  refine K_reg (Wops_run rfl rfl (K_fin [(0, _)] rfl (?_)))
  refine K_ss (K_reg (Wops_call rfl C22 ?_))
  rintro _ _ ⟨rfl, rfl⟩
  refine Wops_run rfl rfl (K_fin [(0, _), (15, _)] rfl (?_))
  refine K_scond rfl (fun hc => by cases hc) (fun _ => ?_)
  refine K_sskip (K_ss (K_reg (Wops_run rfl rfl (Wops_run rfl rfl (Wops_run rfl rfl (K_fin [(0, _), (18, _)] rfl (?_)))))))
  refine K_scond rfl (fun hc => ?_) (fun hc => ?_)
  · refine K_ss (K_reg (Wops_run rfl rfl (K_fin [(2, _)] rfl (?_))))
    exact K_sret (Told.mk _ rfl rfl)
  have hn150 : xs.length ≤ 150 := by have := of_decide_eq_false hc; omega
  refine K_sskip (K_reg (Wops_run rfl rfl (Wops_call rfl C28 ?_)))
  rintro _ h1 ⟨rfl, g1, x1⟩
  have z1 := x1.next
  have l1 := g1.lt
  refine Wops_call rfl (C29 g1 (s.sl.ext x1) hx (by omega) fun i r => ⟨by have := s.lt i r; omega, by have := s.lt i r; omega⟩) ?_
  rintro _ h2 ⟨mc, ca, cn, cc, cl, rfl, ml, mcell, m11, sC, c0, c3, x2, hC⟩
  refine Wops_new fun h3 n3 x3 g3 => Wops_st (l := mc) rfl rfl rfl (by rw [ml]) g3 (by simp) mcell fun h4 n4 x4 g4 => K_fin [(3, _)] rfl (?_)
  have hput : putL z13 0 mc = mc := by
    match mc, ml with
    | [_, _, _, _, _, _, _, _, _, _, _, _, _], _ => rfl
  replace g4 : At h4 h2.next (.cells mc 0 false) := by
    have : h4.get h2.next = some (.cells (putL z13 0 mc) 0 false) := g4
    rw [hput] at this; exact this
  have x24 : Ext0 h2 h4 := x3.then x4 fun i r => .inr (by omega)
  have sC4 := sC.ext x24
  obtain ⟨idc, offc, vsc, ezc, roc, hca, gc, hlc, _, hgc⟩ := sC4.at c0
  subst hca
  obtain ⟨ls, ba, bn, bc, l, w, ht, I, ow⟩ := hC 0 c0
  have hcell := code_cell hgc c0 ht
  obtain ⟨es, hr, hN, hNo, hcnt⟩ := body_run ow
  obtain ⟨dep, hw, hd⟩ := ctrl_some hr
  have I4 := I.ext x24
  have hbn : w.length + 1 = bn := by have := I.len; simpa using this
  have hbig := I.big
  refine K_reg (Wops_run rfl rfl (Wops_ld rfl g4 (by rw [Nat.zero_add]; exact m11) (Wops_iaV rfl rfl ⟨by omega, by omega⟩ (Wops_run rfl rfl (Wops_ld rfl gc hcell (Wops_run rfl rfl (K_fin [(4, _)] rfl (?_))))))))
  refine K_reg (Wops_run rfl rfl (Wops_call rfl (C23 I4) ?_))
  rintro v1 h6 ⟨x6, hv1⟩
  obtain ⟨m, rfl, gm⟩ : ∃ m, v1 = .tuple ⟨[.map (some m), .bool true]⟩ ∧ At h6 m (.map (mapC es)) := by
    rcases hv1 with ⟨e, _⟩ | ⟨es', dep', m, e, e2, g⟩
    · exact absurd hw (e es dep)
    · rw [hw] at e; cases e; exact ⟨m, e2, g⟩
  have I6 := I4.ext x6
  refine Wops_run rfl rfl (Wops_run rfl rfl (Wops_run rfl rfl (Wops_run rfl rfl (Wops_run rfl rfl (K_fin [(4, _), (5, _), (6, _)] rfl (?_))))))
  refine K_reg (Wops_run rfl rfl (K_fin [(4, _), (5, _), (6, _), (7, _)] rfl (?_)))
  refine K_ss (K_reg (Wops_run rfl rfl (K_fin [(4, _), (5, _), (6, _), (7, _), (8, _)] rfl (?_))))
  obtain ⟨V, hV⟩ : ∃ V : List Int, V = w ++ [11] := ⟨_, rfl⟩
  rw [← hV] at I6 hN
  have hVl : V.length = bn := by rw [hV]; simp; omega
  have hVw : V.getD w.length 0 = 11 := by rw [hV]; simp
  obtain ⟨idb, offb, vsb, ezb, rob, hba, gb, hlb, _, hgb⟩ := I6.sl.at (by omega)
  subst hba
  have hop : ∀ k : Nat, k < bn → vsb[offb + (k : Int).toNat * 6 + 0]? = some (.int .i64 (V.getD k 0)) := fun k hk => I6.at (by omega) hgb
  have hop' : ∀ k : Int, 0 ≤ k → k < bn → vsb[offb + k.toNat * 6 + 0]? = some (.int .i64 (V.getD k.toNat 0)) := fun k h1 h2 => by
    have := hop k.toNat (by omega)
    rwa [Int.toNat_of_nonneg h1] at this
  have hall : ∀ i, i < bn → (getM i es).isSome = opens (V.getD i 0) := fun i hi => by
    by_cases h1 : i < w.length
    · exact (hN i (Nat.zero_le _) h1).1
    · obtain rfl : i = w.length := by omega
      rw [hNo _ (Nat.le_refl _), hVw]; rfl
  refine K_sblock ?_
  refine K_loop (fun k e h' => ∃ i : Nat, e = [(4, .slice (some ⟨idb, offb, none⟩) bn bc), (5, .map (some m)), (6, .bool true), (7, .int .i64 (cnt (V.take i) : Int)), (8, .int .i64 (i : Int))] ∧ i ≤ bn ∧ k = bn - i ∧ Ext0 h6 h') ?_ (k := bn) ⟨0, rfl, Nat.zero_le _, rfl, Ext.refl _ _⟩
  rintro k e h7 ⟨i, rfl, hi, rfl, x7⟩
  have gm7 := gm.ext x7
  have gb7 := gb.ext x7
  refine K_ss (K_reg (Wops_run rfl rfl (Wops_run rfl rfl (Wops_run rfl rfl (Wops_run rfl rfl (K_fin [(4, _), (5, _), (6, _), (7, _), (8, _), (35, _)] rfl (?_)))))))
  refine K_scond rfl (fun hc => ?_) (fun hc => ?_)
  · have hin : i < bn := by have := of_decide_eq_true hc; omega
    have hcs := cnt_step (W := V) (i := i) (by omega)
    have hcl : cnt (V.take i) ≤ 1000000 := by
      have : cnt (V.take i) ≤ (V.take i).length := List.countP_le_length
      rw [List.length_take] at this; omega
    refine K_sskip (K_sblock ?_)
    refine K_reg (Wops_run rfl rfl (Wops_run rfl rfl (Wops_lookB rfl rfl gm7 (Wops_run rfl rfl (Wops_run rfl rfl (Wops_run rfl rfl (Wops_new fun h8 n8 x8 g8 => ?_)))))))
    refine Wops_st (l := [.int .i64 ((getM i es).getD (0, 0)).1, .int .i64 ((getM i es).getD (0, 0)).2]) rfl rfl rfl rfl g8 (by simp) rfl fun h9 n9 x9 g9 => ?_
    replace g9 : At h9 h7.next (.cells [.int .i64 ((getM i es).getD (0, 0)).1, .int .i64 ((getM i es).getD (0, 0)).2] 0 false) := g9
    have x79 : Ext0 h7 h9 := x8.then x9 fun j r => .inr (by omega)
    have gm9 := gm7.ext x79
    have gb9 := gb7.ext x79
    refine Wops_run rfl rfl (K_fin [(4, _), (5, _), (6, _), (7, _), (8, _), (9, _), (10, _)] rfl (?_))
    -- in, or not
    refine K_ss (K_reg (Wops_run rfl rfl (Wops_run rfl rfl (Wops_run rfl rfl (Wops_iaV rfl rfl ⟨by omega, by omega⟩ (Wops_run rfl rfl (Wops_ld rfl gb9 (hop i hin) (Wops_run rfl rfl (Wops_run rfl rfl ?_)))))))))
    have nx : ∀ {l : Env} {h' : Heap} {kx : Nat → Kn} {kr : Kn}, Ext0 h6 h' → W Try.prog (match F9.code with | .seq _ (.seq _ (.seq _ (.seq _ (.seq _ (.seq _ (.seq _ (.seq (.seq _ (.block _ (.loop (.seq _ (.seq _ b))))) _))))))) => b | _ => .skip) ([(4, .slice (some ⟨idb, offb, none⟩) bn bc), (5, .map (some m)), (6, .bool true), (7, .int .i64 (cnt (V.take (i + 1)) : Int)), (8, .int .i64 (i : Int))] ++ l) h' (K3 (fun e' h' => ∃ j, j < bn - i ∧ ∃ i : Nat, e' = [(4, .slice (some ⟨idb, offb, none⟩) bn bc), (5, .map (some m)), (6, .bool true), (7, .int .i64 (cnt (V.take i) : Int)), (8, .int .i64 (i : Int))] ∧ i ≤ bn ∧ j = bn - i ∧ Ext0 h6 h') kx kr) := by
      intro l h' kx kr x
      refine K_last (Wops_run rfl rfl (Wops_run rfl rfl (Wops_run rfl rfl (K_finL [(4, _), (5, _), (6, _), (7, _), (8, _)] rfl (?_)))))
      exact ⟨bn - (i + 1), by omega, i + 1, by rw [w64s (by omega)], by omega, rfl, x⟩
    have ho := hall i hin
    have rest : ∀ {kx : Nat → Kn} {kn : Kn} {kr : Kn}, (∀ e' h', (∃ l, e' = [(4, .slice (some ⟨idb, offb, none⟩) bn bc), (5, .map (some m)), (6, .bool true), (7, .int .i64 (cnt (V.take (i + 1)) : Int)), (8, .int .i64 (i : Int))] ++ l) → Ext0 h6 h' → kn e' h') → (∀ e' h', (∃ l, e' = [(4, .slice (some ⟨idb, offb, none⟩) bn bc), (5, .map (some m)), (6, .bool true), (7, .int .i64 (cnt (V.take (i + 1)) : Int)), (8, .int .i64 (i : Int))] ++ l) → Ext0 h6 h' → kx 1 e' h') →
        W Try.prog (match F9.code with | .seq _ (.seq _ (.seq _ (.seq _ (.seq _ (.seq _ (.seq _ (.seq (.seq _ (.block _ (.loop (.seq _ (.seq (.block _ (.seq _ (.seq (.seq _ c) b))) _))))) _))))))) => .seq c b | _ => .skip)
          [(4, .slice (some ⟨idb, offb, none⟩) bn bc), (5, .map (some m)), (6, .bool true), (7, .int .i64 (cnt (V.take i) : Int)), (8, .int .i64 (i : Int)), (9, ptr h7.next), (10, .bool (getM i es).isSome), (59, .bool false)] h9 (K3 kn kx kr) := by
      intro kx kn kr hkn hkx
      refine K_scond rfl (fun hc => by cases hc) (fun _ => ?_)
      refine K_sskip (K_ss (K_reg (Wops_run rfl rfl (Wops_run rfl rfl (K_fin [(4, _), (5, _), (6, _), (7, _), (8, _), (9, _), (61, .bool (!(getM i es).isSome))] rfl (?_))))))
      cases hg : getM i es with
      | none =>
        rw [hg] at ho
        have ho' : opens (V.getD i 0) = false := ho.symm
        rw [ho', if_neg (by simp), Nat.add_zero] at hcs
        refine K_scond rfl (fun _ => ?_) (fun hc => by cases hc)
        exact K_sexit (hkx _ _ ⟨[(9, _), (61, _)], by rw [hcs]; rfl⟩ (x7.trans x79))
      | some b =>
        rw [hg] at ho g9
        have ho' : opens (V.getD i 0) = true := ho.symm
        rw [ho', if_pos rfl] at hcs
        have hiw : i < w.length := by
          by_cases h1 : i < w.length
          · exact h1
          · rw [hNo i (by omega)] at hg; cases hg
        obtain ⟨p1, p2, p3, p4, p5⟩ := (hN i (Nat.zero_le _) hiw).2 b.1 b.2 (by rw [hg])
        have gE : At h9 h7.next (.cells [.int .i64 b.1, .int .i64 b.2] 0 false) := g9
        refine K_scond rfl (fun hc => by cases hc) (fun _ => ?_)
        refine K_sskip (K_reg (Wops_run rfl rfl (Wops_as (w := .int .i64 ((cnt (V.take (i + 1)) : Nat) : Int)) rfl rfl (by rw [hcs, w64s (by omega)]) (Wops_run rfl rfl (K_fin [(4, _), (5, _), (6, _), (7, _), (8, _), (9, _)] rfl (?_))))))
        refine K_ss (K_reg (Wops_run rfl rfl (Wops_ld (v := .int .i64 b.2) rfl gE rfl (Wops_run rfl rfl (Wops_as (w := .bool false) rfl rfl (by rw [decide_eq_false (by omega)]) (Wops_run rfl rfl ?_))))))
        refine Wops_go rfl (Wops_run rfl rfl (Wops_go rfl (Wops_ld (v := .int .i64 b.2) rfl gE rfl (Wops_go rfl (Wops_run rfl rfl (Wops_go rfl (Wops_run rfl rfl (Wops_go rfl (Wops_as (w := .int .i64 (w.length : Int)) rfl rfl (by rw [w64 (by omega)]; congr 1; omega) ?_)))))))))
        refine Wops_go rfl (Wops_as (w := .bool false) rfl rfl (by rw [decide_eq_false (by omega)]) (Wops_run rfl rfl (Wops_run rfl rfl ?_)))
        refine Wops_go rfl (Wops_run rfl rfl (Wops_go rfl (Wops_run rfl rfl (Wops_go rfl (Wops_ld (v := .int .i64 b.2) rfl gE rfl (Wops_go rfl (Wops_iaV rfl rfl ⟨by omega, by omega⟩ (Wops_go rfl (Wops_run rfl rfl (Wops_go rfl (Wops_ld rfl gb9 (hop' b.2 (by omega) (by omega)) ?_)))))))))))
        refine Wops_go rfl (Wops_as (w := .bool false) rfl rfl (by rw [p3]; rfl) (Wops_run rfl rfl (Wops_run rfl rfl ?_)))
        refine Wops_go rfl (Wops_run rfl rfl (Wops_go rfl (Wops_ld (v := .int .i64 b.1) rfl gE rfl (Wops_go rfl ?_))))
        have fin : ∀ {kx : Nat → Kn} {kr : Kn}, W Try.prog (match F9.code with | .seq _ (.seq _ (.seq _ (.seq _ (.seq _ (.seq _ (.seq _ (.seq (.seq _ (.block _ (.loop (.seq _ (.seq (.block _ (.seq _ (.seq _ (.seq _ (.seq _ (.seq (.seq _ c) b)))))) _))))) _))))))) => .seq c b | _ => .skip)
            [(4, .slice (some ⟨idb, offb, none⟩) bn bc), (5, .map (some m)), (6, .bool true), (7, .int .i64 ((cnt (V.take (i + 1)) : Nat) : Int)), (8, .int .i64 (i : Int)), (9, ptr h7.next), (119, .bool false)] h9 (K3 kn kx kr) := by
          intro kx kr
          refine K_scond rfl (fun hc => by cases hc) (fun _ => ?_)
          refine K_sskip (K_reg (Wops_run rfl rfl (Wops_as (w := .int .i64 ((i + 1 : Nat) : Int)) rfl rfl (by rw [w64s (by omega)]) (Wops_run rfl rfl (K_fin [(4, _), (5, _), (6, _), (7, _), (8, _), (9, _), (11, _)] rfl (?_))))))
          exact nest_in gm9 gE p1 (by omega) p5 fun h' l x => hkn _ _ ⟨l, rfl⟩ ((x7.trans x79).trans x)
        by_cases hel : 0 ≤ b.1
        case neg =>
          refine Wops_as (w := .bool false) rfl rfl (by rw [decide_eq_false (by omega)]) (Wops_go rfl (Wops_run rfl rfl ?_))
          (repeat (first | refine Wops_skip rfl ?_ | refine Wops_run rfl rfl ?_))
          refine Wops_go rfl (Wops_run rfl rfl (Wops_run rfl rfl (K_fin [(4, _), (5, _), (6, _), (7, _), (8, _), (9, _), (119, _)] rfl (?_))))
          exact fin
        obtain ⟨q1, q2, q3, q4⟩ := p4 hel
        refine Wops_as (w := .bool true) rfl rfl (by rw [decide_eq_true hel]) (Wops_go rfl (Wops_run rfl rfl ?_))
        refine Wops_go rfl (Wops_run rfl rfl (Wops_go rfl (Wops_ld (v := .int .i64 b.1) rfl gE rfl (Wops_go rfl (Wops_run rfl rfl (Wops_go rfl (Wops_as (w := .bool false) rfl rfl (by rw [decide_eq_false (by omega)]) (Wops_go rfl (Wops_run rfl rfl ?_)))))))))
        refine Wops_go rfl (Wops_run rfl rfl (Wops_go rfl (Wops_ld (v := .int .i64 b.1) rfl gE rfl (Wops_go rfl (Wops_run rfl rfl (Wops_go rfl (Wops_ld (v := .int .i64 b.2) rfl gE rfl (Wops_go rfl (Wops_as (w := .bool false) rfl rfl (by rw [decide_eq_false (by omega)]) ?_)))))))))
        refine Wops_go rfl (Wops_run rfl rfl (Wops_go rfl (Wops_run rfl rfl ?_)))
        refine Wops_go rfl (Wops_run rfl rfl (Wops_go rfl (Wops_run rfl rfl (Wops_go rfl (Wops_ld (v := .int .i64 b.1) rfl gE rfl (Wops_go rfl (Wops_iaV rfl rfl ⟨by omega, by omega⟩ (Wops_go rfl (Wops_run rfl rfl (Wops_go rfl (Wops_ld rfl gb9 (hop' b.1 (by omega) (by omega)) ?_)))))))))))
        refine Wops_go rfl (Wops_as (w := .bool false) rfl rfl (by rw [q3]; rfl) (Wops_go rfl (Wops_run rfl rfl (Wops_go rfl (Wops_run rfl rfl ?_)))))
        refine Wops_go rfl (Wops_run rfl rfl (Wops_go rfl (Wops_run rfl rfl (Wops_go rfl (Wops_iaV rfl rfl ⟨by omega, by omega⟩ (Wops_go rfl (Wops_run rfl rfl (Wops_go rfl (Wops_ld rfl gb9 (hop i hin) ?_)))))))))
        refine Wops_go rfl (Wops_as (w := .bool false) rfl rfl (by rw [q4]; rfl) (Wops_go rfl (Wops_run rfl rfl (Wops_go rfl (Wops_run rfl rfl (Wops_run rfl rfl (K_fin [(4, _), (5, _), (6, _), (7, _), (8, _), (9, _), (119, _)] rfl (?_))))))))
        exact fin
    cases hq : decide (V.getD i 0 ≥ 2)
    case false =>
      have e58 : (getM i es).isSome = false := by rw [ho, ← opens_bool, hq]; rfl
      (repeat (first | refine Wops_skip rfl ?_ | refine Wops_run rfl rfl ?_))
      rw [e58] at rest
      refine K_fin [(4, _), (5, _), (6, _), (7, _), (8, _), (9, _), (10, .bool false), (59, .bool false)] (by rw [e58]; rfl) (?_)
      exact rest (fun e' h' ⟨l, he⟩ x => by rw [he]; exact nx x) (fun e' h' ⟨l, he⟩ x => bx_same (by rw [he]; exact nx x))
    case true =>
      have e58 : (getM i es).isSome = decide (V.getD i 0 ≤ 4) := by rw [ho, ← opens_bool, hq]; rfl
      refine Wops_go rfl (Wops_run rfl rfl (Wops_go rfl (Wops_run rfl rfl (Wops_go rfl (Wops_iaV rfl rfl ⟨by omega, by omega⟩ (Wops_go rfl (Wops_run rfl rfl (Wops_go rfl (Wops_ld rfl gb9 (hop i hin) ?_)))))))))
      refine Wops_go rfl (Wops_run rfl rfl (Wops_run rfl rfl (Wops_as (w := .bool false) rfl rfl (by rw [e58]; cases decide (V.getD i 0 ≤ 4) <;> rfl) (K_fin [(4, _), (5, _), (6, _), (7, _), (8, _), (9, _), (10, _), (59, _)] rfl (?_)))))
      exact rest (fun e' h' ⟨l, he⟩ x => by rw [he]; exact nx x) (fun e' h' ⟨l, he⟩ x => bx_same (by rw [he]; exact nx x))
  · have hib : i = bn := by have := of_decide_eq_false hc; omega
    subst hib
    have hall2 : cnt (V.take i) = es.length := by
      rw [List.take_of_length_le (by omega), hcnt, hV]
      unfold cnt
      rw [List.countP_append]; simp [opens]
    refine K_sexit (bx_same ?_)
    refine K_reg (Wops_run rfl rfl (Wops_run rfl rfl (Wops_go rfl (Wops_run rfl rfl (Wops_go rfl (Wops_lenM rfl gm7 (Wops_go rfl (Wops_run rfl rfl (Wops_go rfl (Wops_as (w := .bool true) rfl rfl (by rw [hall2]; simp) (Wops_run rfl rfl (Wops_run rfl rfl (K_fin [(2, _)] rfl (?_))))))))))))))
    exact K_ret (Told.mk _ rfl rfl)

set_option maxRecDepth 100000 in
theorem ctrlNest_fn {L : List (List Value)} {vs : List Value} (hG : FlatG Try.prog 0 [30] vs L) : Fn Try.prog 9 vs (flatH L) fun v _ => v = .bool true := by
  obtain ⟨a, n, c, l, r, k2, L2, L3, rfl, s, hl, _, _, hF⟩ := flat_slice (P := Try.prog) (k := 0) (t := 30) (ts := []) (L0 := []) (L := L) (L' := L) Try.underlying30 rfl rfl hG
  obtain rfl := flat_nil hF
  obtain ⟨xs, rfl, hw⟩ := scal_ints Try.underlying5 hl
  exact C9 s (fun x hx => wf_u8 (hw x hx))
end Go.Dx.SYtfhdeagbgdnkaaa
