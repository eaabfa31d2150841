/- CtrlAll: the document's Depth, and the walk. -/
import Derived.Test.YtfhdeagbgdnkaaaCt6
namespace Go.Dx.SYtfhdeagbgdnkaaa
open Go.Proofs
set_option linter.unusedVariables false
set_option linter.unusedSimpArgs false

theorem dst_bd {ops : List Int} : ∀ i : Nat, -(i : Int) ≤ (dst ops i).2 ∧ (dst ops i).2 ≤ i ∧ 0 ≤ (dst ops i).1 ∧ (dst ops i).1 ≤ i
  | 0 => by simp [dst]
  | i + 1 => by
    have ih := dst_bd (ops := ops) i
    unfold dst
    simp only
    generalize (dst ops i).1 = a at *
    generalize (dst ops i).2 = b at *
    split <;> split <;> omega
set_option maxHeartbeats 1000000 in
/-- the document's Depth -/
theorem C27 {h : Heap} {la : Option Addr} {ln lc : Nat} {l : List Value} {ops : List Int} (I : Ins h la ln lc l ops) :
    Fn Try.prog 27 [.slice la ln lc] h fun v h' => Ext0 h h' ∧ ((refB ops = none ∧ v = .int .i64 0) ∨ ∃ es, refB ops = some es ∧ v = .int .i64 (dst ops ops.length).1) := by
  have hln := I.len
  have hbig := I.big
  refine fnK F27.fok rfl ?_
  refine K_reg (Wops_run rfl rfl (K_fin [(0, _)] rfl (?_)))
  refine K_reg (Wops_run rfl rfl (Wops_call rfl (C24 I) ?_))
  rintro _ h1 ⟨x1, hv⟩
  rcases hv with ⟨hr, rfl⟩ | ⟨es, m, hr, rfl, gm⟩
  · refine Wops_run rfl rfl (Wops_run rfl rfl (Wops_run rfl rfl (Wops_run rfl rfl (Wops_run rfl rfl (K_fin [(0, _), (4, _)] rfl (?_))))))
    refine K_reg (Wops_run rfl rfl (Wops_run rfl rfl (K_fin [(0, _), (4, _), (5, _), (6, _)] rfl (?_))))
    refine K_ss (K_reg (Wops_run rfl rfl (K_fin [(0, _), (4, _), (5, _), (6, _), (7, _)] rfl (?_))))
    refine K_sblock ?_
    refine K_loop (fun k e h' => e = [(0, .slice la ln lc), (4, .bool false), (5, .int .i64 0), (6, .int .i64 0), (7, .int .i64 0)] ∧ h1 = h') ?_ (k := 0) ⟨rfl, rfl⟩
    rintro k e h' ⟨rfl, rfl⟩
    refine K_ss (K_reg (Wops_run rfl rfl (Wops_run rfl rfl (Wops_run rfl rfl ?_))))
    by_cases h0 : 0 < ln
    · refine Wops_as (w := .bool true) rfl rfl (by rw [decide_eq_true (by omega)]) (Wops_run rfl rfl (Wops_go rfl (Wops_run rfl rfl (Wops_run rfl rfl (K_fin [(0, _), (4, _), (5, _), (6, _), (7, _), (19, _)] rfl (?_))))))
      refine K_scond rfl (fun hc => by cases hc) (fun _ => ?_)
      refine K_sexit (bx_same ?_)
      refine K_reg (Wops_run rfl rfl (Wops_run rfl rfl (K_fin [(2, _)] rfl (?_))))
      exact K_ret (Told.mk _ rfl ⟨x1, .inl ⟨hr, rfl⟩⟩)
    · refine Wops_as (w := .bool false) rfl rfl (by rw [decide_eq_false (by omega)]) (Wops_run rfl rfl (Wops_skip rfl (Wops_run rfl rfl (K_fin [(0, _), (4, _), (5, _), (6, _), (7, _), (19, _)] rfl (?_)))))
      refine K_scond rfl (fun hc => by cases hc) (fun _ => ?_)
      refine K_sexit (bx_same ?_)
      refine K_reg (Wops_run rfl rfl (Wops_run rfl rfl (K_fin [(2, _)] rfl (?_))))
      exact K_ret (Told.mk _ rfl ⟨x1, .inl ⟨hr, rfl⟩⟩)
  have I1 := I.ext x1
  refine Wops_run rfl rfl (Wops_run rfl rfl (Wops_run rfl rfl (Wops_run rfl rfl (Wops_run rfl rfl (K_fin [(0, _), (4, _)] rfl (?_))))))
  refine K_reg (Wops_run rfl rfl (Wops_run rfl rfl (K_fin [(0, _), (4, _), (5, _), (6, _)] rfl (?_))))
  refine K_ss (K_reg (Wops_run rfl rfl (K_fin [(0, _), (4, _), (5, _), (6, _), (7, _)] rfl (?_))))
  refine K_sblock ?_
  refine K_loop (fun k e h' => ∃ i : Nat, e = [(0, .slice la ln lc), (4, .bool true), (5, .int .i64 (dst ops i).1), (6, .int .i64 (dst ops i).2), (7, .int .i64 i)] ∧ h1 = h' ∧ i ≤ ln ∧ k = ln - i) ?_ (k := ln) ⟨0, rfl, rfl, by omega, rfl⟩
  rintro k e h' ⟨i, rfl, rfl, hi, rfl⟩
  have hbd := dst_bd (ops := ops) i
  have hbd1 := dst_bd (ops := ops) (i + 1)
  have hdn : dst ops (i + 1) = (max (dst ops i).1 ((dst ops i).2 + (if 2 ≤ ops.getD i 0 ∧ ops.getD i 0 ≤ 4 then 1 else 0) - (if ops.getD i 0 = 11 then 1 else 0)), (dst ops i).2 + (if 2 ≤ ops.getD i 0 ∧ ops.getD i 0 ≤ 4 then 1 else 0) - (if ops.getD i 0 = 11 then 1 else 0)) := rfl
  refine K_ss (K_reg (Wops_run rfl rfl (Wops_run rfl rfl (Wops_run rfl rfl ?_))))
  by_cases hlt : i < ln
  · refine Wops_as (w := .bool true) rfl rfl (by rw [decide_eq_true (by omega)]) (Wops_run rfl rfl (Wops_go rfl (Wops_run rfl rfl (Wops_run rfl rfl (K_fin [(0, _), (4, _), (5, _), (6, _), (7, _), (19, _)] rfl (?_))))))
    refine K_scond rfl (fun _ => ?_) (fun hc => by cases hc)
    refine K_sskip (K_sblock ?_)
    have hop0 : ∀ {vs : List Value} {off : Nat}, (∀ j, j < ln * 6 → vs[off + j]? = l[j]?) → vs[off + (i : Int).toNat * 6 + 0]? = some (.int .i64 (ops.getD i 0)) := fun hv => I1.at (by omega) hv
    generalize ha : (dst ops i).1 = a at *
    generalize hb : (dst ops i).2 = b at *
    generalize hop : ops.getD i 0 = op at *
    refine K_join (fun e h2 => ∃ l : Env, e = [(0, .slice la ln lc), (4, .bool true), (5, .int .i64 a), (6, .int .i64 (b + if 2 ≤ op ∧ op ≤ 4 then 1 else 0)), (7, .int .i64 (i : Int))] ++ l ∧ h1 = h2) ?_ ?_
    · refine K_reg (Wops_run rfl rfl (Wops_run rfl rfl (Wops_iaS rfl rfl I1.sl ⟨by omega, by omega⟩ fun id off vs ez ro _ v1 v2 v3 => ?_)))
      refine Wops_run rfl rfl (Wops_ld rfl v1 (hop0 v3) ?_)
      by_cases hge : op ≥ 2
      · refine Wops_as (w := .bool true) rfl rfl (by rw [decide_eq_true hge]) (Wops_run rfl rfl (Wops_go rfl (Wops_run rfl rfl (Wops_go rfl (Wops_run rfl rfl (Wops_go rfl ?_))))))
        refine Wops_iaS rfl rfl I1.sl ⟨by omega, by omega⟩ fun id off vs ez ro _ v1 v2 v3 => ?_
        refine Wops_go rfl (Wops_run rfl rfl (Wops_go rfl (Wops_ld rfl v1 (hop0 v3) (Wops_go rfl ?_))))
        by_cases hle : op ≤ 4
        · refine Wops_as (w := .bool true) rfl rfl (by rw [decide_eq_true hle]) (Wops_run rfl rfl (K_fin [(0, _), (4, _), (5, _), (6, _), (7, _), (35, _)] rfl (?_)))
          refine K_cond rfl (fun _ => ?_) (fun hc => by cases hc)
          refine K_last (Wops_run rfl rfl (Wops_as (w := .int .i64 (b + 1)) rfl rfl (by rw [w64 (by omega)]) (Wops_run rfl rfl (K_finL [(0, _), (4, _), (5, _), (6, _), (7, _)] rfl (?_)))))
          exact ⟨[], by rw [if_pos ⟨hge, hle⟩]; rfl, rfl⟩
        · refine Wops_as (w := .bool false) rfl rfl (by rw [decide_eq_false hle]) (Wops_run rfl rfl (K_fin [(0, _), (4, _), (5, _), (6, _), (7, _), (35, _)] rfl (?_)))
          refine K_cond rfl (fun hc => by cases hc) (fun _ => ?_)
          exact K_skip ⟨[(35, .bool false)], by rw [if_neg (fun q => hle q.2), Int.add_zero]; rfl, rfl⟩
      · refine Wops_as (w := .bool false) rfl rfl (by rw [decide_eq_false hge]) (Wops_run rfl rfl ?_)
        repeat (first | refine Wops_skip rfl ?_ | refine Wops_run rfl rfl ?_)
        refine K_fin [(0, _), (4, _), (5, _), (6, _), (7, _), (35, .bool false)] rfl (?_)
        refine K_cond rfl (fun hc => by cases hc) (fun _ => ?_)
        exact K_skip ⟨[(35, .bool false)], by rw [if_neg (fun q => hge q.1), Int.add_zero]; rfl, rfl⟩
    rintro e _ ⟨l2, rfl, rfl⟩
    generalize hb2 : (b + if 2 ≤ op ∧ op ≤ 4 then 1 else 0) = b2 at *
    have hb2r : -(i : Int) ≤ b2 ∧ b2 ≤ i + 1 := by rw [← hb2]; split <;> omega
    refine K_join (fun e h2 => ∃ l : Env, e = [(0, .slice la ln lc), (4, .bool true), (5, .int .i64 a), (6, .int .i64 (b2 - if op = 11 then 1 else 0)), (7, .int .i64 (i : Int))] ++ l ∧ h1 = h2) ?_ ?_
    · refine K_reg (Wops_run rfl rfl (Wops_run rfl rfl (Wops_iaS rfl rfl I1.sl ⟨by omega, by omega⟩ fun id off vs ez ro _ v1 v2 v3 => ?_)))
      refine Wops_run rfl rfl (Wops_ld rfl v1 (hop0 v3) ?_)
      by_cases h11 : op = 11
      · refine Wops_eq (v := true) rfl rfl (by rw [h11]; rfl) (K_fin [(0, _), (4, _), (5, _), (6, _), (7, _), (43, _)] rfl (?_))
        refine K_cond rfl (fun _ => ?_) (fun hc => by cases hc)
        refine K_last (Wops_run rfl rfl (Wops_as (w := .int .i64 (b2 - 1)) rfl rfl (by rw [w64 (by omega)]) (Wops_run rfl rfl (K_finL [(0, _), (4, _), (5, _), (6, _), (7, _)] rfl (?_)))))
        exact ⟨[], by rw [if_pos h11]; rfl, rfl⟩
      · refine Wops_eq (v := false) rfl rfl (by simpa using h11) (K_fin [(0, _), (4, _), (5, _), (6, _), (7, _), (43, _)] rfl (?_))
        refine K_cond rfl (fun hc => by cases hc) (fun _ => ?_)
        exact K_skip ⟨[(43, .bool false)], by rw [if_neg h11, Int.sub_zero]; rfl, rfl⟩
    rintro e _ ⟨l3, rfl, rfl⟩
    generalize hb3 : (b2 - if op = 11 then 1 else 0) = b3 at *
    refine K_last (Wops_run rfl rfl (Wops_run rfl rfl (Wops_as (w := .int .i64 (max a b3)) rfl rfl (by show Value.int .i64 _ = _; congr 1; first | rfl | (split <;> omega) | omega) (Wops_run rfl rfl (K_finL [(0, _), (4, _), (5, _), (6, _), (7, _)] rfl (?_))))))
    refine K_last (Wops_run rfl rfl (Wops_run rfl rfl (Wops_run rfl rfl (K_finL [(0, _), (4, _), (5, _), (6, _), (7, _)] rfl (?_)))))
    refine ⟨ln - (i + 1), by omega, i + 1, ?_, rfl, by omega, rfl⟩
    rw [hdn, w64s (by omega)]
  · obtain rfl : i = ln := by omega
    refine Wops_as (w := .bool false) rfl rfl (by rw [decide_eq_false (by omega)]) (Wops_run rfl rfl (Wops_skip rfl (Wops_run rfl rfl (K_fin [(0, _), (4, _), (5, _), (6, _), (7, _), (19, _)] rfl (?_)))))
    refine K_scond rfl (fun hc => by cases hc) (fun _ => ?_)
    refine K_sexit (bx_same ?_)
    refine K_reg (Wops_run rfl rfl (Wops_run rfl rfl (K_fin [(2, _)] rfl (?_))))
    exact K_ret (Told.mk _ rfl ⟨x1, .inr ⟨es, hr, by rw [hln]; rfl⟩⟩)

set_option maxRecDepth 100000 in
theorem begun22_run : isTrue (fnR T 800 22 [] Heap.empty) = true := by kernel_rfl
theorem C22 {h : Heap} : Fn Try.prog 22 [] h fun v h' => v = .bool true ∧ h = h' :=
  Fn.anywhere (R := fun v => v = .bool true) rfl (fn_of_true T.ok begun22_run) fun v h' q => ⟨by rw [q]; rfl, q⟩

def inr6 (o : Int) : List Value := [.int .i64 o, .int .u32 0, .int .u32 0, .int .u64 0, .slice none 0 0, .int .i64 0]
theorem inr6_len (o : Int) : (inr6 o).length = 6 := rfl
theorem inr6_cell (o : Int) : (inr6 o).all isCell = true := rfl
theorem ins_of {h : Heap} {a : Option Addr} {n c : Nat} {ops : List Int} (o : OwS h 6 a n c (en inr6 ops)) (hn : ops.length = n) (hb : n ≤ 1000000) : Ins h a n c (en inr6 ops) ops :=
  ⟨o.sl, hn, fun i hi => by rw [en_at inr6_len ops i 0 hi (by decide)]; rfl, en_cell inr6_cell _, hb, fun i q => o.lt q⟩

abbrev tblL : List Int := [2, 3, 4, 5, 11, 11, 11, 1]
theorem rem_nat' {a : Int} (ha : 0 ≤ a) {m : Nat} (hm : 0 < m) : ∃ A : Nat, A < m ∧ a.tmod (m : Int) = A := by
  have h1 := Int.tmod_nonneg (m : Int) ha
  have h2 := Int.tmod_lt_of_pos a (show (0 : Int) < (m : Int) by omega)
  exact ⟨(a.tmod m).toNat, by omega, by omega⟩

set_option maxHeartbeats 1000000 in
theorem C7 {h0 : Heap} {a : Option Addr} {n c : Nat} {xs : List Int} (s : InS h0 a n c (xs.map (Value.int .u8))) (hx : ∀ x ∈ xs, 0 ≤ x ∧ x ≤ 255) : Fn Try.prog 7 [.slice a n c] h0 fun v _ => v = .bool true := by
  have hxn : xs.length = n := by simpa using s.sl.len
  refine fnK F7.fok rfl ?_
  refine K_reg (Wops_run rfl rfl (K_fin [(0, _)] rfl (?_)))
  refine K_ss (K_reg (Wops_call rfl C22 ?_))
  rintro _ _ ⟨rfl, rfl⟩
  refine Wops_run rfl rfl (K_fin [(0, _), (10, _)] rfl (?_))
  refine K_scond rfl (fun hc => by cases hc) (fun _ => ?_)
  refine K_sskip (K_ss (K_reg (Wops_run rfl rfl (Wops_run rfl rfl (Wops_run rfl rfl (K_fin [(0, _), (13, _)] rfl (?_)))))))
  refine K_scond rfl (fun hc => ?_) (fun hc => ?_)
  · refine K_ss (K_reg (Wops_run rfl rfl (K_fin [(2, _)] rfl (?_))))
    exact K_sret (Told.mk _ rfl rfl)
  have hn60 : n ≤ 60 := by have := of_decide_eq_false hc; omega
  refine K_sskip (K_reg (Wops_run rfl rfl (K_fin [(0, _), (3, _)] rfl (?_))))
  refine K_ss (K_reg (Wops_run rfl rfl (K_fin [(0, _), (3, _), (4, _)] rfl (?_))))
  refine K_sblock ?_
  refine K_loop (fun k e h' => ∃ (i : Nat) (xa : Option Addr) (xc : Nat) (ops : List Int), e = [(0, .slice a n c), (3, .slice xa i xc), (4, .int .i64 i)] ∧ i ≤ n ∧ k = n - i ∧ ops.length = i ∧ OwS h' 6 xa i xc (en inr6 ops) ∧ (∀ j, Blk xa j → h0.next ≤ j) ∧ Ext0 h0 h') ?_ (k := n) ⟨0, none, 0, [], rfl, by omega, rfl, rfl, OwS.none, fun j r => absurd r Blk.none, Ext.refl _ _⟩
  rintro k e h' ⟨i, xa, xc, ops, rfl, hi, rfl, hops, o, bx', x'⟩
  refine K_ss (K_reg (Wops_run rfl rfl (Wops_run rfl rfl (Wops_run rfl rfl (Wops_run rfl rfl (K_fin [(0, _), (3, _), (4, _), (17, _)] rfl (?_)))))))
  refine K_scond rfl (fun hc => ?_) (fun hc => ?_)
  · have hlt : i < n := by have := of_decide_eq_true hc; omega
    obtain ⟨R, hR, hRe⟩ := rem_nat' (hx xs[i] (List.getElem_mem _)).1 (m := 8) (by omega)
    have hRe' : xs[i].tmod 8 = R := hRe
    refine K_sskip (K_sblock ?_)
    refine K_last (Wops_run rfl rfl (Wops_bslice (l := tblL.map (Value.int .i64)) rfl rfl fun h1 n1 x1 g1 => ?_))
    refine Wops_run rfl rfl (Wops_run rfl rfl (Wops_idx (u := .int .u8 xs[i]) rfl rfl (s.sl.ext (x'.trans x1)) ⟨by omega, by omega⟩ (by simp [hxn, hlt]) fun _ => ?_))
    refine Wops_rem rfl rfl (by decide) ?_
    refine Wops_idx (u := .int .i64 (tblL.getD R 0)) rfl rfl (OwS.new (n := 8) (c := 1) g1 rfl).sl (show 0 ≤ xs[i].tmod 8 ∧ xs[i].tmod 8 < ((8 : Nat) : Int) by rw [hRe']; omega) (by rw [hRe', Int.toNat_natCast, List.getElem?_map, List.getD_eq_getElem?_getD, List.getElem?_eq_getElem (show R < tblL.length from hR)]; rfl) fun _ => ?_
    refine Wops_run rfl rfl (Wops_bslice (l := inr6 (tblL.getD R 0)) rfl rfl fun h2 n2 x2 g2 => ?_)
    refine Wops_app rfl rfl ((o.ext x1).ext x2) rfl (OwS.new (n := 1) (c := 1) g2 rfl).sl.first ⟨by omega, by omega⟩ rfl rfl (by decide) fun h3 a3 c3 x3 o3 b3 => ?_
    refine Wops_run rfl rfl (K_finL [(0, _), (3, _), (4, _)] rfl (?_))
    refine K_last (Wops_run rfl rfl (Wops_run rfl rfl (Wops_run rfl rfl (K_finL [(0, _), (3, _), (4, _)] rfl (?_)))))
    have z' := x'.next
    have z1 := x1.next
    have z2 := x2.next
    refine ⟨n - (i + 1), by omega, i + 1, a3, c3, ops ++ [tblL.getD R 0], by rw [w64s (by omega)], by omega, rfl, by simp [hops], ?_, fun j r => (b3 j r).elim (bx' j) fun r => by omega, ((x'.trans x1).trans x2).then x3 fun j r => .inr (bx' j r)⟩
    rw [en_app, show en inr6 [tblL.getD R 0] = inr6 (tblL.getD R 0) by simp [en]]; exact o3
  · have hin : i = n := by have := of_decide_eq_false hc; omega
    have I := ins_of o hops (by omega)
    refine K_sexit (bx_same ?_)
    refine K_reg (Wops_run rfl rfl (Wops_call rfl (C23 I) ?_))
    rintro v1 h1 ⟨x1, hv1⟩
    have I1 := I.ext x1
    cases hr : refB ops with
    | none =>
      obtain rfl : v1 = .tuple ⟨[.map none, .bool false]⟩ := by
        rcases hv1 with ⟨_, e⟩ | ⟨es, dep, m, e, _⟩
        · exact e
        · exact absurd e (ctrl_none hr es dep)
      refine Wops_run rfl rfl (Wops_run rfl rfl (Wops_run rfl rfl (Wops_run rfl rfl (Wops_run rfl rfl (K_fin [(3, _), (5, _), (6, _)] rfl (?_))))))
      refine K_reg (Wops_run rfl rfl (Wops_call rfl (C24 I1) ?_))
      rintro v2 h2 ⟨x2, hv2⟩
      obtain rfl : v2 = .tuple ⟨[.map none, .bool false]⟩ := by
        rcases hv2 with ⟨_, e⟩ | ⟨es, m, e, _⟩
        · exact e
        · rw [hr] at e; cases e
      have I2 := I1.ext x2
      refine Wops_run rfl rfl (Wops_run rfl rfl (Wops_run rfl rfl (Wops_run rfl rfl (Wops_run rfl rfl (K_fin [(3, _), (5, _), (6, _), (7, _), (8, _)] rfl (?_))))))
      refine K_reg (Wops_run rfl rfl (Wops_run rfl rfl (Wops_run rfl rfl (Wops_run rfl rfl (Wops_go rfl (Wops_run rfl rfl (Wops_go rfl (Wops_run rfl rfl (Wops_go rfl (Wops_call rfl (C25 (.inl ⟨rfl, rfl⟩)) ?_))))))))))
      rintro _ _ ⟨rfl, rfl⟩
      refine Wops_run rfl rfl (Wops_run rfl rfl (Wops_go rfl (Wops_run rfl rfl (Wops_go rfl (Wops_call rfl (C26 I2) ?_)))))
      rintro v3 h3 ⟨x3, hv3⟩
      obtain rfl : v3 = .int .i64 0 := by
        rcases hv3 with ⟨_, e⟩ | ⟨es, dep, e, _⟩
        · exact e
        · exact absurd e (ctrl_none hr es dep)
      refine Wops_go rfl (Wops_run rfl rfl (Wops_go rfl (Wops_call rfl (C27 (I2.ext x3)) ?_)))
      rintro v4 h4 ⟨x4, hv4⟩
      obtain rfl : v4 = .int .i64 0 := by
        rcases hv4 with ⟨_, e⟩ | ⟨es, e, _⟩
        · exact e
        · rw [hr] at e; cases e
      refine Wops_go rfl (Wops_run rfl rfl (Wops_run rfl rfl (Wops_run rfl rfl (K_fin [(2, _)] rfl (?_)))))
      exact K_ret (Told.mk _ rfl rfl)
    | some es =>
      obtain ⟨dep, hw, hd⟩ := ctrl_some hr
      obtain ⟨m, rfl, gm⟩ : ∃ m, v1 = .tuple ⟨[.map (some m), .bool true]⟩ ∧ At h1 m (.map (mapC es)) := by
        rcases hv1 with ⟨e, _⟩ | ⟨es', dep', m, e, e2, g⟩
        · exact absurd hw (e es dep)
        · rw [hw] at e; cases e; exact ⟨m, e2, g⟩
      refine Wops_run rfl rfl (Wops_run rfl rfl (Wops_run rfl rfl (Wops_run rfl rfl (Wops_run rfl rfl (K_fin [(3, _), (5, _), (6, _)] rfl (?_))))))
      refine K_reg (Wops_run rfl rfl (Wops_call rfl (C24 I1) ?_))
      rintro v2 h2 ⟨x2, hv2⟩
      obtain ⟨m2, rfl, gm2⟩ : ∃ m, v2 = .tuple ⟨[.map (some m), .bool true]⟩ ∧ At h2 m (.map (mapC es)) := by
        rcases hv2 with ⟨e, _⟩ | ⟨es', m, e, e2, g⟩
        · rw [hr] at e; cases e
        · rw [hr] at e; cases e; exact ⟨m, e2, g⟩
      have I2 := I1.ext x2
      refine Wops_run rfl rfl (Wops_run rfl rfl (Wops_run rfl rfl (Wops_run rfl rfl (Wops_run rfl rfl (K_fin [(3, _), (5, _), (6, _), (7, _), (8, _)] rfl (?_))))))
      refine K_reg (Wops_run rfl rfl (Wops_run rfl rfl (Wops_run rfl rfl (Wops_run rfl rfl (Wops_go rfl (Wops_run rfl rfl (Wops_go rfl (Wops_run rfl rfl (Wops_go rfl (Wops_call rfl (C25 (.inr ⟨m, m2, es, rfl, rfl, gm.ext x2, gm2⟩)) ?_))))))))))
      rintro _ _ ⟨rfl, rfl⟩
      refine Wops_run rfl rfl (Wops_run rfl rfl (Wops_go rfl (Wops_run rfl rfl (Wops_go rfl (Wops_call rfl (C26 I2) ?_)))))
      rintro v3 h3 ⟨x3, hv3⟩
      obtain rfl : v3 = .int .i64 (dep : Int) := by
        rcases hv3 with ⟨e, _⟩ | ⟨es', dep', e, e2⟩
        · exact absurd hw (e es dep)
        · rw [hw] at e; cases e; exact e2
      refine Wops_go rfl (Wops_run rfl rfl (Wops_go rfl (Wops_call rfl (C27 (I2.ext x3)) ?_)))
      rintro v4 h4 ⟨x4, hv4⟩
      obtain rfl : v4 = .int .i64 (dep : Int) := by
        rcases hv4 with ⟨e, _⟩ | ⟨es', e, e2⟩
        · rw [hr] at e; cases e
        · rw [e2, hd]
      refine Wops_go rfl (Wops_eq (v := true) rfl rfl (by simp) (Wops_run rfl rfl (Wops_run rfl rfl (K_fin [(2, _)] rfl (?_)))))
      exact K_ret (Told.mk _ rfl rfl)

set_option maxRecDepth 100000 in
theorem ctrlAll_fn {L : List (List Value)} {vs : List Value} (hG : FlatG Try.prog 0 [30] vs L) : Fn Try.prog 7 vs (flatH L) fun v _ => v = .bool true := by
  obtain ⟨a, n, c, l, r, k2, L2, L3, rfl, s, hl, _, _, hF⟩ := flat_slice (P := Try.prog) (k := 0) (t := 30) (ts := []) (L0 := []) (L := L) (L' := L) Try.underlying30 rfl rfl hG
  obtain rfl := flat_nil hF
  obtain ⟨xs, rfl, hw⟩ := scal_ints Try.underlying5 hl
  exact C7 s (fun x hx => wf_u8 (hw x hx))
end Go.Dx.SYtfhdeagbgdnkaaa
