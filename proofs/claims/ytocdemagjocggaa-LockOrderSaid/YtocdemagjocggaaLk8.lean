/- LockOrder: the walk, and its arguments. -/
import Derived.Test.YtocdemagjocggaaLk4
import Derived.Test.YtocdemagjocggaaDx30
namespace Go.Dx.SYtocdemagjocggaa
open Go.Proofs
set_option linter.unusedVariables false
set_option linter.unusedSimpArgs false

def rngT (i : Nat) : List Int := (List.range i).map fun (k : Nat) => 10 + (k : Int)
theorem rngT_succ (i : Nat) : rngT (i + 1) = rngT i ++ [10 + (i : Int)] := by simp [rngT, List.range_succ]
theorem rngT_length (i : Nat) : (rngT i).length = i := by simp [rngT]
theorem rngT_not (i : Nat) : ¬ (10 + (i : Int)) ∈ rngT i := by
  intro h
  simp [rngT] at h
  obtain ⟨a, h1, h2⟩ := h; omega
theorem rngT_nodup : ∀ i, (rngT i).Nodup
  | 0 => List.nodup_nil
  | i + 1 => by
    rw [rngT_succ, List.nodup_append]
    exact ⟨rngT_nodup i, by simp, fun a ha b hb => by simp at hb; subst hb; intro e; subst e; exact rngT_not i ha⟩
theorem askR_rngT {i : Nat} (hi : i ≤ 3) : askR (rngT i) (10 + (i : Int)) = ((rngT i).isEmpty, 0, rngT (i + 1)) := by
  unfold askR
  rw [if_neg (rngT_not i), if_neg (by rw [rngT_length]; omega), rngT_succ]

theorem leave1 (xs : List Int) (x : Int) : leaveL xs [x] = xs.filter fun y => !(y == x) := rfl

structure One (h h' : Heap) (p : Nat) (a : Option Addr) (n c : Nat) (xs : List Int) (S : Nat → Prop) : Prop where
  x : Ext0 h h'
  q : Qu h' p xs S
  o : OwS h' 1 a n c (us xs)
  d : Dis S (Blk a)
  ns : ∀ i, S i → h.next ≤ i
  na : ∀ i, Blk a i → h.next ≤ i
  nd : xs.Nodup
  le : xs.length ≤ 4
theorem One.n {h h' : Heap} {p : Nat} {a : Option Addr} {n c : Nat} {xs : List Int} {S : Nat → Prop} (t : One h h' p a n c xs S) : xs.length = n := by simpa using t.o.len

theorem C6 {h : Heap} {a1 : Option Addr} {n1 c1 : Nat} {ls : List Int} {nn : Int} (s1 : InS h a1 n1 c1 (u8s ls)) (hw : 0 ≤ nn ∧ nn ≤ 255) : Fn Try.prog 6 [.int .u8 nn, .slice a1 n1 c1] h fun v _ => v = .bool true := by
  have hn1 : ls.length = n1 := by simpa using s1.sl.len
  refine fnK F6.fok rfl ?_
  refine K_reg (Wops_run rfl rfl (K_fin [(0, _), (1, _)] rfl (?_)))
  refine K_ss (K_reg (Wops_call rfl C22 ?_))
  rintro _ _ ⟨rfl, rfl⟩
  refine Wops_run rfl rfl (K_fin [(0, _), (1, _), (24, _)] rfl (?_))
  refine K_scond rfl (fun hc => by cases hc) (fun _ => ?_)
  refine K_sskip (K_ss (K_reg (Wops_run rfl rfl (Wops_run rfl rfl (Wops_run rfl rfl (K_fin [(0, _), (1, _), (27, _)] rfl (?_)))))))
  refine K_scond rfl (fun hc => ?_) (fun hc => ?_)
  · refine K_ss (K_reg (Wops_run rfl rfl (K_fin [(4, _)] rfl (?_))))
    exact K_sret (Told.mk _ rfl rfl)
  have h6 : n1 ≤ 6 := by have := of_decide_eq_false hc; omega
  refine K_sskip (K_reg (Wops_call rfl C23 ?_))
  rintro _ h1 ⟨p, rfl, q, x, lp⟩
  refine Wops_run rfl rfl (K_fin [(0, _), (1, _), (5, _)] rfl (?_))
  obtain ⟨k, hk1, hk2, hke⟩ : ∃ k : Nat, 1 ≤ k ∧ k ≤ 4 ∧ IntKind.wrap .i64 (1 + (IntKind.wrap .i64 nn).tmod 4) = (k : Int) := by
    have e1 : IntKind.wrap .i64 nn = nn := w64 (by omega)
    rw [e1]
    have h1 := Int.tmod_nonneg 4 hw.1
    have h2 := Int.tmod_lt_of_pos nn (show (0 : Int) < 4 by omega)
    rw [w64 (by omega)]
    exact ⟨(1 + nn.tmod 4).toNat, by omega, by omega, by omega⟩
  refine K_reg (Wops_run rfl rfl (Wops_run rfl rfl (Wops_run rfl rfl (Wops_as (w := .int .i64 k) rfl rfl (by rw [hke]) (Wops_run rfl rfl (K_fin [(1, _), (5, _), (6, _)] rfl (?_)))))))
  refine K_reg (Wops_run rfl rfl (K_fin [(1, _), (5, _), (6, _), (7, _)] rfl (?_)))
  refine K_ss (K_reg (Wops_run rfl rfl (K_fin [(1, _), (5, _), (6, _), (7, _), (8, _)] rfl (?_))))
  refine K_sblock ?_
  have t0 : One h h1 p none 0 0 (rngT 0) (· = p) := ⟨x, q, OwS.none, fun i _ r => absurd r Blk.none, fun i r => by omega, fun i r => absurd r Blk.none, rngT_nodup 0, by simp [rngT]⟩
  refine K_loop (fun kk e h' => ∃ (i : Nat) (a : Option Addr) (c : Nat) (S : Nat → Prop), e = [(1, .slice a1 n1 c1), (5, ptr p), (6, .int .i64 k), (7, .slice a i c), (8, .int .i64 i)] ∧ i ≤ k ∧ kk = k - i ∧ One h h' p a i c (rngT i) S) ?_ (k := k) ⟨0, none, 0, _, rfl, by omega, by omega, t0⟩
  clear t0 q x lp
  rintro kk e h' ⟨i, a, c, S, rfl, hi, rfl, t⟩
  refine K_ss (K_reg (Wops_run rfl rfl (Wops_run rfl rfl (Wops_run rfl rfl (K_fin [(1, _), (5, _), (6, _), (7, _), (8, _), (35, _)] rfl (?_))))))
  refine K_scond rfl (fun hc => ?_) (fun hc => ?_)
  · have hlt : i < k := by have := of_decide_eq_true hc; omega
    have w10 : IntKind.wrap .u64 (IntKind.wrap .i64 (10 + (i : Int))) = 10 + (i : Int) := by rw [w64 (by omega), wu64 (by omega)]
    refine K_sskip (K_sblock ?_)
    refine K_reg (Wops_run rfl rfl (Wops_run rfl rfl (Wops_run rfl rfl (Wops_as (w := .int .u64 (10 + (i : Int))) rfl rfl (by rw [w10]) (Wops_call rfl (C24 t.q (by rw [rngT_length]; omega)) ?_)))))
    rw [askR_rngT (by omega)]
    rintro _ h2 ⟨rfl, S', q', tq⟩
    refine Wops_run rfl rfl (Wops_run rfl rfl (Wops_run rfl rfl (Wops_run rfl rfl (Wops_run rfl rfl (K_fin [(1, _), (5, _), (6, _), (7, _), (8, _), (9, _), (10, _)] rfl (?_))))))
    refine K_ss (K_reg (Wops_run rfl rfl (Wops_run rfl rfl (Wops_run rfl rfl (Wops_go rfl (Wops_run rfl rfl (Wops_go rfl (Wops_run rfl rfl (Wops_go rfl (Wops_run rfl rfl (Wops_go rfl ?_)))))))))))
    refine Wops_as (w := .bool false) rfl rfl ?_ (Wops_run rfl rfl (K_fin [(1, _), (5, _), (6, _), (7, _), (8, _), (53, _)] rfl (?_)))
    · show Value.bool (((rngT i).isEmpty == ((i : Int) == 0)) != true) = .bool false
      cases i with
      | zero => rfl
      | succ i =>
        have : (rngT (i + 1)).isEmpty = false := by rw [rngT_succ]; simp
        have h2 : (((i + 1 : Nat) : Int) == 0) = false := by simp; omega
        rw [this, h2]; rfl
    refine K_scond rfl (fun hc => by cases hc) (fun _ => ?_)
    have o2 := t.o.ext tq.ext t.d.symm
    refine K_sskip (K_last (Wops_run rfl rfl (Wops_run rfl rfl (Wops_run rfl rfl (Wops_as (w := .int .u64 (10 + (i : Int))) rfl rfl (by rw [w10]) (Wops_bslice (l := [.int .u64 (10 + (i : Int))]) rfl rfl fun h3 n3 x3 g3 => ?_))))))
    refine Wops_app rfl rfl (o2.ext x3) rfl (SlA.mk' (n := 1) (c := 1) g3 (by simp) (.inr (.inr rfl))).first ⟨by omega, by omega⟩ rfl rfl (by decide) fun h4 a4 c4 x4 o4 b4 => ?_
    refine Wops_run rfl rfl (K_finL [(1, _), (5, _), (6, _), (7, _), (8, _)] rfl (?_))
    refine K_last (Wops_run rfl rfl (Wops_run rfl rfl (Wops_run rfl rfl (K_finL [(1, _), (5, _), (6, _), (7, _), (8, _)] rfl (?_)))))
    have X2 := tq.ext0 t.x t.ns
    have T4 : Turn h2 h4 (Blk a) (Blk a4) := ⟨x3.of0.then x4 fun i r => .inl r, fun i r => (b4 i r).imp id fun r => by have := x3.next; omega⟩
    have d2 : Dis S' (Blk a) := (t.d.symm.turn (fun i r => t.o.lt r) tq).symm
    refine ⟨k - (i + 1), by omega, i + 1, a4, c4, S', by rw [w64s (by omega)], by omega, rfl, T4.ext0 X2 t.na, q'.ext T4.ext d2, ?_, d2.turn (fun i r => q'.lt r) T4, tq.new t.x t.ns, T4.new X2 t.na, rngT_nodup _, by rw [rngT_length]; omega⟩
    rw [rngT_succ]; simpa [us] using o4
  · have hik : i = k := by have := of_decide_eq_false hc; omega
    subst hik
    refine K_sexit (bx_same ?_)
    refine K_ss (K_reg (Wops_run rfl rfl (K_fin [(1, _), (5, _), (6, _), (7, _), (11, _)] rfl (?_))))
    refine K_sblock ?_
    have hne : rngT i ≠ [] := fun e => by have := rngT_length i; rw [e] at this; simp at this; omega
    refine K_loop (fun kk e h' => ∃ (j n : Nat) (a : Option Addr) (c : Nat) (xs : List Int) (S : Nat → Prop), e = [(1, .slice a1 n1 c1), (5, ptr p), (6, .int .i64 i), (7, .slice a n c), (11, .int .i64 j)] ∧ j ≤ n1 ∧ kk = n1 - j ∧ xs ≠ [] ∧ One h h' p a n c xs S) ?_ (k := n1) ⟨0, i, a, c, rngT i, S, rfl, by omega, by omega, hne, t⟩
    clear t hne
    rintro kk e h' ⟨j, n, a, c, xs, S, rfl, hj, rfl, hne, t⟩
    refine K_ss (K_reg (Wops_run rfl rfl (Wops_run rfl rfl (Wops_run rfl rfl (Wops_run rfl rfl (K_fin [(1, _), (5, _), (6, _), (7, _), (11, _), (63, _)] rfl (?_)))))))
    have hxn := t.n
    refine K_scond rfl (fun hc => ?_) (fun hc => ?_)
    · have hlj : j < n1 := by have := of_decide_eq_true hc; omega
      obtain ⟨w0, r, rfl⟩ := List.exists_cons_of_ne_nil hne
      refine K_sskip (K_sblock ?_)
      refine K_reg (Wops_run rfl rfl (Wops_run rfl rfl (Wops_idx (u := .int .u8 ls[j]) rfl rfl (s1.sl.ext t.x) ⟨by omega, by omega⟩ (by simp [hn1, hlj]) fun pp => ?_)))
      refine Wops_run rfl rfl (Wops_run rfl rfl (Wops_rem rfl rfl (by omega) (Wops_run rfl rfl (Wops_run rfl rfl (Wops_run rfl rfl (K_fin [(1, _), (5, _), (6, _), (7, _), (11, _), (12, _)] rfl (?_)))))))
      generalize (IntKind.wrap .u64 (IntKind.wrap .i64 (10 + Int.tmod _ _))) = x
      refine K_ss (K_reg (Wops_run rfl rfl (Wops_run rfl rfl (Wops_idx (u := .int .u64 w0) rfl rfl t.o.sl ⟨by omega, by simp at hxn; omega⟩ (by simp [us]) fun pp => ?_))))
      refine Wops_run rfl rfl (K_fin [(1, _), (5, _), (6, _), (7, _), (11, _), (12, _), (79, _)] rfl (?_))
      refine K_scond rfl (fun hx => ?_) (fun hx => ?_)
      · refine K_sexit (bx_same ?_)
        refine K_last (Wops_run rfl rfl (Wops_run rfl rfl (Wops_run rfl rfl (K_finL [(1, _), (5, _), (6, _), (7, _), (11, _)] rfl (?_)))))
        exact ⟨n1 - (j + 1), by omega, j + 1, n, a, c, _, S, by rw [w64s (by omega)], by omega, rfl, hne, t⟩
      · have hx0 : x ≠ w0 := fun e => by rw [e] at hx; simp at hx
        have hf : leaveL (w0 :: r) [x] = w0 :: r.filter fun y => !(y == x) := by
          rw [leave1, List.filter_cons_of_pos]; simp; omega
        refine K_sskip (K_reg (Wops_run rfl rfl (Wops_run rfl rfl (Wops_bslice (l := [.int .u64 x]) rfl rfl fun h2 n2 x2 g2 => ?_))))
        have q2 := t.q.ext x2 fun _ _ r => r
        refine Wops_call rfl (C25 q2 (ids := [x]) (SlA.mk' (n := 1) (c := 1) g2 (by simp) (.inr (.inr rfl))) (fun i r s => by rw [Blk.at] at r; have := t.q.lt s; omega) (by have := t.le; omega) (by omega)) ?_
        rintro _ h3 ⟨rfl, S', q3, t3⟩
        have hLR : leaveR (w0 :: r) (leaveL (w0 :: r) [x]) = (0, false) := by rw [hf]; simp [leaveR, fst']
        rw [hLR]
        refine Wops_run rfl rfl (Wops_run rfl rfl (Wops_run rfl rfl (Wops_run rfl rfl (Wops_run rfl rfl (K_fin [(1, _), (5, _), (6, _), (7, _), (11, _), (12, _), (14, _)] rfl (?_))))))
        have T3 : Turn h' h3 S S' := ⟨x2.of0.then t3.ext fun i r => .inl r, fun i r => (t3.own i r).imp id fun r => by omega⟩
        have X3 := T3.ext0 t.x t.ns
        have o3 := t.o.ext T3.ext t.d.symm
        have d3 : Dis S' (Blk a) := (t.d.symm.turn (fun i r => t.o.lt r) T3).symm
        have ns3 := T3.new t.x t.ns
        refine K_reg (Wops_run rfl rfl (K_fin [(1, _), (5, _), (6, _), (7, _), (11, _), (12, _), (14, _), (15, _)] rfl (?_)))
        refine K_ss (K_reg (Wops_run rfl rfl (K_fin [(1, _), (5, _), (6, _), (7, _), (11, _), (12, _), (14, _), (15, _), (16, _)] rfl (?_))))
        refine K_sblock ?_
        have nd := t.nd
        have le := t.le
        have na := t.na
        clear t
        refine K_loop (fun kk e h' => ∃ (m n15 : Nat) (a15 : Option Addr) (c15 : Nat), e = [(1, .slice a1 n1 c1), (5, ptr p), (6, .int .i64 i), (7, .slice a n c), (11, .int .i64 j), (12, .int .u64 x), (14, .bool false), (15, .slice a15 n15 c15), (16, .int .i64 m)] ∧ m ≤ n ∧ kk = n - m ∧ Ext0 h h' ∧ Qu h' p (leaveL (w0 :: r) [x]) S' ∧ OwS h' 1 a n c (us (w0 :: r)) ∧
          OwS h' 1 a15 n15 c15 (us (((w0 :: r).take m).filter fun y => !(y == x))) ∧ Dis S' (Blk a15) ∧ Dis (Blk a) (Blk a15) ∧ (∀ i, Blk a15 i → h.next ≤ i)) ?_ (k := n) ⟨0, 0, none, 0, rfl, by omega, by omega, X3, q3, o3, OwS.none, fun i _ r => absurd r Blk.none, fun i _ r => absurd r Blk.none, fun i r => absurd r Blk.none⟩
        rintro kk e h4 ⟨m, n15, a15, c15, rfl, hm, rfl, X4, q4, o4, o15, d15, da15, n15n⟩
        have hl15 : (((w0 :: r).take m).filter fun y => !(y == x)).length = n15 := by simpa using o15.len
        have hl15' : n15 ≤ m := by rw [← hl15]; exact Nat.le_trans (List.length_filter_le _ _) (by simp; omega)
        refine K_ss (K_reg (Wops_run rfl rfl (Wops_run rfl rfl (Wops_run rfl rfl (Wops_run rfl rfl (K_fin [(1, _), (5, _), (6, _), (7, _), (11, _), (12, _), (14, _), (15, _), (16, _), (90, _)] rfl (?_)))))))
        refine K_scond rfl (fun hc => ?_) (fun hc => ?_)
        · have hlm : m < n := by have := of_decide_eq_true hc; omega
          have hlm2 : m < (w0 :: r).length := by omega
          have htk : ((w0 :: r).take (m + 1)).filter (fun y => !(y == x)) = ((w0 :: r).take m).filter (fun y => !(y == x)) ++ if (w0 :: r)[m] == x then [] else [(w0 :: r)[m]] := by
            rw [List.take_add_one, List.filter_append, List.getElem?_eq_getElem hlm2]
            cases hp : (w0 :: r)[m] == x <;> simp [hp]
          generalize hwm : (w0 :: r)[m] = wm at htk
          refine K_sskip (K_sblock ?_)
          refine K_reg (Wops_run rfl rfl (Wops_run rfl rfl (Wops_idx (u := .int .u64 wm) rfl rfl o4.sl ⟨by omega, by omega⟩ (by rw [Int.toNat_natCast, us, List.getElem?_map, List.getElem?_eq_getElem hlm2, hwm]; rfl) fun pp => ?_)))
          refine Wops_run rfl rfl (Wops_run rfl rfl (K_fin [(1, _), (5, _), (6, _), (7, _), (11, _), (12, _), (14, _), (15, _), (16, _), (98, _)] rfl (?_)))
          refine K_cond rfl (fun hd => ?_) (fun hd => ?_)
          · have hd' : (wm == x) = false := by have h1 : (wm != x) = true := hd; simpa using h1
            refine K_last (Wops_run rfl rfl (Wops_run rfl rfl (Wops_run rfl rfl (Wops_idx (u := .int .u64 wm) rfl rfl o4.sl ⟨by omega, by omega⟩ (by rw [Int.toNat_natCast, us, List.getElem?_map, List.getElem?_eq_getElem hlm2, hwm]; rfl) fun pp => ?_))))
            refine Wops_bslice (l := [.int .u64 wm]) rfl rfl fun h5 n5 x5 g5 => ?_
            refine Wops_app rfl rfl (o15.ext x5) rfl (SlA.mk' (n := 1) (c := 1) g5 (by simp) (.inr (.inr rfl))).first ⟨by omega, by omega⟩ rfl rfl (by decide) fun h6 a6 c6 x6 o6 b6 => ?_
            refine Wops_run rfl rfl (K_finL [(1, _), (5, _), (6, _), (7, _), (11, _), (12, _), (14, _), (15, _), (16, _)] rfl (?_))
            refine K_last (Wops_run rfl rfl (Wops_run rfl rfl (Wops_run rfl rfl (K_finL [(1, _), (5, _), (6, _), (7, _), (11, _), (12, _), (14, _), (15, _), (16, _)] rfl (?_)))))
            have T6 : Turn h4 h6 (Blk a15) (Blk a6) := ⟨x5.of0.then x6 fun i r => .inl r, fun i r => (b6 i r).imp id fun r => by have := x5.next; omega⟩
            refine ⟨n - (m + 1), by omega, m + 1, n15 + 1, a6, c6, by rw [w64s (by omega)], by omega, rfl, T6.ext0 X4 n15n, q4.ext T6.ext d15, o4.ext T6.ext da15, ?_, d15.turn (fun i r => q4.lt r) T6, da15.turn (fun i r => o4.lt r) T6, T6.new X4 n15n⟩
            rw [htk, hd']; simpa [us] using o6
          · have hd' : (wm == x) = true := by have h1 : (wm != x) = false := hd; simpa using h1
            refine K_skip (K_last (Wops_run rfl rfl (Wops_run rfl rfl (Wops_run rfl rfl (K_finL [(1, _), (5, _), (6, _), (7, _), (11, _), (12, _), (14, _), (15, _), (16, _)] rfl (?_))))))
            refine ⟨n - (m + 1), by omega, m + 1, n15, a15, c15, by rw [w64s (by omega)], by omega, rfl, X4, q4, o4, ?_, d15, da15, n15n⟩
            rw [htk, hd']; simpa using o15
        · have hmn : m = n := by have := of_decide_eq_false hc; omega
          have htk : (w0 :: r).take m = w0 :: r := List.take_of_length_le (by omega)
          rw [htk] at o15
          refine K_sexit (bx_same ?_)
          refine K_reg (Wops_run rfl rfl (Wops_run rfl rfl (K_fin [(1, _), (5, _), (6, _), (7, _), (11, _), (14, _)] rfl (?_))))
          refine K_reg (Wops_run rfl rfl (K_fin [(1, _), (5, _), (6, _), (7, _), (11, _), (107, _)] rfl (?_)))
          refine K_cond rfl (fun hc => by cases hc) (fun _ => ?_)
          refine K_skip (K_last (Wops_run rfl rfl (Wops_run rfl rfl (Wops_run rfl rfl (K_finL [(1, _), (5, _), (6, _), (7, _), (11, _)] rfl (?_))))))
          exact ⟨n1 - (j + 1), by omega, j + 1, n15, a15, c15, leaveL (w0 :: r) [x], S', by rw [w64s (by omega)], by omega, rfl, by rw [hf]; simp, X4, q4, o15, d15, ns3, n15n, (by rw [leave1]; exact nd.filter _), Nat.le_trans (leaveL_le _ _) le⟩
    · refine K_sexit (bx_same ?_)
      refine K_sblock ?_
      refine K_loop (fun kk e h' => ∃ (rest : Env) (n : Nat) (a : Option Addr) (c : Nat) (xs : List Int) (S : Nat → Prop) (w1 w6 w11 : Value), e.get 5 = some (ptr p) ∧ e.get 7 = some (.slice a n c) ∧ n = kk ∧ One h h' p a n c xs S) ?_ (k := n) ⟨[], n, a, c, xs, S, .nilFunc, .nilFunc, .nilFunc, rfl, rfl, rfl, t⟩
      clear t hxn hne
      rintro kk e h' ⟨_, n, a, c, xs, S, _, _, _, e5, e7, rfl, t⟩
      have hxn := t.n
      refine K_ss (K_reg (Wops_run (v := .slice a n c) (h' := h') rfl (by simp [SO.run, Arg.ev, e7]) (Wops_run rfl rfl (Wops_run rfl rfl (K_fin [(5, ptr p), (7, .slice a n c), (110, .bool (decide ((n : Int) > 0)))] (by show (match e.get 5 with | some v => (5, v) :: _ | none => _) = _; rw [e5]; show (5, _) :: (match e.get 7 with | some v => (7, v) :: _ | none => _) = _; rw [e7]; rfl) (?_))))))
      refine K_scond rfl (fun hc => ?_) (fun hc => ?_)
      · have h0 : 0 < n := by have := of_decide_eq_true hc; omega
        obtain ⟨w0, r, rfl⟩ := List.exists_cons_of_length_pos (show 0 < xs.length by omega)
        refine K_sskip (K_block ?_)
        refine K_reg (Wops_run rfl rfl (Wops_call rfl (C26 t.q) ?_))
        rintro _ _ ⟨rfl, rfl⟩
        refine Wops_run rfl rfl (Wops_run rfl rfl (Wops_run rfl rfl (Wops_run rfl rfl (Wops_run rfl rfl (K_fin [(5, _), (7, _), (17, _), (18, _)] rfl (?_))))))
        refine K_ss (K_reg (Wops_run rfl rfl (Wops_run rfl rfl (Wops_run rfl rfl (Wops_go rfl (Wops_run rfl rfl (Wops_go rfl (Wops_run rfl rfl (Wops_go rfl ?_)))))))))
        refine Wops_idxG (u := .int .u64 w0) rfl rfl t.o.sl ⟨by omega, by omega⟩ (by simp [us]) (fun _ => rfl) fun pp => ?_
        refine Wops_go rfl (Wops_neq (v := false) rfl rfl (by simp [fst']) (Wops_run rfl rfl (K_fin [(5, _), (7, _), (17, _), (124, _)] rfl (?_))))
        refine K_scond rfl (fun hc => by cases hc) (fun _ => ?_)
        refine K_sskip (K_reg (Wops_run rfl rfl (Wops_run rfl rfl (Wops_bslice (l := [.int .u64 w0]) rfl rfl fun h2 n2 x2 g2 => ?_))))
        have q2 := t.q.ext x2 fun _ _ r => r
        refine Wops_call rfl (C25 q2 (ids := [w0]) (SlA.mk' (n := 1) (c := 1) g2 (by simp) (.inr (.inr rfl))) (fun i r s => by rw [Blk.at] at r; have := t.q.lt s; omega) (by have := t.le; omega) (by omega)) ?_
        rintro _ h3 ⟨rfl, S', q3, t3⟩
        have hnd := List.nodup_cons.1 t.nd
        have hf : leaveL (w0 :: r) [w0] = r := by
          rw [leave1, List.filter_cons_of_neg (by simp), List.filter_eq_self.2]
          intro y hy
          have : y ≠ w0 := fun e => by subst e; exact hnd.1 hy
          simp [this]
        rw [hf] at q3
        rw [hf]
        have T3 : Turn h' h3 S S' := ⟨x2.of0.then t3.ext fun i r => .inl r, fun i r => (t3.own i r).imp id fun r => by omega⟩
        have X3 := T3.ext0 t.x t.ns
        have o3 := (t.o.ext T3.ext t.d.symm)
        have oT := o3.sub (i := 1) (j := n) (by omega) (Nat.le_refl _)
        have hu : List.take ((n - 1) * 1) (List.drop (1 * 1) (us (w0 :: r))) = us r := by
          rw [List.take_of_length_le (by simp at hxn ⊢; omega)]; simp [us]
        rw [hu] at oT
        have d3 : Dis S' (Blk a) := (t.d.symm.turn (fun i r => t.o.lt r) T3).symm
        have fin : One h h3 p (shift a (1 * 1)) (n - 1) c r S' := ⟨X3, q3, oT, fun i r s => d3 i r (shift_blk.1 s), T3.new t.x t.ns, fun i r => t.na i (shift_blk.1 r), hnd.2, by have := t.le; simp at this; omega⟩
        refine Wops_run rfl rfl (Wops_run rfl rfl (Wops_run rfl rfl (Wops_run rfl rfl (Wops_run rfl rfl (K_fin [(5, _), (7, _), (19, _), (20, _)] rfl (?_))))))
        refine K_reg (Wops_run rfl rfl (Wops_slV rfl rfl rfl o3.sl.ok (bounds_lo (i := 1) (by omega)) ?_))
        refine Wops_run rfl rfl (K_fin [(5, _), (7, _), (19, _), (20, _)] rfl (?_))
        cases r with
        | nil =>
          have hn : n = 1 := by simp at hxn; omega
          subst hn
          refine K_reg (Wops_run rfl rfl (Wops_run rfl rfl (Wops_run rfl rfl (Wops_run rfl rfl (Wops_run rfl rfl (Wops_run rfl rfl (Wops_go rfl (Wops_run rfl rfl (Wops_go rfl (Wops_run rfl rfl (Wops_skip rfl (Wops_skip rfl (Wops_skip rfl (Wops_skip rfl (Wops_skip rfl (Wops_go rfl (Wops_run rfl rfl (Wops_run rfl rfl (K_fin [(5, _), (7, _), (148, _)] rfl (?_))))))))))))))))))))
          refine K_cond rfl (fun hc => by cases hc) (fun _ => ?_)
          exact K_skip ⟨0, by omega, [], _, _, _, _, S', .nilFunc, .nilFunc, .nilFunc, rfl, rfl, rfl, fin⟩
        | cons r0 r1 =>
          have hn : n = r1.length + 2 := by simp at hxn; omega
          have hr0 : r0 ≠ w0 := fun e => hnd.1 (by simp [e])
          have hLR : leaveR (w0 :: r0 :: r1) (r0 :: r1) = (r0, true) := by simp [leaveR, fst']; omega
          rw [hLR]
          refine K_reg (Wops_run rfl rfl (Wops_run rfl rfl (Wops_run rfl rfl (Wops_as (w := .bool true) rfl rfl (by rw [decide_eq_true (by omega)]) (Wops_run rfl rfl (Wops_run rfl rfl (Wops_go rfl (Wops_run rfl rfl (Wops_go rfl (Wops_run rfl rfl (Wops_go rfl (Wops_run rfl rfl (Wops_go rfl (Wops_run rfl rfl (Wops_go rfl ?_)))))))))))))))
          refine Wops_idxG (u := .int .u64 r0) rfl rfl oT.sl ⟨by omega, by omega⟩ (by simp [us]) (fun _ => rfl) fun pp => ?_
          refine Wops_go rfl (Wops_neq (v := false) rfl rfl (by simp) (Wops_go rfl (Wops_run rfl rfl (Wops_run rfl rfl (K_fin [(5, _), (7, _), (148, _)] rfl (?_))))))
          refine K_cond rfl (fun hc => by cases hc) (fun _ => ?_)
          exact K_skip ⟨n - 1, by omega, [], _, _, _, _, S', .nilFunc, .nilFunc, .nilFunc, rfl, rfl, rfl, fin⟩
      · have h0 : n = 0 := by have := of_decide_eq_false hc; omega
        have hx : xs = [] := List.eq_nil_of_length_eq_zero (by omega)
        subst hx
        refine K_sexit (bx_same ?_)
        refine K_reg (Wops_run rfl rfl (Wops_call rfl (C26 t.q) ?_))
        rintro _ _ ⟨rfl, rfl⟩
        refine Wops_run rfl rfl (Wops_run rfl rfl (Wops_run rfl rfl (Wops_run rfl rfl (Wops_run rfl rfl (K_fin [(22, _)] rfl (?_))))))
        refine K_reg (Wops_run rfl rfl (Wops_run rfl rfl (Wops_run rfl rfl (K_fin [(4, _)] rfl (?_)))))
        exact K_ret (Told.mk _ rfl rfl)
set_option maxRecDepth 100000 in
theorem lockOrder_fn {L : List (List Value)} {vs : List Value} (hG : FlatG Try.prog 0 [5, 23] vs L) : Fn Try.prog 6 vs (flatH L) fun v _ => v = .bool true := by
  obtain ⟨v, r, rfl, hv, hF⟩ := flat_scal (P := Try.prog) (k := 0) (t := 5) (ts := [23]) (L' := L) (by rw [Try.underlying5]; simp) hG
  obtain ⟨n, rfl, hn⟩ := scal_int Try.underlying5 hv
  obtain ⟨a, m, c, l, r, k2, L2, L3, rfl, s, hl, _, _, hF⟩ := flat_slice (P := Try.prog) (k := 0) (t := 23) (ts := []) (L0 := []) (L := L) (L' := L) Try.underlying23 rfl rfl hF
  obtain rfl := flat_nil hF
  obtain ⟨xs, rfl, hw⟩ := scal_ints Try.underlying5 hl
  exact C6 s (wf_u8 hn)
end Go.Dx.SYtocdemagjocggaa
