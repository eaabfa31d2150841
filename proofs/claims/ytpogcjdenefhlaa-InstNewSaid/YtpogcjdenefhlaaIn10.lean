/- The document's Same; Export, both; SameFunc. -/
import Derived.Test.YtpogcjdenefhlaaIn9
namespace Go.Dx.SYtpogcjdenefhlaa
open Go.Proofs
set_option linter.unusedVariables false
set_option linter.unusedSimpArgs false

/-- SameNums, of the same -/
theorem C28 {h : Heap} {a b : Option Addr} {n c d : Nat} {xs : List Int} (s : SlA h 1 a n c (ints .u64 xs)) (s2 : SlA h 1 b n d (ints .u64 xs)) (hb : n ≤ 1073741824) : Fn Try.prog 28 [.slice a n c, .slice b n d] h fun v h' => v = .bool true ∧ h = h' := by
  have hn : xs.length = n := by simpa using s.len
  refine fnK F28.fok rfl ?_
  refine K_reg (Wops_run rfl rfl (K_fin [(0, _), (1, _)] rfl (?_)))
  refine K_ss (K_reg (Wops_run rfl rfl (Wops_run rfl rfl (Wops_run rfl rfl (Wops_run rfl rfl (Wops_neq (v := false) rfl rfl (by simp) (K_fin [(0, _), (1, _), (10, _)] rfl (?_))))))))
  refine K_scond rfl (fun hc => by cases hc) (fun _ => ?_)
  refine K_sskip (K_ss (K_reg (Wops_run rfl rfl (K_fin [(0, _), (1, _), (5, _)] rfl (?_)))))
  refine K_sblock ?_
  refine K_loop (fun k e h' => ∃ i : Nat, e = [(0, .slice a n c), (1, .slice b n d), (5, .int .i64 (i : Int))] ∧ i ≤ n ∧ k = n - i ∧ h = h') ?_ (k := n) ⟨0, rfl, Nat.zero_le _, rfl, rfl⟩
  rintro k e h' ⟨i, rfl, hi, rfl, rfl⟩
  refine K_ss (K_reg (Wops_run rfl rfl (Wops_run rfl rfl (Wops_run rfl rfl (Wops_run rfl rfl (K_fin [(0, _), (1, _), (5, _), (14, _)] rfl (?_)))))))
  refine K_scond rfl (fun hc => ?_) (fun hc => ?_)
  · have hil : i < n := by have := of_decide_eq_true hc; omega
    have hix : i < xs.length := by omega
    refine K_sskip (K_sblock ?_)
    refine K_reg (Wops_run rfl rfl (Wops_run rfl rfl (Wops_idx (u := .int .u64 xs[i]) rfl rfl s ⟨by omega, by omega⟩ (by simp [hix]) fun _ => ?_)))
    refine Wops_run rfl rfl (Wops_run rfl rfl (Wops_idx (u := .int .u64 xs[i]) rfl rfl s2 ⟨by omega, by omega⟩ (by simp [hix]) fun _ => ?_))
    refine Wops_as (w := .bool false) rfl rfl (by simp) (K_fin [(0, _), (1, _), (5, _), (25, _)] rfl (?_))
    refine K_cond rfl (fun hc => by cases hc) (fun _ => K_skip ?_)
    refine K_last (Wops_run rfl rfl (Wops_run rfl rfl (Wops_run rfl rfl (K_finL [(0, _), (1, _), (5, _)] rfl (?_)))))
    exact ⟨n - (i + 1), by omega, i + 1, by rw [w64s (by omega)], by omega, rfl, rfl⟩
  · refine K_sexit (bx_same ?_)
    refine K_reg (Wops_run rfl rfl (K_fin [(4, _)] rfl (?_)))
    exact K_ret (Told.mk _ rfl ⟨rfl, rfl⟩)

/-- sameBools, of the same -/
theorem C29 {h : Heap} {a b : Option Addr} {n c d : Nat} {xs : List Bool} (s : SlA h 1 a n c (bools xs)) (s2 : SlA h 1 b n d (bools xs)) (hb : n ≤ 1073741824) : Fn Try.prog 29 [.slice a n c, .slice b n d] h fun v h' => v = .bool true ∧ h = h' := by
  have hn : xs.length = n := by simpa using s.len
  refine fnK F29.fok rfl ?_
  refine K_reg (Wops_run rfl rfl (K_fin [(0, _), (1, _)] rfl (?_)))
  refine K_ss (K_reg (Wops_run rfl rfl (Wops_run rfl rfl (Wops_run rfl rfl (Wops_run rfl rfl (Wops_neq (v := false) rfl rfl (by simp) (K_fin [(0, _), (1, _), (10, _)] rfl (?_))))))))
  refine K_scond rfl (fun hc => by cases hc) (fun _ => ?_)
  refine K_sskip (K_ss (K_reg (Wops_run rfl rfl (K_fin [(0, _), (1, _), (5, _)] rfl (?_)))))
  refine K_sblock ?_
  refine K_loop (fun k e h' => ∃ i : Nat, e = [(0, .slice a n c), (1, .slice b n d), (5, .int .i64 (i : Int))] ∧ i ≤ n ∧ k = n - i ∧ h = h') ?_ (k := n) ⟨0, rfl, Nat.zero_le _, rfl, rfl⟩
  rintro k e h' ⟨i, rfl, hi, rfl, rfl⟩
  refine K_ss (K_reg (Wops_run rfl rfl (Wops_run rfl rfl (Wops_run rfl rfl (Wops_run rfl rfl (K_fin [(0, _), (1, _), (5, _), (14, _)] rfl (?_)))))))
  refine K_scond rfl (fun hc => ?_) (fun hc => ?_)
  · have hil : i < n := by have := of_decide_eq_true hc; omega
    have hix : i < xs.length := by omega
    refine K_sskip (K_sblock ?_)
    refine K_reg (Wops_run rfl rfl (Wops_run rfl rfl (Wops_idx (u := .bool xs[i]) rfl rfl s ⟨by omega, by omega⟩ (by simp [hix]) fun _ => ?_)))
    refine Wops_run rfl rfl (Wops_run rfl rfl (Wops_idx (u := .bool xs[i]) rfl rfl s2 ⟨by omega, by omega⟩ (by simp [hix]) fun _ => ?_))
    refine Wops_as (w := .bool false) rfl rfl (by simp) (K_fin [(0, _), (1, _), (5, _), (25, _)] rfl (?_))
    refine K_cond rfl (fun hc => by cases hc) (fun _ => K_skip ?_)
    refine K_last (Wops_run rfl rfl (Wops_run rfl rfl (Wops_run rfl rfl (K_finL [(0, _), (1, _), (5, _)] rfl (?_)))))
    exact ⟨n - (i + 1), by omega, i + 1, by rw [w64s (by omega)], by omega, rfl, rfl⟩
  · refine K_sexit (bx_same ?_)
    refine K_reg (Wops_run rfl rfl (K_fin [(4, _)] rfl (?_)))
    exact K_ret (Told.mk _ rfl ⟨rfl, rfl⟩)

set_option maxHeartbeats 4000000 in
/-- ref13.Same, of the same -/
theorem C11 {h : Heap} {p q : Nat} {d f : ID} (i1 : InP h p d) (i2 : InP h q f) (e1 : f.bs = d.bs) (e2 : f.tt = d.tt) (e3 : f.gs = d.gs) (e4 : f.es = d.es) (e5 : f.ds = d.ds) : Fn Try.prog 11 [ptr p, ptr q] h fun v h' => v = .bool true ∧ h = h' := by
  obtain ⟨⟨tl, g⟩, s1, st, st1, s2, s3, s4, ml, -, -, bb, tb, gb, eb, db⟩ := i1
  obtain ⟨⟨tl', g'⟩, s1', st', st1', s2', s3', s4', ml', -⟩ := i2
  unfold ID.cs at g g'
  obtain ⟨mod, bl, ma, mc, bs, ta, tc, t1, t1c, tt, ga, gc, gs, ea, ec, es, da, dc, ds⟩ := d
  obtain ⟨mod', bl', ma', mc', bs', ta', tc', t1', t1c', tt', ga', gc', gs', ea', ec', es', da', dc', ds'⟩ := f
  simp only at g g' s1 st st1 s2 s3 s4 s1' st' st1' s2' s3' s4' ml ml' bb tb gb eb db e1 e2 e3 e4 e5 ⊢
  subst e1 e2 e3 e4 e5
  obtain ⟨a0, a1, a2, a3, a4, a5, a6, a7, a8, a9, a10, a11, a12, rfl⟩ := thirteen ml
  obtain ⟨c0, c1, c2, c3, c4, c5, c6, c7, c8, c9, c10, c11, c12, rfl⟩ := thirteen ml'
  refine fnK F11.fok rfl ?_
  refine K_reg (Wops_run rfl rfl (K_fin [(0, _), (1, _)] rfl (?_)))
  refine K_ss (K_reg (Wops_run rfl rfl (Wops_run rfl rfl (Wops_run rfl rfl (Wops_go rfl (Wops_run rfl rfl (Wops_go rfl (Wops_run rfl rfl (Wops_run rfl rfl (K_fin [(0, _), (1, _), (11, _)] rfl (?_)))))))))))
  refine K_scond rfl (fun hc => by cases hc) (fun _ => ?_)
  refine K_sskip (K_ss (K_reg (Wops_run rfl rfl (Wops_run rfl rfl (Wops_run rfl rfl (Wops_ld (v := .slice ma bs'.length mc) rfl g rfl (Wops_toStr rfl s1.sl (Wops_run rfl rfl (Wops_run rfl rfl (Wops_run rfl rfl (Wops_ld (v := .slice ma' bs'.length mc') rfl g' rfl (Wops_toStr rfl s1'.sl (Wops_as (w := .bool false) rfl rfl (by simp) (Wops_run rfl rfl (?_)))))))))))))))
  refine Wops_go rfl (Wops_run rfl rfl (Wops_go rfl (Wops_run rfl rfl (Wops_go rfl (Wops_run rfl rfl (Wops_go rfl (Wops_ld (v := .slice ga gs'.length gc) rfl g rfl (Wops_go rfl (Wops_run rfl rfl (Wops_go rfl (Wops_run rfl rfl (Wops_go rfl (Wops_run rfl rfl (Wops_go rfl (Wops_ld (v := .slice ga' gs'.length gc') rfl g' rfl (Wops_go rfl (Wops_call rfl (C28 s2.sl s2'.sl (by omega)) (?_))))))))))))))))))
  rintro _ _ ⟨rfl, rfl⟩
  refine Wops_go rfl (Wops_run rfl rfl (Wops_run rfl rfl (Wops_run rfl rfl (?_))))
  refine Wops_go rfl (Wops_run rfl rfl (Wops_go rfl (Wops_run rfl rfl (Wops_go rfl (Wops_run rfl rfl (Wops_go rfl (Wops_ld (v := .slice ea es'.length ec) rfl g rfl (Wops_go rfl (Wops_run rfl rfl (Wops_go rfl (Wops_run rfl rfl (Wops_go rfl (Wops_run rfl rfl (Wops_go rfl (Wops_ld (v := .slice ea' es'.length ec') rfl g' rfl (Wops_go rfl (Wops_call rfl (C29 s3.sl s3'.sl (by omega)) (?_))))))))))))))))))
  rintro _ _ ⟨rfl, rfl⟩
  refine Wops_go rfl (Wops_run rfl rfl (Wops_run rfl rfl (Wops_run rfl rfl (?_))))
  refine Wops_go rfl (Wops_run rfl rfl (Wops_go rfl (Wops_run rfl rfl (Wops_go rfl (Wops_run rfl rfl (Wops_go rfl (Wops_ld (v := .slice da ds'.length dc) rfl g rfl (Wops_go rfl (Wops_run rfl rfl (Wops_go rfl (Wops_run rfl rfl (Wops_go rfl (Wops_run rfl rfl (Wops_go rfl (Wops_ld (v := .slice da' ds'.length dc') rfl g' rfl (Wops_go rfl (Wops_call rfl (C29 s4.sl s4'.sl (by omega)) (?_))))))))))))))))))
  rintro _ _ ⟨rfl, rfl⟩
  refine Wops_go rfl (Wops_run rfl rfl (Wops_run rfl rfl (Wops_run rfl rfl (?_))))
  refine Wops_go rfl (Wops_run rfl rfl (Wops_go rfl (Wops_run rfl rfl (Wops_go rfl (Wops_run rfl rfl (Wops_go rfl (Wops_ld (v := .slice ta 1 tc) rfl g rfl (Wops_go rfl (Wops_run rfl rfl (Wops_go rfl (Wops_run rfl rfl (Wops_go rfl (Wops_run rfl rfl (Wops_go rfl (Wops_run rfl rfl (Wops_go rfl (Wops_ld (v := .slice ta' 1 tc') rfl g' rfl (Wops_go rfl (Wops_run rfl rfl (Wops_go rfl (Wops_as (w := .bool false) rfl rfl rfl (Wops_run rfl rfl (K_fin [(0, _), (1, _), (77, _)] rfl (?_))))))))))))))))))))))))
  refine K_scond rfl (fun hc => by cases hc) (fun _ => ?_)
  refine K_sskip (K_ss (K_reg (Wops_run rfl rfl (K_fin [(0, _), (1, _), (5, _)] rfl (?_)))))
  refine K_sblock ?_
  refine K_loop (fun k e h' => h = h' ∧ (k = 1 ∧ e = [(0, ptr p), (1, ptr q), (5, .int .i64 0)] ∨ k = 0 ∧ e = [(0, ptr p), (1, ptr q), (5, .int .i64 1)])) ?_ (k := 1) ⟨rfl, .inl ⟨rfl, rfl⟩⟩
  rintro k e h' ⟨rfl, ⟨rfl, rfl⟩ | ⟨rfl, rfl⟩⟩
  · refine K_ss (K_reg (Wops_run rfl rfl (Wops_run rfl rfl (Wops_run rfl rfl (Wops_run rfl rfl (Wops_ld (v := .slice ta 1 tc) rfl g rfl (Wops_run rfl rfl (Wops_run rfl rfl (K_fin [(0, _), (1, _), (5, _), (84, _)] rfl (?_))))))))))
    refine K_scond rfl (fun _ => ?_) (fun hc => by cases hc)
    refine K_sskip (K_sblock ?_)
    refine K_reg (Wops_run rfl rfl (Wops_run rfl rfl (Wops_run rfl rfl (Wops_ld (v := .slice ta 1 tc) rfl g rfl (Wops_run rfl rfl (Wops_idx (u := .slice t1 tt'.length t1c) rfl rfl st.sl ⟨by omega, by omega⟩ rfl fun _ => (Wops_run rfl rfl (Wops_run rfl rfl (Wops_run rfl rfl (Wops_ld (v := .slice ta' 1 tc') rfl g' rfl (Wops_run rfl rfl (Wops_idx (u := .slice t1' tt'.length t1c') rfl rfl st'.sl ⟨by omega, by omega⟩ rfl fun _ => (Wops_call rfl (C28 st1.sl st1'.sl (by omega)) (?_))))))))))))))
    rintro _ _ ⟨rfl, rfl⟩
    refine Wops_run rfl rfl (K_fin [(0, _), (1, _), (5, _), (102, _)] rfl (?_))
    refine K_cond rfl (fun hc => by cases hc) (fun _ => K_skip ?_)
    exact K_last (Wops_run rfl rfl (Wops_run rfl rfl (Wops_run rfl rfl (K_finL [(0, _), (1, _), (5, _)] rfl ⟨0, by omega, rfl, .inr ⟨rfl, rfl⟩⟩))))
  refine K_ss (K_reg (Wops_run rfl rfl (Wops_run rfl rfl (Wops_run rfl rfl (Wops_run rfl rfl (Wops_ld (v := .slice ta 1 tc) rfl g rfl (Wops_run rfl rfl (Wops_run rfl rfl (K_fin [(0, _), (1, _), (5, _), (84, _)] rfl (?_))))))))))
  refine K_scond rfl (fun hc => by cases hc) (fun _ => ?_)
  refine K_sexit (bx_same ?_)
  refine K_reg (Wops_run rfl rfl (K_fin [(4, _)] rfl (?_)))
  exact K_ret (Told.mk _ rfl ⟨rfl, rfl⟩)

/-- SameFunc, of the same -/
theorem C15 {h : Heap} {pa ra pa' ra' : Option Addr} {pn pc rn rc pc' rc' : Nat} {ps rs : List Int} (s1 : SlA h 1 pa pn pc (ints .u8 ps)) (s2 : SlA h 1 ra rn rc (ints .u8 rs)) (s1' : SlA h 1 pa' pn pc' (ints .u8 ps)) (s2' : SlA h 1 ra' rn rc' (ints .u8 rs)) :
    Fn Try.prog 15 [.agg ⟨[.slice pa pn pc, .slice ra rn rc]⟩, .agg ⟨[.slice pa' pn pc', .slice ra' rn rc']⟩] h fun v h' => v = .bool true ∧ h = h' := by
  refine Fn.gc (Q := fun v h' => v = .bool true ∧ Ext0 h h') (R := fun v => v = .bool true) ?_ fun v h' q => ⟨q.2, by rw [q.1]; rfl, q.1⟩
  refine fnK F15.fok rfl ?_
  refine K_reg (Wops_box (cs := [.slice pa pn pc, .slice ra rn rc]) rfl rfl fun h1 n1 x1 g1 => Wops_box (cs := [.slice pa' pn pc', .slice ra' rn rc']) rfl rfl fun h2 n2 x2 g2 => Wops_run rfl rfl (K_fin [(2, _), (3, _)] rfl (?_)))
  have g12 := At.ext g1 x2
  have x02 := x1.trans x2
  refine K_reg (Wops_run rfl rfl (Wops_ld (v := .slice pa pn pc) rfl g12 rfl (Wops_toStr rfl (s1.ext x02) (Wops_run rfl rfl (Wops_ld (v := .slice pa' pn pc') rfl g2 rfl (Wops_toStr rfl (s1'.ext x02) (Wops_as (w := .bool true) rfl rfl (by simp) (Wops_run rfl rfl (Wops_go rfl (Wops_run rfl rfl (Wops_go rfl (Wops_ld (v := .slice ra rn rc) rfl g12 rfl (Wops_go rfl (Wops_toStr rfl (s2.ext x02) (Wops_go rfl (Wops_run rfl rfl (Wops_go rfl (Wops_ld (v := .slice ra' rn rc') rfl g2 rfl (Wops_go rfl (Wops_toStr rfl (s2'.ext x02) (Wops_go rfl (Wops_as (w := .bool true) rfl rfl (by simp) (Wops_run rfl rfl (Wops_run rfl rfl (K_fin [(4, _)] rfl (?_))))))))))))))))))))))))))
  exact K_ret (Told.mk _ rfl ⟨rfl, x02⟩)

theorem win_k {vs cl : List Value} {off i n k : Nat} {r : List Value} (hg : ∀ j, j < n * k → vs[off + j]? = cl[j]?) (hi : i < n) (ht : (cl.drop (i * k)).take k = r) : (vs.drop (off + (i : Int).toNat * k)).take k = r := by
  rw [Int.toNat_natCast, ← ht]
  have hk : (i + 1) * k ≤ n * k := Nat.mul_le_mul_right k hi
  rw [Nat.add_mul] at hk
  apply List.ext_getElem?
  intro q
  by_cases hq : q < k
  · rw [List.getElem?_take_of_lt hq, List.getElem?_drop, List.getElem?_take_of_lt hq, List.getElem?_drop, Nat.add_assoc, hg _ (by omega)]
  · rw [List.getElem?_eq_none (by simp; omega), List.getElem?_eq_none (by simp; omega)]
theorem neq_ba {a b : ByteArray} (h : a.toList ≠ b.toList) : (!(a.toList == b.toList)) = true := by simp [h]
theorem eq_ba {a b : ByteArray} (h : a.toList = b.toList) : (a.toList == b.toList) = true := by simp [h]
theorem ne_ba {a b : ByteArray} (h : a.toList ≠ b.toList) : (a.toList == b.toList) = false := by simp [h]

set_option maxHeartbeats 4000000 in
/-- inst.Export, of a name that is not there -/
theorem C13miss {h : Heap} {p : Nat} {d : LD} {r : List Value} {ns : Nat → ByteArray} {nm : ByteArray} (gi : At h p (.cells (d.mc ++ r) 0 false)) (q : Lay h d) (hns : ∀ i, i < d.fs.length → (d.el.drop (i * 3)).take 3 = [.string (ns i), .int .u8 0, .int .u32 (i : Int)]) (hne : ∀ i, i < d.fs.length → (ns i).toList ≠ nm.toList) :
    Fn Try.prog 13 [ptr p, .string nm] h fun v h' => v = .tuple ⟨[.int .u32 0, .agg ⟨[nilS, nilS]⟩, .int .i64 10]⟩ ∧ Ext0 h h' := by
  have c3 := q.f3
  obtain ⟨ide, offe, vse, eze, roe, hea, ge, hle, _, hge⟩ := q.se.at q.f0
  have hmx : ∀ r, (d.mc ++ r)[5]? = some (.slice (some ⟨ide, offe, none⟩) d.fs.length d.ec) := fun r => by rw [← hea]; rfl
  refine fnK F13.fok rfl ?_
  refine K_reg (Wops_run rfl rfl (Wops_new fun h1 n1 x1 g1 => Wops_run rfl rfl (K_fin [(0, _), (1, _), (5, _)] rfl (?_))))
  replace g1 : At h1 h.next (.cells [nilS, nilS] 0 false) := g1
  refine K_ss (K_reg (Wops_run rfl rfl (Wops_run rfl rfl (K_fin [(0, _), (1, _), (5, _), (11, _)] rfl (?_)))))
  refine K_scond rfl (fun hc => by cases hc) (fun _ => ?_)
  refine K_sskip (K_reg (Wops_run rfl rfl (Wops_run rfl rfl (Wops_run rfl rfl (Wops_run rfl rfl (K_fin [(1, _), (5, _), (7, _)] rfl (?_)))))))
  have gi1 := gi.ext x1
  refine K_ss (K_reg (Wops_run rfl rfl (Wops_run rfl rfl (Wops_run rfl rfl (Wops_ld (v := .slice (some ⟨ide, offe, none⟩) d.fs.length d.ec) rfl gi1 (by rw [Nat.zero_add]; exact hmx r) (Wops_run rfl rfl (Wops_run rfl rfl (K_fin [(1, _), (5, _), (7, _), (19, _), (20, _), (21, _)] rfl (?_)))))))))
  refine K_sblock ?_
  refine K_loop (fun k e h' => ∃ i : Nat, e = [(1, .string nm), (5, ptr h.next), (7, ptr p), (19, .slice (some ⟨ide, offe, none⟩) d.fs.length d.ec), (20, .int .i64 (d.fs.length : Int)), (21, .int .i64 (i : Int))] ∧ i ≤ d.fs.length ∧ k = d.fs.length - i ∧ Ext0 h1 h') ?_ (k := d.fs.length) ⟨0, rfl, Nat.zero_le _, rfl, Ext.refl _ _⟩
  rintro k e h2 ⟨i, rfl, hi, rfl, x2⟩
  have x02 := x1.trans x2
  refine K_reg (Wops_run rfl rfl (K_fin [(1, _), (5, _), (7, _), (19, _), (20, _), (21, _), (22, _)] rfl (?_)))
  refine K_scond rfl (fun hc => ?_) (fun hc => ?_)
  · have hin : i < d.fs.length := by have := of_decide_eq_true hc; omega
    have hni := hne i hin
    refine K_sskip (K_sblock ?_)
    refine K_reg (Wops_iaV rfl rfl ⟨by omega, by omega⟩ (Wops_ldA rfl (ge.ext x02) (by rw [Int.toNat_natCast]; omega) (win_k hge hin (hns i hin)) (Wops_new fun h3 n3 x3 g3 => ?_)))
    refine Wops_st (l := [.string (ns i), .int .u8 0, .int .u32 (i : Int)]) rfl rfl rfl rfl g3 (by simp) rfl fun h4 n4 x4 g4 => ?_
    replace g4 : At h4 h2.next (.cells [.string (ns i), .int .u8 0, .int .u32 (i : Int)] 0 false) := g4
    have x24 : Ext0 h2 h4 := x3.then x4 fun j r => .inr (by omega)
    refine K_fin [(1, _), (5, _), (7, _), (9, _), (19, _), (20, _), (21, _)] rfl (?_)
    refine K_ss (K_reg (Wops_run rfl rfl (Wops_ld (v := .string (ns i)) rfl g4 rfl (Wops_run rfl rfl (Wops_as (w := .bool true) rfl rfl (congrArg Value.bool (neq_ba hni)) (Wops_run rfl rfl (Wops_skip rfl (Wops_skip rfl (Wops_skip rfl (Wops_run rfl rfl (Wops_run rfl rfl (Wops_skip rfl (Wops_skip rfl (Wops_skip rfl (Wops_skip rfl (Wops_skip rfl (Wops_skip rfl (Wops_skip rfl (Wops_skip rfl (Wops_skip rfl (Wops_skip rfl (Wops_run rfl rfl (Wops_run rfl rfl (Wops_skip rfl (Wops_skip rfl (Wops_skip rfl (Wops_skip rfl (Wops_skip rfl (Wops_skip rfl (Wops_skip rfl (Wops_skip rfl (Wops_skip rfl (Wops_skip rfl (Wops_skip rfl (Wops_skip rfl (Wops_skip rfl (Wops_skip rfl (Wops_skip rfl (Wops_skip rfl (Wops_run rfl rfl (K_fin [(1, _), (5, _), (7, _), (9, _), (19, _), (20, _), (21, _), (63, _)] rfl (?_))))))))))))))))))))))))))))))))))))))))))
    refine K_scond rfl (fun _ => ?_) (fun hc => by cases hc)
    refine K_sexit (bx_same ?_)
    refine K_last (Wops_run rfl rfl (Wops_run rfl rfl (K_finL [(1, _), (5, _), (7, _), (19, _), (20, _), (21, _)] rfl (?_))))
    exact ⟨d.fs.length - (i + 1), by omega, i + 1, by rw [w64s (by omega)], by omega, rfl, x2.trans x24⟩
  refine K_sexit (bx_same ?_)
  have g12 := g1.ext x2
  refine K_reg (Wops_run rfl rfl (Wops_run rfl rfl (Wops_st (l := [nilS, nilS]) rfl rfl rfl rfl g12 (by simp) rfl fun h3 n3 x3 g3 => Wops_run rfl rfl (K_fin [(4, _), (5, _), (6, _)] rfl (?_)))))
  exact K_ret (Told.mk _ (resL_cons rfl (resL_cons (res_c (l := [nilS, nilS]) rfl g3 (by simp [putL]) rfl) (resL_cons rfl rfl))) ⟨rfl, x02.then x3 fun i r => .inr (by omega)⟩)
set_option maxHeartbeats 4000000 in
/-- inst.Export, of a name that is there -/
theorem C13hit {h : Heap} {p : Nat} {d : LD} {r : List Value} {ns : Nat → ByteArray} {nm : ByteArray} (gi : At h p (.cells (d.mc ++ r) 0 false)) (q : Lay h d) (hns : ∀ i, i < d.fs.length → (d.el.drop (i * 3)).take 3 = [.string (ns i), .int .u8 0, .int .u32 (i : Int)]) {j pn pc rn rc : Nat} {pa ra : Option Addr} {ps rs : List Int} (hj : j < d.fs.length) (hne : ∀ i, i < j → (ns i).toList ≠ nm.toList) (heq : (ns j).toList = nm.toList) (ht : (d.ty.drop (d.fs[j] * 2)).take 2 = [.slice pa pn pc, .slice ra rn rc]) (sp : SlA h 1 pa pn pc (ints .u8 ps)) (sr : SlA h 1 ra rn rc (ints .u8 rs)) (hpn : pn ≤ 2) (hrn : rn ≤ 2) :
    Fn Try.prog 13 [ptr p, .string nm] h fun v h' => ∃ pa' pc' ra' rc', v = .tuple ⟨[.int .u32 (j : Int), .agg ⟨[.slice pa' pn pc', .slice ra' rn rc']⟩, .int .i64 0]⟩ ∧ Ext0 h h' ∧ SlA h' 1 pa' pn pc' (ints .u8 ps) ∧ SlA h' 1 ra' rn rc' (ints .u8 rs) := by
  have c3 := q.f3
  obtain ⟨ide, offe, vse, eze, roe, hea, ge, hle, _, hge⟩ := q.se.at q.f0
  have hmx : ∀ r, (d.mc ++ r)[5]? = some (.slice (some ⟨ide, offe, none⟩) d.fs.length d.ec) := fun r => by rw [← hea]; rfl
  obtain ⟨idt, offt, vst, ezt, rot, hta, gt, hlt, _, hgt⟩ := q.st.at (by omega)
  have hmt : ∀ r, (d.mc ++ r)[0]? = some (.slice (some ⟨idt, offt, none⟩) 6 d.tc) := fun r => by rw [← hta]; rfl
  have hf6 : d.fs[j] < 6 := q.f6 _ (List.getElem_mem hj)
  have hfc : (u32s d.fs)[(j : Int).toNat]? = some (.int .u32 (d.fs[j] : Int)) := by simp [u32s, hj]
  have wt : (vst.drop (offt + ((d.fs[j] : Nat) : Int).toNat * 2)).take 2 = [.slice pa pn pc, .slice ra rn rc] := win_k hgt hf6 ht
  refine fnK F13.fok rfl ?_
  refine K_reg (Wops_run rfl rfl (Wops_new fun h1 n1 x1 g1 => Wops_run rfl rfl (K_fin [(0, _), (1, _), (5, _)] rfl (?_))))
  replace g1 : At h1 h.next (.cells [nilS, nilS] 0 false) := g1
  refine K_ss (K_reg (Wops_run rfl rfl (Wops_run rfl rfl (K_fin [(0, _), (1, _), (5, _), (11, _)] rfl (?_)))))
  refine K_scond rfl (fun hc => by cases hc) (fun _ => ?_)
  refine K_sskip (K_reg (Wops_run rfl rfl (Wops_run rfl rfl (Wops_run rfl rfl (Wops_run rfl rfl (K_fin [(1, _), (5, _), (7, _)] rfl (?_)))))))
  have gi1 := gi.ext x1
  refine K_ss (K_reg (Wops_run rfl rfl (Wops_run rfl rfl (Wops_run rfl rfl (Wops_ld (v := .slice (some ⟨ide, offe, none⟩) d.fs.length d.ec) rfl gi1 (by rw [Nat.zero_add]; exact hmx r) (Wops_run rfl rfl (Wops_run rfl rfl (K_fin [(1, _), (5, _), (7, _), (19, _), (20, _), (21, _)] rfl (?_)))))))))
  refine K_sblock ?_
  refine K_loop (fun k e h' => ∃ i : Nat, e = [(1, .string nm), (5, ptr h.next), (7, ptr p), (19, .slice (some ⟨ide, offe, none⟩) d.fs.length d.ec), (20, .int .i64 (d.fs.length : Int)), (21, .int .i64 (i : Int))] ∧ i ≤ j ∧ k = j - i ∧ Ext0 h1 h') ?_ (k := j) ⟨0, rfl, Nat.zero_le _, rfl, Ext.refl _ _⟩
  rintro k e h2 ⟨i, rfl, hi, rfl, x2⟩
  have x02 := x1.trans x2
  refine K_reg (Wops_run rfl rfl (K_fin [(1, _), (5, _), (7, _), (19, _), (20, _), (21, _), (22, _)] rfl (?_)))
  refine K_scond rfl (fun hc => ?_) (fun hc => by have := of_decide_eq_false hc; omega)
  have hin : i < d.fs.length := by omega
  by_cases hij : i < j
  · have hni := hne i hij
    refine K_sskip (K_sblock ?_)
    refine K_reg (Wops_iaV rfl rfl ⟨by omega, by omega⟩ (Wops_ldA rfl (ge.ext x02) (by rw [Int.toNat_natCast]; omega) (win_k hge hin (hns i hin)) (Wops_new fun h3 n3 x3 g3 => ?_)))
    refine Wops_st (l := [.string (ns i), .int .u8 0, .int .u32 (i : Int)]) rfl rfl rfl rfl g3 (by simp) rfl fun h4 n4 x4 g4 => ?_
    replace g4 : At h4 h2.next (.cells [.string (ns i), .int .u8 0, .int .u32 (i : Int)] 0 false) := g4
    have x24 : Ext0 h2 h4 := x3.then x4 fun j r => .inr (by omega)
    refine K_fin [(1, _), (5, _), (7, _), (9, _), (19, _), (20, _), (21, _)] rfl (?_)
    refine K_ss (K_reg (Wops_run rfl rfl (Wops_ld (v := .string (ns i)) rfl g4 rfl (Wops_run rfl rfl (Wops_as (w := .bool true) rfl rfl (congrArg Value.bool (neq_ba hni)) (Wops_run rfl rfl (Wops_skip rfl (Wops_skip rfl (Wops_skip rfl (Wops_run rfl rfl (Wops_run rfl rfl (Wops_skip rfl (Wops_skip rfl (Wops_skip rfl (Wops_skip rfl (Wops_skip rfl (Wops_skip rfl (Wops_skip rfl (Wops_skip rfl (Wops_skip rfl (Wops_skip rfl (Wops_run rfl rfl (Wops_run rfl rfl (Wops_skip rfl (Wops_skip rfl (Wops_skip rfl (Wops_skip rfl (Wops_skip rfl (Wops_skip rfl (Wops_skip rfl (Wops_skip rfl (Wops_skip rfl (Wops_skip rfl (Wops_skip rfl (Wops_skip rfl (Wops_skip rfl (Wops_skip rfl (Wops_skip rfl (Wops_skip rfl (Wops_run rfl rfl (K_fin [(1, _), (5, _), (7, _), (9, _), (19, _), (20, _), (21, _), (63, _)] rfl (?_))))))))))))))))))))))))))))))))))))))))))
    refine K_scond rfl (fun _ => ?_) (fun hc => by cases hc)
    refine K_sexit (bx_same ?_)
    refine K_last (Wops_run rfl rfl (Wops_run rfl rfl (K_finL [(1, _), (5, _), (7, _), (19, _), (20, _), (21, _)] rfl (?_))))
    exact ⟨j - (i + 1), by omega, i + 1, by rw [w64s (by omega)], by omega, rfl, x2.trans x24⟩
  obtain rfl : i = j := by omega
  refine K_sskip (K_sblock ?_)
  refine K_reg (Wops_iaV rfl rfl ⟨by omega, by omega⟩ (Wops_ldA rfl (ge.ext x02) (by rw [Int.toNat_natCast]; omega) (win_k hge hin (hns i hin)) (Wops_new fun h3 n3 x3 g3 => ?_)))
  refine Wops_st (l := [.string (ns i), .int .u8 0, .int .u32 (i : Int)]) rfl rfl rfl rfl g3 (by simp) rfl fun h4 n4 x4 g4 => ?_
  replace g4 : At h4 h2.next (.cells [.string (ns i), .int .u8 0, .int .u32 (i : Int)] 0 false) := g4
  have x24 : Ext0 h2 h4 := x3.then x4 fun j r => .inr (by omega)
  refine K_fin [(1, _), (5, _), (7, _), (9, _), (19, _), (20, _), (21, _)] rfl (?_)
  have x04 := x02.trans x24
  have gi4 := gi.ext x04
  have hmf : (d.mc ++ r)[0 + 1]? = some (.slice d.fa d.fs.length d.fc) := rfl
  refine K_ss (K_reg (Wops_run rfl rfl (Wops_ld (v := .string (ns i)) rfl g4 rfl (Wops_run rfl rfl (Wops_as (w := .bool false) rfl rfl (by rw [eq_ba heq]; rfl) (Wops_run rfl rfl (Wops_go rfl (Wops_run rfl rfl (Wops_go rfl (Wops_ld (v := .int .u8 0) rfl g4 rfl (Wops_go rfl (Wops_as (w := .bool false) rfl rfl rfl (Wops_run rfl rfl (Wops_run rfl rfl (Wops_go rfl (Wops_run rfl rfl (Wops_go rfl (Wops_ld (v := .int .u32 (i : Int)) rfl g4 rfl (Wops_go rfl (Wops_run rfl rfl (Wops_go rfl (Wops_run rfl rfl (Wops_go rfl (Wops_run rfl rfl (Wops_go rfl (Wops_run rfl rfl (Wops_go rfl (Wops_ld (v := .slice d.fa d.fs.length d.fc) rfl gi4 hmf (Wops_go rfl (Wops_run rfl rfl (Wops_go rfl (Wops_run rfl rfl (Wops_go rfl (Wops_as (w := .bool false) rfl rfl (by rw [wu64 (by omega), wu64 (by omega), decide_eq_false (by omega)]) (Wops_run rfl rfl (Wops_run rfl rfl (Wops_go rfl (Wops_run rfl rfl (Wops_go rfl (Wops_run rfl rfl (Wops_go rfl (Wops_run rfl rfl (Wops_go rfl (Wops_ld (v := .slice d.fa d.fs.length d.fc) rfl gi4 hmf (Wops_go rfl (Wops_run rfl rfl (Wops_go rfl (Wops_ld (v := .int .u32 (i : Int)) rfl g4 rfl (?_)))))))))))))))))))))))))))))))))))))))))))))))))
  obtain ⟨idf, offf, vsf, ezf, rof, hfa, gf, hlf, _, hgf⟩ := q.sf.at q.f0
  have hfv : vsf[offf + (i : Int).toNat * 1]? = some (.int .u32 (d.fs[i] : Int)) := by rw [Nat.mul_one, hgf _ (by rw [Int.toNat_natCast]; omega)]; exact hfc
  rw [hfa]
  refine Wops_go rfl (Wops_iaV rfl rfl ⟨by omega, by omega⟩ (Wops_go rfl (Wops_ld rfl (gf.ext x04) hfv (Wops_go rfl (Wops_run rfl rfl (Wops_go rfl (Wops_run rfl rfl (Wops_go rfl (Wops_run rfl rfl (Wops_go rfl (Wops_run rfl rfl (Wops_go rfl (Wops_ld (v := .slice (some ⟨idt, offt, none⟩) 6 d.tc) rfl gi4 (by rw [Nat.zero_add]; exact hmt r) (Wops_go rfl (Wops_run rfl rfl (Wops_go rfl (Wops_run rfl rfl (Wops_go rfl (Wops_as (w := .bool false) rfl rfl (by rw [wu64 (by omega), wu64 (by omega), decide_eq_false (by omega)]) (Wops_run rfl rfl (K_fin [(1, _), (5, _), (7, _), (9, _), (19, _), (20, _), (21, _), (63, _)] rfl (?_))))))))))))))))))))))
  refine K_scond rfl (fun hc => by cases hc) (fun _ => ?_)
  rw [hfa] at hmf
  refine K_sskip (K_reg (Wops_run rfl rfl (Wops_run rfl rfl (Wops_run rfl rfl (Wops_ld (v := .slice (some ⟨idt, offt, none⟩) 6 d.tc) rfl gi4 (by rw [Nat.zero_add]; exact hmt r) (Wops_run rfl rfl (Wops_run rfl rfl (Wops_run rfl rfl (Wops_ld (v := .slice (some ⟨idf, offf, none⟩) d.fs.length d.fc) rfl gi4 hmf (Wops_run rfl rfl (Wops_ld (v := .int .u32 (i : Int)) rfl g4 rfl (Wops_iaV rfl rfl ⟨by omega, by omega⟩ (Wops_ld rfl (gf.ext x04) hfv (Wops_iaV rfl rfl ⟨by omega, by omega⟩ (Wops_ldA rfl (gt.ext x04) (by rw [Int.toNat_natCast]; omega) wt (Wops_st (l := [.slice pa pn pc, .slice ra rn rc]) rfl rfl rfl rfl (g1.ext (x2.trans x24)) (by simp) rfl fun h5 n5 x5 g5 => (?_)))))))))))))))))
  replace g5 : At h5 h.next (.cells [.slice pa pn pc, .slice ra rn rc] 0 false) := g5
  refine K_fin [(5, _), (9, _)] rfl (?_)
  have z04 := x04.next
  have g45 := g4.ext x5 fun r => by have := x2.next; omega
  have x05 : Ext0 h h5 := x04.then x5 fun i r => .inr (by omega)
  refine K_reg (Wops_run rfl rfl (Wops_ld (v := .int .u32 (i : Int)) rfl g45 rfl (Wops_run rfl rfl (Wops_ld (v := .slice pa pn pc) rfl g5 rfl (Wops_run rfl rfl (Wops_ld (v := .slice ra rn rc) rfl g5 rfl (Wops_call rfl (C30 (sp.ext x05) (ints_cell _ _) (by omega)) (?_))))))))
  rintro _ h6 ⟨pa', pc', rfl, o6, x6, b6⟩
  refine Wops_chk rfl rfl (g45.ext x6) (v := .int .u32 (i : Int)) rfl (by simp [sameV, sameCell]) (Wops_chk rfl rfl (g5.ext x6) (v := .slice ra rn rc) rfl (sr.ext x05).same (Wops_call rfl (C30 (sr.ext (x05.trans x6)) (ints_cell _ _) (by omega)) ?_))
  rintro _ h7 ⟨ra', rc', rfl, o7, x7, b7⟩
  refine Wops_chk rfl rfl ((g45.ext x6).ext x7) (v := .int .u32 (i : Int)) rfl (by simp [sameV, sameCell]) (Wops_run rfl rfl (Wops_run rfl rfl ?_))
  have z5 := x5.next
  have z6 := x6.next
  have zz : h.next < h5.next := by have := x2.next; have := x24.next; omega
  refine Wops_st (l := [.slice pa' pn pc', .slice ra' rn rc']) rfl rfl rfl rfl ((g5.ext x6).ext x7) (by simp) rfl fun h8 n8 x8 g8 => ?_
  replace g8 : At h8 h.next (.cells [.slice pa' pn pc', .slice ra' rn rc'] 0 false) := g8
  refine Wops_run rfl rfl (K_fin [(4, _), (5, _), (6, _)] rfl (?_))
  refine K_ret (Told.mk _ (resL_cons rfl (resL_cons (res_c (l := [.slice pa' pn pc', .slice ra' rn rc']) rfl g8 (by simp) rfl) (resL_cons rfl rfl))) ⟨pa', pc', ra', rc', rfl, ((x05.trans x6).trans x7).then x8 fun i r => .inr (by omega), ((o6.ext x7).ext x8 fun i r e => by have := b6 i r; omega).sl, (o7.ext x8 fun i r e => by have := b7 i r; omega).sl⟩)
set_option maxHeartbeats 4000000 in
/-- ref13.Export, of a name that is not there -/
theorem C14miss {h : Heap} {p : Nat} {d : LD} {r : List Value} {ns : Nat → ByteArray} {nm : ByteArray} (gi : At h p (.cells (d.mc ++ r) 0 false)) (q : Lay h d) (hns : ∀ i, i < d.fs.length → (d.el.drop (i * 3)).take 3 = [.string (ns i), .int .u8 0, .int .u32 (i : Int)]) (hne : ∀ i, i < d.fs.length → (ns i).toList ≠ nm.toList) :
    Fn Try.prog 14 [ptr p, .string nm] h fun v h' => v = .tuple ⟨[.int .u32 0, .agg ⟨[nilS, nilS]⟩, .int .i64 10]⟩ ∧ Ext0 h h' := by
  have c3 := q.f3
  obtain ⟨ide, offe, vse, eze, roe, hea, ge, hle, _, hge⟩ := q.se.at q.f0
  have hmx : ∀ r, (d.mc ++ r)[5]? = some (.slice (some ⟨ide, offe, none⟩) d.fs.length d.ec) := fun r => by rw [← hea]; rfl
  refine fnK F14.fok rfl ?_
  refine K_reg (Wops_run rfl rfl (Wops_new fun h1 n1 x1 g1 => Wops_run rfl rfl (K_fin [(0, _), (1, _), (5, _)] rfl (?_))))
  replace g1 : At h1 h.next (.cells [nilS, nilS] 0 false) := g1
  refine K_ss (K_reg (Wops_run rfl rfl (K_fin [(0, _), (1, _), (5, _), (7, _)] rfl (?_))))
  refine K_sblock ?_
  refine K_loop (fun k e h' => ∃ i : Nat, e = [(0, ptr p), (1, .string nm), (5, ptr h.next), (7, .int .i64 (i : Int))] ∧ i ≤ d.fs.length ∧ k = d.fs.length - i ∧ Ext0 h1 h') ?_ (k := d.fs.length) ⟨0, rfl, Nat.zero_le _, rfl, Ext.refl _ _⟩
  rintro k e h2 ⟨i, rfl, hi, rfl, x2⟩
  have x02 := x1.trans x2
  have gi2 := gi.ext x02
  refine K_ss (K_reg (Wops_run rfl rfl (Wops_run rfl rfl (Wops_run rfl rfl (Wops_go rfl (Wops_run rfl rfl (Wops_go rfl (Wops_run rfl rfl (Wops_go rfl (Wops_run rfl rfl (Wops_go rfl (Wops_run rfl rfl (Wops_go rfl (Wops_run rfl rfl (Wops_go rfl (Wops_ld (v := .slice (some ⟨ide, offe, none⟩) d.fs.length d.ec) rfl gi2 (by rw [Nat.zero_add]; exact hmx r) (Wops_go rfl (Wops_run rfl rfl (Wops_go rfl (Wops_run rfl rfl (Wops_run rfl rfl (K_fin [(0, _), (1, _), (5, _), (7, _), (20, _)] rfl (?_)))))))))))))))))))))))
  refine K_scond rfl (fun hc => ?_) (fun hc => ?_)
  · have hin : i < d.fs.length := by have := of_decide_eq_true hc; omega
    have hni := hne i hin
    refine K_sskip (K_sblock ?_)
    refine K_reg (Wops_run rfl rfl (Wops_run rfl rfl (Wops_run rfl rfl (Wops_run rfl rfl (Wops_ld (v := .slice (some ⟨ide, offe, none⟩) d.fs.length d.ec) rfl gi2 (by rw [Nat.zero_add]; exact hmx r) (Wops_run rfl rfl (Wops_iaV rfl rfl ⟨by omega, by omega⟩ (Wops_ldA rfl (ge.ext x02) (by rw [Int.toNat_natCast]; omega) (win_k hge hin (hns i hin)) (Wops_new fun h3 n3 x3 g3 => ?_)))))))))
    refine Wops_st (l := [.string (ns i), .int .u8 0, .int .u32 (i : Int)]) rfl rfl rfl rfl g3 (by simp) rfl fun h4 n4 x4 g4 => ?_
    replace g4 : At h4 h2.next (.cells [.string (ns i), .int .u8 0, .int .u32 (i : Int)] 0 false) := g4
    have x24 : Ext0 h2 h4 := x3.then x4 fun j r => .inr (by omega)
    refine K_fin [(0, _), (1, _), (5, _), (7, _), (8, _)] rfl (?_)
    refine K_reg (Wops_run rfl rfl (Wops_ld (v := .int .u8 0) rfl g4 rfl (Wops_as (w := .bool true) rfl rfl rfl (Wops_run rfl rfl (Wops_go rfl (Wops_run rfl rfl (Wops_go rfl (Wops_ld (v := .string (ns i)) rfl g4 rfl (Wops_go rfl (Wops_run rfl rfl (Wops_go rfl (Wops_as (w := .bool false) rfl rfl (congrArg Value.bool (ne_ba hni)) (Wops_run rfl rfl (K_fin [(0, _), (1, _), (5, _), (7, _), (8, _), (39, _)] rfl (?_)))))))))))))))
    refine K_cond rfl (fun hc => by cases hc) (fun _ => K_skip ?_)
    refine K_last (Wops_run rfl rfl (Wops_run rfl rfl (Wops_run rfl rfl (K_finL [(0, _), (1, _), (5, _), (7, _)] rfl (?_)))))
    exact ⟨d.fs.length - (i + 1), by omega, i + 1, by rw [w64s (by omega)], by omega, rfl, x2.trans x24⟩
  refine K_sexit (bx_same ?_)
  have g12 := g1.ext x2
  refine K_reg (Wops_run rfl rfl (Wops_run rfl rfl (Wops_st (l := [nilS, nilS]) rfl rfl rfl rfl g12 (by simp) rfl fun h3 n3 x3 g3 => Wops_run rfl rfl (K_fin [(4, _), (5, _), (6, _)] rfl (?_)))))
  exact K_ret (Told.mk _ (resL_cons rfl (resL_cons (res_c (l := [nilS, nilS]) rfl g3 (by simp [putL]) rfl) (resL_cons rfl rfl))) ⟨rfl, x02.then x3 fun i r => .inr (by omega)⟩)
set_option maxHeartbeats 4000000 in
/-- ref13.Export, of a name that is there -/
theorem C14hit {h : Heap} {p : Nat} {d : LD} {r : List Value} {ns : Nat → ByteArray} {nm : ByteArray} (gi : At h p (.cells (d.mc ++ r) 0 false)) (q : Lay h d) (hns : ∀ i, i < d.fs.length → (d.el.drop (i * 3)).take 3 = [.string (ns i), .int .u8 0, .int .u32 (i : Int)]) {j pn pc rn rc : Nat} {pa ra : Option Addr} {ps rs : List Int} (hj : j < d.fs.length) (hne : ∀ i, i < j → (ns i).toList ≠ nm.toList) (heq : (ns j).toList = nm.toList) (ht : (d.ty.drop (d.fs[j] * 2)).take 2 = [.slice pa pn pc, .slice ra rn rc]) (sp : SlA h 1 pa pn pc (ints .u8 ps)) (sr : SlA h 1 ra rn rc (ints .u8 rs)) (hpn : pn ≤ 2) (hrn : rn ≤ 2) :
    Fn Try.prog 14 [ptr p, .string nm] h fun v h' => ∃ pa' pc' ra' rc', v = .tuple ⟨[.int .u32 (j : Int), .agg ⟨[.slice pa' pn pc', .slice ra' rn rc']⟩, .int .i64 0]⟩ ∧ Ext0 h h' ∧ SlA h' 1 pa' pn pc' (ints .u8 ps) ∧ SlA h' 1 ra' rn rc' (ints .u8 rs) := by
  have c3 := q.f3
  obtain ⟨ide, offe, vse, eze, roe, hea, ge, hle, _, hge⟩ := q.se.at q.f0
  have hmx : ∀ r, (d.mc ++ r)[5]? = some (.slice (some ⟨ide, offe, none⟩) d.fs.length d.ec) := fun r => by rw [← hea]; rfl
  obtain ⟨idt, offt, vst, ezt, rot, hta, gt, hlt, _, hgt⟩ := q.st.at (by omega)
  have hmt : ∀ r, (d.mc ++ r)[0]? = some (.slice (some ⟨idt, offt, none⟩) 6 d.tc) := fun r => by rw [← hta]; rfl
  have hf6 : d.fs[j] < 6 := q.f6 _ (List.getElem_mem hj)
  have hfc : (u32s d.fs)[(j : Int).toNat]? = some (.int .u32 (d.fs[j] : Int)) := by simp [u32s, hj]
  have wt : (vst.drop (offt + ((d.fs[j] : Nat) : Int).toNat * 2)).take 2 = [.slice pa pn pc, .slice ra rn rc] := win_k hgt hf6 ht
  refine fnK F14.fok rfl ?_
  refine K_reg (Wops_run rfl rfl (Wops_new fun h1 n1 x1 g1 => Wops_run rfl rfl (K_fin [(0, _), (1, _), (5, _)] rfl (?_))))
  replace g1 : At h1 h.next (.cells [nilS, nilS] 0 false) := g1
  refine K_ss (K_reg (Wops_run rfl rfl (K_fin [(0, _), (1, _), (5, _), (7, _)] rfl (?_))))
  refine K_sblock ?_
  refine K_loop (fun k e h' => ∃ i : Nat, e = [(0, ptr p), (1, .string nm), (5, ptr h.next), (7, .int .i64 (i : Int))] ∧ i ≤ j ∧ k = j - i ∧ Ext0 h1 h') ?_ (k := j) ⟨0, rfl, Nat.zero_le _, rfl, Ext.refl _ _⟩
  rintro k e h2 ⟨i, rfl, hi, rfl, x2⟩
  have x02 := x1.trans x2
  have gi2 := gi.ext x02
  refine K_ss (K_reg (Wops_run rfl rfl (Wops_run rfl rfl (Wops_run rfl rfl (Wops_go rfl (Wops_run rfl rfl (Wops_go rfl (Wops_run rfl rfl (Wops_go rfl (Wops_run rfl rfl (Wops_go rfl (Wops_run rfl rfl (Wops_go rfl (Wops_run rfl rfl (Wops_go rfl (Wops_ld (v := .slice (some ⟨ide, offe, none⟩) d.fs.length d.ec) rfl gi2 (by rw [Nat.zero_add]; exact hmx r) (Wops_go rfl (Wops_run rfl rfl (Wops_go rfl (Wops_run rfl rfl (Wops_run rfl rfl (K_fin [(0, _), (1, _), (5, _), (7, _), (20, _)] rfl (?_)))))))))))))))))))))))
  refine K_scond rfl (fun hc => ?_) (fun hc => by have := of_decide_eq_false hc; omega)
  have hin : i < d.fs.length := by omega
  by_cases hij : i < j
  · have hni := hne i hij
    refine K_sskip (K_sblock ?_)
    refine K_reg (Wops_run rfl rfl (Wops_run rfl rfl (Wops_run rfl rfl (Wops_run rfl rfl (Wops_ld (v := .slice (some ⟨ide, offe, none⟩) d.fs.length d.ec) rfl gi2 (by rw [Nat.zero_add]; exact hmx r) (Wops_run rfl rfl (Wops_iaV rfl rfl ⟨by omega, by omega⟩ (Wops_ldA rfl (ge.ext x02) (by rw [Int.toNat_natCast]; omega) (win_k hge hin (hns i hin)) (Wops_new fun h3 n3 x3 g3 => ?_)))))))))
    refine Wops_st (l := [.string (ns i), .int .u8 0, .int .u32 (i : Int)]) rfl rfl rfl rfl g3 (by simp) rfl fun h4 n4 x4 g4 => ?_
    replace g4 : At h4 h2.next (.cells [.string (ns i), .int .u8 0, .int .u32 (i : Int)] 0 false) := g4
    have x24 : Ext0 h2 h4 := x3.then x4 fun j r => .inr (by omega)
    refine K_fin [(0, _), (1, _), (5, _), (7, _), (8, _)] rfl (?_)
    refine K_reg (Wops_run rfl rfl (Wops_ld (v := .int .u8 0) rfl g4 rfl (Wops_as (w := .bool true) rfl rfl rfl (Wops_run rfl rfl (Wops_go rfl (Wops_run rfl rfl (Wops_go rfl (Wops_ld (v := .string (ns i)) rfl g4 rfl (Wops_go rfl (Wops_run rfl rfl (Wops_go rfl (Wops_as (w := .bool false) rfl rfl (congrArg Value.bool (ne_ba hni)) (Wops_run rfl rfl (K_fin [(0, _), (1, _), (5, _), (7, _), (8, _), (39, _)] rfl (?_)))))))))))))))
    refine K_cond rfl (fun hc => by cases hc) (fun _ => K_skip ?_)
    refine K_last (Wops_run rfl rfl (Wops_run rfl rfl (Wops_run rfl rfl (K_finL [(0, _), (1, _), (5, _), (7, _)] rfl (?_)))))
    exact ⟨j - (i + 1), by omega, i + 1, by rw [w64s (by omega)], by omega, rfl, x2.trans x24⟩
  obtain rfl : i = j := by omega
  refine K_sskip (K_sblock ?_)
  refine K_reg (Wops_run rfl rfl (Wops_run rfl rfl (Wops_run rfl rfl (Wops_run rfl rfl (Wops_ld (v := .slice (some ⟨ide, offe, none⟩) d.fs.length d.ec) rfl gi2 (by rw [Nat.zero_add]; exact hmx r) (Wops_run rfl rfl (Wops_iaV rfl rfl ⟨by omega, by omega⟩ (Wops_ldA rfl (ge.ext x02) (by rw [Int.toNat_natCast]; omega) (win_k hge hin (hns i hin)) (Wops_new fun h3 n3 x3 g3 => ?_)))))))))
  refine Wops_st (l := [.string (ns i), .int .u8 0, .int .u32 (i : Int)]) rfl rfl rfl rfl g3 (by simp) rfl fun h4 n4 x4 g4 => ?_
  replace g4 : At h4 h2.next (.cells [.string (ns i), .int .u8 0, .int .u32 (i : Int)] 0 false) := g4
  have x24 : Ext0 h2 h4 := x3.then x4 fun j r => .inr (by omega)
  refine K_fin [(0, _), (1, _), (5, _), (7, _), (8, _)] rfl (?_)
  have x04 := x02.trans x24
  have gi4 := gi.ext x04
  obtain ⟨idf, offf, vsf, ezf, rof, hfa, gf, hlf, _, hgf⟩ := q.sf.at q.f0
  have hfv : vsf[offf + (i : Int).toNat * 1]? = some (.int .u32 (d.fs[i] : Int)) := by rw [Nat.mul_one, hgf _ (by rw [Int.toNat_natCast]; omega)]; exact hfc
  have hmf : (d.mc ++ r)[0 + 1]? = some (.slice (some ⟨idf, offf, none⟩) d.fs.length d.fc) := by rw [← hfa]; rfl
  refine K_reg (Wops_run rfl rfl (Wops_ld (v := .int .u8 0) rfl g4 rfl (Wops_as (w := .bool true) rfl rfl rfl (Wops_run rfl rfl (Wops_go rfl (Wops_run rfl rfl (Wops_go rfl (Wops_ld (v := .string (ns i)) rfl g4 rfl (Wops_go rfl (Wops_run rfl rfl (Wops_go rfl (Wops_as (w := .bool true) rfl rfl (congrArg Value.bool (eq_ba heq)) (Wops_run rfl rfl (K_fin [(0, _), (1, _), (5, _), (7, _), (8, _), (39, _)] rfl (?_)))))))))))))))
  refine K_cond rfl (fun _ => ?_) (fun hc => by cases hc)
  refine K_reg (Wops_run rfl rfl (Wops_ld (v := .int .u32 (i : Int)) rfl g4 rfl (Wops_run rfl rfl (Wops_run rfl rfl (Wops_run rfl rfl (Wops_run rfl rfl (Wops_ld (v := .slice (some ⟨idt, offt, none⟩) 6 d.tc) rfl gi4 (by rw [Nat.zero_add]; exact hmt r) (Wops_run rfl rfl (Wops_run rfl rfl (Wops_run rfl rfl (Wops_run rfl rfl (Wops_ld (v := .slice (some ⟨idf, offf, none⟩) d.fs.length d.fc) rfl gi4 hmf (Wops_run rfl rfl (Wops_ld (v := .int .u32 (i : Int)) rfl g4 rfl (Wops_iaV rfl rfl ⟨by omega, by omega⟩ (Wops_ld rfl (gf.ext x04) hfv (Wops_iaV rfl rfl ⟨by omega, by omega⟩ (Wops_ldA rfl (gt.ext x04) (by rw [Int.toNat_natCast]; omega) wt (Wops_run rfl rfl (Wops_st (l := [.slice pa pn pc, .slice ra rn rc]) rfl rfl rfl rfl (g1.ext (x2.trans x24)) (by simp) rfl fun h5 n5 x5 g5 => (Wops_run rfl rfl (K_fin [(4, _), (5, _), (6, _)] rfl (?_)))))))))))))))))))))))
  replace g5 : At h5 h.next (.cells [.slice pa pn pc, .slice ra rn rc] 0 false) := g5
  have x05 : Ext0 h h5 := x04.then x5 fun i r => .inr (by omega)
  exact K_ret (Told.mk _ (resL_cons rfl (resL_cons (res_c (l := [.slice pa pn pc, .slice ra rn rc]) rfl g5 (by simp) rfl) (resL_cons rfl rfl))) ⟨pa, pc, ra, rc, rfl, x05, sp.ext x05, sr.ext x05⟩)
end Go.Dx.SYtpogcjdenefhlaa
