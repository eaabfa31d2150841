/- FrameCuts: the walk. -/
import Derived.Test.YtocdemagjocggaaFr9
namespace Go.Dx.SYtocdemagjocggaa
open Go.Proofs
set_option linter.unusedVariables false
set_option linter.unusedSimpArgs false

theorem Fs.mono3 {h h1 h2 : Heap} {a b : Option Addr} {i : Nat} (r : Fs h h1 a i) (n : h1.next ≤ h2.next) (hb : Blk b i → Blk a i ∨ h1.next ≤ i) : Fs h h2 b i :=
  ⟨r.1, Nat.lt_of_lt_of_le r.2.1 n, fun s => (hb s).elim r.2.2 fun u => by have := r.2.1; omega⟩

theorem C3 {h : Heap} {a0 b0 : Option Addr} {n0 c0 m0 d0 : Nat} {vs0 : List Value} {ls : List (List Int)} {us : List Int} (s0 : SlA h 1 a0 n0 c0 vs0) (l0 : ∀ i, Blk a0 i → i < h.next) (hb0 : Bys h .u8 (fun i => i < h.next) vs0 ls) (hw0 : ∀ l ∈ ls, Byte l) (s1 : InS h b0 m0 d0 (ints .u8 us)) (hwu : Byte us) :
    Fn Try.prog 3 [.slice a0 n0 c0, .slice b0 m0 d0] h fun v _ => v = .bool true := by
  have hn : ls.length = n0 := by rw [← hb0.length]; simpa using s0.len
  have hm : us.length = m0 := by simpa using s1.sl.len
  refine fnK F3.fok rfl ?_
  refine K_reg (Wops_run rfl rfl (K_fin [(0, _), (1, _)] rfl (?_)))
  refine K_ss (K_reg (Wops_call rfl C15 ?_))
  rintro _ _ ⟨rfl, rfl⟩
  refine Wops_run rfl rfl (K_fin [(0, _), (1, _), (14, _)] rfl (?_))
  refine K_scond rfl (fun hc => by cases hc) (fun _ => ?_)
  refine K_sskip (K_ss (K_reg (Wops_run rfl rfl (Wops_run rfl rfl ?_))))
  by_cases hA : (10 : Int) < n0
  · refine Wops_as (w := .bool true) rfl rfl (by rw [decide_eq_true hA]) (Wops_run rfl rfl (Wops_skip rfl (Wops_skip rfl (Wops_skip rfl (Wops_run rfl rfl (K_fin [(0, _), (1, _), (22, _)] rfl (?_)))))))
    refine K_scond rfl (fun _ => ?_) (fun hc => by cases hc)
    refine K_ss (K_reg (Wops_run rfl rfl (K_fin [(4, _)] rfl (?_))))
    exact K_sret (Told.mk _ rfl rfl)
  refine Wops_as (w := .bool false) rfl rfl (by rw [decide_eq_false hA]) (Wops_run rfl rfl (Wops_go rfl (Wops_run rfl rfl (Wops_go rfl (Wops_run rfl rfl (Wops_go rfl (Wops_run rfl rfl (Wops_run rfl rfl (K_fin [(0, _), (1, _), (22, _)] rfl (?_))))))))))
  refine K_scond rfl (fun hc => ?_) (fun hc => ?_)
  · refine K_ss (K_reg (Wops_run rfl rfl (K_fin [(4, _)] rfl (?_))))
    exact K_sret (Told.mk _ rfl rfl)
  have h60 : m0 ≤ 60 := by have := of_decide_eq_false hc; omega
  clear hc
  refine K_sskip (K_reg (Wops_run rfl rfl (K_fin [(0, _), (1, _), (5, _)] rfl (?_))))
  refine K_ss (K_reg (Wops_run rfl rfl (K_fin [(0, _), (1, _), (5, _), (6, _)] rfl (?_))))
  refine K_sblock ?_
  refine K_loop (fun k e h' => ∃ (i no co : Nat) (ao : Option Addr), e = [(0, .slice a0 n0 c0), (1, .slice b0 m0 d0), (5, .slice ao no co), (6, .int .i64 i)] ∧ i ≤ n0 ∧ k = n0 - i ∧ Ext0 h h' ∧ OwS h' 1 ao no co (ints .u8 (puts (ls.take i))) ∧ (∀ j, Blk ao j → h.next ≤ j) ∧ ∀ l ∈ ls.take i, l.length ≤ 40) ?_ (k := n0) ⟨0, 0, 0, none, rfl, by omega, rfl, Ext.refl _ _, OwS.none, fun j r => absurd r Blk.none, fun l hl => by cases hl⟩
  rintro k e h1 ⟨i, no, co, ao, rfl, hi, rfl, x1, oo, bo, h40⟩
  refine K_ss (K_reg (Wops_run rfl rfl (Wops_run rfl rfl (Wops_run rfl rfl (Wops_run rfl rfl (K_fin [(0, _), (1, _), (5, _), (6, _), (26, _)] rfl (?_)))))))
  refine K_scond rfl (fun hc => ?_) (fun hc => ?_)
  · have hlt : i < n0 := by have := of_decide_eq_true hc; omega
    obtain ⟨a1, m1, c1, hv1, sf, hsf⟩ := hb0.get i (by omega)
    have hm1 : ls[i].length = m1 := by simpa using sf.len
    have s0' := s0.ext x1
    refine K_sskip (K_sblock ?_)
    refine K_ss (K_reg (Wops_run rfl rfl (Wops_run rfl rfl (Wops_idx (u := .slice a1 m1 c1) rfl rfl s0' ⟨by omega, by omega⟩ (by simpa using hv1) fun _ => ?_))))
    refine Wops_run rfl rfl (Wops_run rfl rfl (K_fin [(0, _), (1, _), (5, _), (6, _), (34, _)] rfl (?_)))
    refine K_scond rfl (fun hd => ?_) (fun hd => ?_)
    · refine K_ss (K_reg (Wops_run rfl rfl (K_fin [(4, _)] rfl (?_))))
      exact K_sret (Told.mk _ rfl rfl)
    have hle : m1 ≤ 40 := by have := of_decide_eq_false hd; omega
    have hpl := puts_len (ls.take i) h40
    rw [List.length_take] at hpl
    have hno : (puts (ls.take i)).length = no := by simpa using oo.len
    refine K_sskip (K_last (Wops_run rfl rfl (Wops_run rfl rfl (Wops_run rfl rfl (Wops_idx (u := .slice a1 m1 c1) rfl rfl s0' ⟨by omega, by omega⟩ (by simpa using hv1) fun _ => ?_)))))
    refine Wops_call rfl (C16 (sf.ext x1) (by omega)) ?_
    rintro _ h2 ⟨aw, cw, rfl, ow, xw, lw⟩
    refine Wops_app rfl rfl (oo.ext xw) rfl ow.sl.first ⟨by omega, by omega⟩ ow.len (ints_cell _ _) (by decide) fun h3 a3 c3 x3 o3 b3 => ?_
    refine Wops_run rfl rfl (K_finL [(0, _), (1, _), (5, _), (6, _)] rfl (?_))
    refine K_last (Wops_run rfl rfl (Wops_run rfl rfl (Wops_run rfl rfl (K_finL [(0, _), (1, _), (5, _), (6, _)] rfl (?_)))))
    have e1 := x1.next
    have e2 := xw.next
    have htk : ls.take (i + 1) = ls.take i ++ [ls[i]] := by rw [List.take_add_one, List.getElem?_eq_getElem (by omega)]; rfl
    refine ⟨n0 - (i + 1), by omega, i + 1, no + (2 + m1), c3, a3, by rw [w64s (by omega)], by omega, rfl, (x1.trans xw).then x3 fun j r => .inr (bo j r), ?_, fun j r => (b3 j r).elim (bo j) fun r => by omega, ?_⟩
    · rw [htk, puts_snoc, show ints .u8 (puts (ls.take i) ++ putF ls[i]) = ints .u8 (puts (ls.take i)) ++ ints .u8 (putF ls[i]) by simp [ints]]; exact o3
    · rw [htk]
      intro l hl
      rcases List.mem_append.1 hl with hl | hl
      · exact h40 l hl
      · simp only [List.mem_singleton] at hl; subst hl; omega
  have hin : i = n0 := by have := of_decide_eq_false hc; omega
  subst hin
  rw [List.take_of_length_le (show ls.length ≤ i by omega)] at oo h40
  refine K_sexit (bx_same ?_)
  have hpl := puts_len ls h40
  have hpb := puts_byte ls fun l hl => ⟨hw0 l hl, h40 l hl⟩
  refine K_reg (Wops_call rfl C17 ?_)
  rintro _ h2 ⟨p, rfl, gp, x2, n2⟩
  refine Wops_run rfl rfl (K_fin [(0, _), (1, _), (5, _), (7, _)] rfl (?_))
  refine K_reg (Wops_run rfl rfl (K_fin [(0, _), (1, _), (5, _), (7, _), (8, _)] rfl (?_)))
  refine K_ss (K_reg (Wops_run rfl rfl (K_fin [(0, _), (1, _), (5, _), (7, _), (8, _), (9, _)] rfl (?_))))
  refine K_sblock ?_
  have X2 : Ext0 h h2 := x1.trans x2
  have pl : p < h2.next := gp.lt
  have e2 := x2.next
  have e1 := x1.next
  refine K_loop (fun k e h' => ∃ (i1 nc cc no co : Nat) (ac ao : Option Addr) (cur bs : List Int) (fs : List (List Int)) (vs : List Value), e = [(0, .slice a0 i c0), (1, .slice b0 m0 d0), (5, .slice ac nc cc), (7, ptr p), (8, .slice ao no co), (9, .int .i64 i1)] ∧ i1 ≤ m0 + 1 ∧ (m0 < i1 → cur = []) ∧ k = (m0 - i1) + cur.length ∧
    Ext (fun j => j = p) h2 h' ∧ SlA h' 1 ac nc cc (ints .u8 cur) ∧ (∀ j, Blk ac j → j < h2.next ∧ ¬ j = p) ∧ Pt (fun j => j = p ∨ Blk ao j) h' p bs false ∧ OwS h' 1 ao no co vs ∧ Bys h' .u8 (Fs h2 h' ao) vs fs ∧ (∀ j, Blk ao j → h2.next ≤ j) ∧ Byte bs ∧ Byte cur ∧ bs.length + cur.length ≤ 420 ∧ Cut ls fs bs cur) ?_
    (k := (m0 - 0) + (puts ls).length) ⟨0, _, _, 0, 0, _, none, puts ls, [], [], [], rfl, by omega, fun q => by omega, rfl, Ext.refl _ _, (oo.ext x2).sl, fun j r => ?_, ⟨.inl rfl, none, 0, 0, gp, SlA.none, fun j r => absurd r Blk.none⟩, OwS.none, trivial, fun j r => absurd r Blk.none, fun x hx => (by cases hx), hpb, by simp; omega, Cut.start fun l hl => by have := h40 l hl; omega⟩
  rotate_left
  · have := oo.lt r; omega
  rintro k e h3 ⟨i1, nc, cc, no', co', ac, ao', cur, bs, fs, vs, rfl, hi1, hcur, rfl, x3, sc, lc, qp, oo', bf, bo', wb, wc, hlen, cut⟩
  have hnc : cur.length = nc := by simpa using sc.len
  refine K_ss (K_reg (Wops_run rfl rfl (Wops_run rfl rfl (Wops_run rfl rfl (K_fin [(0, _), (1, _), (5, _), (7, _), (8, _), (9, _), (45, _)] rfl (?_))))))
  refine K_scond rfl (fun hc => ?_) (fun hc => ?_)
  · have hpos : 0 < nc := by have := of_decide_eq_true hc; omega
    have him : i1 ≤ m0 := by
      apply Classical.byContradiction
      intro q
      rw [hcur (by omega)] at hnc; simp at hnc; omega
    have X3 : Ext0 h h3 := X2.then x3 fun j r => .inr (by omega)
    refine K_sskip (K_sblock ?_)
    refine K_reg (Wops_run rfl rfl (Wops_run rfl rfl (Wops_run rfl rfl (K_fin [(0, _), (1, _), (5, _), (7, _), (8, _), (9, _), (10, _)] rfl (?_)))))
    refine K_ss (K_reg (Wops_run rfl rfl (Wops_run rfl rfl (Wops_run rfl rfl (Wops_run rfl rfl (K_fin [(0, _), (1, _), (5, _), (7, _), (8, _), (9, _), (10, _), (53, _)] rfl (?_)))))))
    refine K_join (fun e h' => ∃ n : Nat, n ≤ nc ∧ (i1 < m0 ∨ n = nc) ∧ h3 = h' ∧ ∃ l, e = [(0, .slice a0 i c0), (1, .slice b0 m0 d0), (5, .slice ac nc cc), (7, ptr p), (8, .slice ao' no' co'), (9, .int .i64 i1), (10, .int .i64 n)] ++ l) (K_cond rfl (fun hd => ?_) (fun hd => ?_)) ?_
    · have hlt : i1 < m0 := by have := of_decide_eq_true hd; omega
      have hx := hwu us[i1] (List.getElem_mem _)
      obtain ⟨A, hA, hAe⟩ : ∃ A : Nat, A < 20 ∧ us[i1].tmod 20 = A := by
        have h1 := Int.tmod_nonneg 20 hx.1
        have h2 := Int.tmod_lt_of_pos us[i1] (show (0 : Int) < 20 by omega)
        exact ⟨(us[i1].tmod 20).toNat, by omega, by omega⟩
      refine K_last (Wops_run rfl rfl (Wops_run rfl rfl (Wops_idx (u := .int .u8 us[i1]) rfl rfl (s1.sl.ext X3) ⟨by omega, by omega⟩ (by simp [hm, hlt]) fun _ => ?_)))
      refine Wops_rem rfl rfl (by decide) (Wops_as (w := .int .i64 (A : Int)) rfl rfl (by rw [hAe, w64 (by omega)]) (Wops_run rfl rfl (Wops_run rfl rfl (Wops_as (w := .int .i64 ((min A nc : Nat) : Int)) rfl rfl ?_ ?_))))
      · show Value.int .i64 _ = _
        congr 1
        show (if _ then _ else _) = _
        split <;> omega
      · refine Wops_run rfl rfl (K_finL [(0, _), (1, _), (5, _), (7, _), (8, _), (9, _), (10, _)] rfl (?_))
        exact ⟨min A nc, by omega, .inl hlt, rfl, [], rfl⟩
    · have hge : m0 ≤ i1 := by have := of_decide_eq_false hd; omega
      exact K_skip ⟨nc, Nat.le_refl _, .inr rfl, rfl, _, rfl⟩
    rintro _ _ ⟨n, hnn, hdec, rfl, l, rfl⟩
    have sx := sc.sub (i := 0) (j := n) (by omega) (by omega)
    have sy := sc.sub (i := n) (j := nc) (by omega) (Nat.le_refl _)
    have hX : List.take ((n - 0) * 1) (List.drop (0 * 1) (ints .u8 cur)) = ints .u8 (cur.take n) := by simp [ints, List.map_take]
    have hY : List.take ((nc - n) * 1) (List.drop (n * 1) (ints .u8 cur)) = ints .u8 (cur.drop n) := by
      rw [List.take_of_length_le (by simp; omega)]; simp [ints, List.map_drop]
    rw [hX] at sx
    rw [hY] at sy
    have wx : Byte (cur.take n) := fun x hx => wc x (List.mem_of_mem_take hx)
    have wy : Byte (cur.drop n) := fun x hx => wc x (List.mem_of_mem_drop hx)
    have e3 := x3.next
    obtain ⟨f1, bs', hadd, cut', hf1⟩ := cut.step n
    have hfl := addR_facts false wb wx
    rw [hadd] at hfl
    obtain ⟨hl1, _, wb'⟩ := hfl
    simp only at hl1
    have hlx : (cur.take n).length = n := by rw [List.length_take]; omega
    have hly : (cur.drop n).length = nc - n := by rw [List.length_drop]; omega
    refine K_reg (Wops_run rfl rfl (Wops_run rfl rfl (Wops_run rfl rfl (Wops_slV rfl rfl rfl sc.ok (bounds_hi (i := n) (by omega)) ?_))))
    refine Wops_call rfl (C18' (fun j r => by rcases r with r | r; omega; exact oo'.lt r) qp wb ⟨sx, fun j r => by have := (lc j (shift_blk.1 r)).1; omega⟩ wx (by omega) (by omega)) ?_
    rw [hadd]
    rintro _ h4 ⟨af, nf, cf, vs1, rfl, of, bf1, df, qp', x4⟩
    have e4 := x4.next
    have hnf : f1.length = nf := by rw [← bf1.length]; simpa using of.len
    have hno : fs.length = no' := by rw [← bf.length]; simpa using oo'.len
    refine Wops_run rfl rfl (Wops_run rfl rfl (Wops_run rfl rfl (Wops_run rfl rfl (Wops_run rfl rfl (K_fin [(0, _), (1, _), (5, _), (7, _), (8, _), (9, _), (10, _), (11, _), (12, _)] rfl (?_))))))
    refine K_ss (K_reg (Wops_run rfl rfl (Wops_neq (v := false) rfl rfl rfl (K_fin [(0, _), (1, _), (5, _), (7, _), (8, _), (9, _), (10, _), (11, _), (72, _)] rfl (?_)))))
    refine K_scond rfl (fun hc => by cases hc) (fun _ => ?_)
    have nao : ∀ j, Blk ao' j → ¬ j = p := fun j r e => by have := bo' j r; omega
    have nac : ∀ j, Blk ac j → ¬ j = p := fun j r => (lc j r).2
    have oo4 := oo'.ext x4 nao
    have sc4 := sc.ext x4 nac
    have hgs : fs.length + f1.length ≤ ls.length := by
      obtain ⟨_, gs, _, q⟩ := cut'
      rw [← q]; simp only [List.length_append]; omega
    refine K_sskip (K_last (Wops_run rfl rfl (Wops_run rfl rfl (Wops_run rfl rfl (Wops_run rfl rfl (Wops_slV rfl rfl rfl sc4.ok (bounds_lo (i := n) (by omega)) ?_))))))
    refine Wops_app rfl rfl oo4 rfl of.first ⟨by omega, by omega⟩ of.len bf1.cell (by decide) fun h5 a5 c5 x5 o5 b5 => ?_
    have ac5 : ∀ j, Blk ac j → ¬ Blk ao' j := fun j r s => by have := (lc j r).1; have := bo' j s; omega
    have sc5 := sc4.ext x5 ac5
    have sy5 := (sy.ext x4 fun j r => nac j (shift_blk.1 r)).ext x5 fun j r => ac5 j (shift_blk.1 r)
    refine Wops_chkV rfl rfl rfl rfl sc5.ok (bounds_lo (i := n) (by omega)) sy5.same ?_
    refine Wops_run rfl rfl (Wops_run rfl rfl (K_finL [(0, _), (1, _), (5, _), (7, _), (8, _), (9, _)] rfl (?_)))
    refine K_last (Wops_run rfl rfl (Wops_run rfl rfl (Wops_run rfl rfl (K_finL [(0, _), (1, _), (5, _), (7, _), (8, _), (9, _)] rfl (?_)))))
    have e5 := x5.next
    refine ⟨(m0 - (i1 + 1)) + (cur.drop n).length, ?_, i1 + 1, _, cc, no' + nf, c5, _, a5, cur.drop n, bs', fs ++ f1, vs ++ vs1, by rw [w64s (by omega)], by omega, fun q => ?_, rfl, ?_, sy5, fun j r => lc j (shift_blk.1 r), ?_, o5, ?_, fun j r => (b5 j r).elim (bo' j) fun r => by omega, wb', wy, by omega, cut'⟩
    · rw [hly]; omega
    · rw [List.drop_eq_nil_iff]; omega
    · exact (x3.trans x4).then x5 fun j r => .inr (bo' j r)
    · obtain ⟨_, aq, nq, cq, g1, g2, g3⟩ := qp'
      refine ⟨.inl rfl, aq, nq, cq, g1.ext x5 (fun r => nao p r rfl), g2.ext x5 (fun j r t => (g3 j r).1 (.inr t)), fun j r => ⟨fun s => ?_, by have := (g3 j r).2; omega⟩⟩
      have := (g3 j r).2
      rcases s with s | s
      · exact (g3 j r).1 (.inl s)
      · exact (b5 j s).elim (fun u => (g3 j r).1 (.inr u)) fun u => by omega
    · refine Bys.append ?_ ?_
      · refine ((bf.ext x4 fun j r e => by have := r.1; have e : j = p := e; omega).ext x5 fun j r => r.2.2).mono fun j r => r.mono3 (by omega) fun s => (b5 j s).imp id fun u => by omega
      · refine (bf1.ext x5 fun j r s => by have := oo'.lt s; have := r.1; omega).mono fun j r => ⟨by have := r.1; omega, by have := r.2; omega, fun s => ?_⟩
        rcases b5 j s with u | u
        · have := oo'.lt u; have := r.1; omega
        · have := r.2; omega
  · have h0 : nc = 0 := by have := of_decide_eq_false hc; omega
    have hcn : cur = [] := List.eq_nil_of_length_eq_zero (by omega)
    subst hcn
    obtain ⟨rfl, rfl⟩ := cut.stop
    have X3 : Ext0 h h3 := X2.then x3 fun j r => .inr (by omega)
    refine K_sexit (bx_same ?_)
    have hno : fs.length = no' := by rw [← bf.length]; simpa using oo'.len
    refine K_reg (Wops_run rfl rfl (Wops_run rfl rfl ?_))
    refine Wops_call rfl (C19 (S := fun _ => True) oo'.sl (s0.ext X3) (bf.mono fun _ _ => trivial) ((hb0.ext X3 fun _ _ q => q).mono fun _ _ => trivial) hw0 hw0 (by omega)) ?_
    rintro _ _ ⟨rfl, rfl⟩
    rw [decide_eq_true rfl]
    refine Wops_run rfl rfl (Wops_go rfl (Wops_run rfl rfl (Wops_go rfl (Wops_call rfl (C20 qp) ?_))))
    rintro _ _ ⟨rfl, rfl⟩
    refine Wops_go rfl (Wops_run rfl rfl (Wops_run rfl rfl (Wops_run rfl rfl (K_fin [(4, _)] rfl (?_)))))
    exact K_ret (Told.mk _ rfl rfl)
theorem rows_bys {b : Base} {N : Nat} (h0 : 0 < N) (hd : ∀ id l, b id = some l → id < N) (hb : b 0 = none) {G : List Value → Prop} (hG : ∀ cs, G cs → ∃ a n c xs, cs = [.slice a n c] ∧ InS (heapIn b N) a n c (ints .u8 xs) ∧ Byte xs) :
    ∀ {n : Nat} {l : List Value}, Rows G 1 n l → ∃ ls : List (List Int), Bys (heapIn b N) .u8 (fun i => i < (heapIn b N).next) l ls ∧ ∀ f ∈ ls, Byte f
  | _, _, .nil => ⟨[], trivial, fun f hf => by cases hf⟩
  | _, _, .cons c l n h1 h2 h3 => by
    obtain ⟨a, m, cc, xs, rfl, s, w⟩ := hG c h2
    obtain ⟨ls, q1, q2⟩ := rows_bys h0 hd hb hG h3
    refine ⟨xs :: ls, ⟨⟨a, m, cc, rfl, s.sl, s.lt⟩, q1⟩, fun f hf => ?_⟩
    rcases List.mem_cons.1 hf with rfl | hf
    · exact w
    · exact q2 f hf
set_option maxRecDepth 100000 in
theorem frameCuts_fn {b : Base} {N : Nat} {vs : List Value} (h0 : 0 < N) (hd : ∀ id l, b id = some l → id < N) (hb : b 0 = none) (hG : ArgsG Try.prog b 4 [22, 23] vs) : Fn Try.prog 3 vs (heapIn b N) fun v _ => v = .bool true := by
  obtain ⟨v, r, rfl, g, hr⟩ := ArgsG_cons hG
  obtain ⟨v2, r2, rfl, g2, hr2⟩ := ArgsG_cons hr
  obtain rfl := ArgsG_nil hr2
  obtain ⟨a, n, c, l, hv, s, hR, hn, hl⟩ := GV_slice h0 hd hb Try.underlying22 (GA_slice Try.underlying22 g)
  obtain rfl : v = .slice a n c := by simpa using hv
  rw [cells23] at s hR
  obtain ⟨a2, n2, c2, us, hv2, s2, _, hw2⟩ := GV_ints h0 hd hb Try.underlying23 Try.underlying5 cells5 (GA_slice Try.underlying23 g2)
  obtain rfl : v2 = .slice a2 n2 c2 := by simpa using hv2
  obtain ⟨ls, q1, q2⟩ := rows_bys h0 hd hb (fun cs hc => by
    obtain ⟨a1, n1, c1', xs, rfl, s1, _, hw⟩ := GV_ints h0 hd hb Try.underlying23 Try.underlying5 cells5 hc
    exact ⟨a1, n1, c1', xs, rfl, s1, fun x hx => wf_u8 (hw x hx)⟩) hR
  exact C3 s hl q1 q2 s2 fun x hx => wf_u8 (hw2 x hx)
end Go.Dx.SYtocdemagjocggaa
