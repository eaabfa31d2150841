/- Instances with one table: their parts, Same, Copy. -/
import Derived.Test.YtpogcjdenefhlaaMd8
namespace Go.Dx
set_option linter.unusedVariables false
theorem OwS.set1 {h2 : Heap} {id off n c i : Nat} {vs l : List Value} {u : Value} (w : (vs.drop off).take n = l) (hb : off + n ≤ vs.length) (hi : i < n) (g : At h2 id (.cells (putL vs (off + i) [u]) 1 false)) : OwS h2 1 (some ⟨id, off, .none⟩) n c (l.set i u) := by
  have hp : putL vs (off + i) [u] = vs.set (off + i) u := by simp [putL]
  rw [hp] at g
  refine ⟨?_, .inr ⟨id, off, _, rfl, g, by simp; omega, ?_⟩⟩
  · rw [List.length_set, ← w, List.length_take, List.length_drop]; omega
  · rw [Nat.mul_one, List.drop_set, if_neg (by omega), show off + i - off = i by omega, List.take_set, w]
section
variable {P : Program} {r : List SOp} {e : Env} {h : Heap} {Q : Env → Heap → Prop}
/-- x[i] = y, of elements of one cell, in a block of one's own. -/
theorem Wops_put1 {n c t : Nat} {d2 : Option Nat} {x i y : Arg} {a : Option Addr} {l : List Value} {k : IntKind} {j : Int} {u : Value} (hx : x.ev e = some (.slice a n c)) (hi : i.ev e = some (.int k j)) (o : OwS h 1 a n c l) (hj : 0 ≤ j ∧ j < n)
    (hy : ∀ p, y.ev (Env.put e (some t) p) = some u) (hu : u.cells.toList = [u]) (hc : isCell u = true)
    (hq : ∀ p h2, h2.next = h.next → Ext (Blk a) h h2 → OwS h2 1 a n c (l.set j.toNat u) → Wops P r (Env.put (Env.put e (some t) p) d2 undefV) h2 Q) : Wops P (⟨some t, .none, .iaV 1 x i⟩ :: ⟨d2, .none, .st 1 (.t t) y⟩ :: r) e h Q := by
  rcases o.ex with ⟨rfl, rfl, rfl⟩ | ⟨id, off, vs, rfl, h2, h3, h4⟩
  · omega
  rw [Nat.mul_one] at h3 h4
  refine Wops_iaV hx hi hj (Wops_st (l := [u]) (off := off + j.toNat * 1) (id := id) (by simp [Arg.ev, Env.put, Env.get]) (hy _) hu rfl h2 (by omega) (by simp [hc]) fun h5 n5 x5 g5 => ?_)
  rw [Nat.mul_one] at g5
  exact hq _ h5 n5 (x5.mono fun q _ r => Blk.some.2 r.symm) (OwS.set1 h4 h3 (by omega) g5)
end
end Go.Dx
namespace Go.Dx.SYtpogcjdenefhlaa
open Go.Proofs
set_option linter.unusedVariables false
set_option linter.unusedSimpArgs false

/-- slices.Clone of tables -/
theorem C33 {h : Heap} {a : Option Addr} {n c : Nat} {l : List Value} (s : SlA h 1 a n c l) (hc : l.all isCell = true) (hb : n ≤ 1000000) :
    Fn Try.prog 33 [.slice a n c] h fun v h' => ∃ a' c', v = .slice a' n c' ∧ OwS h' 1 a' n c' l ∧ Ext0 h h' ∧ ∀ i, Blk a' i → h.next ≤ i := by
  refine fnK F33.fok rfl ?_
  refine K_reg (Wops_run rfl rfl (K_fin [(0, _)] rfl (?_)))
  cases a with
  | none =>
    obtain ⟨rfl, rfl⟩ := s.nil rfl
    obtain rfl : l = [] := List.eq_nil_of_length_eq_zero (by simpa using s.len)
    refine K_ss (K_reg (Wops_run rfl rfl (Wops_run rfl rfl (K_fin [(0, _), (4, _)] rfl (?_)))))
    refine K_scond rfl (fun _ => ?_) (fun hc => by cases hc)
    refine K_ss (K_reg (Wops_run rfl rfl (K_fin [(2, _)] rfl (?_))))
    exact K_sret (Told.mk _ rfl ⟨none, 0, rfl, OwS.none, Ext.refl _ _, fun i r => absurd r Blk.none⟩)
  | some p =>
    refine K_ss (K_reg (Wops_run rfl rfl (Wops_run rfl rfl (K_fin [(0, _), (4, _)] rfl (?_)))))
    refine K_scond rfl (fun hc => by cases hc) (fun _ => ?_)
    refine K_sskip (K_reg (Wops_bslice (l := []) rfl rfl fun h1 n1 x1 g1 => ?_))
    refine Wops_run rfl rfl (Wops_app rfl rfl (OwS.new (n := 0) g1 rfl) rfl (s.ext x1).first ⟨by omega, by omega⟩ s.len hc (by decide) fun h2 a2 c2 x2 o2 b2 => ?_)
    refine Wops_run rfl rfl (K_fin [(2, _)] rfl (?_))
    rw [List.nil_append, Nat.zero_add] at o2
    rw [Nat.zero_add]
    refine K_ret (Told.mk _ rfl ⟨a2, c2, rfl, o2, x1.then x2 fun i r => .inr (by rw [Blk.at] at r; omega), fun i r => (b2 i r).elim (fun r => by rw [Blk.at] at r; omega) fun r => by omega⟩)
/-- slices.EqualFunc of one table each -/
theorem C35 {h : Heap} {a b t1 t2 : Option Addr} {c d c1 c2 : Nat} {xs ys : List Int} (s : SlA h 1 a 1 c [.slice t1 xs.length c1]) (s2 : SlA h 1 b 1 d [.slice t2 ys.length c2]) (q1 : SlA h 1 t1 xs.length c1 (ints .u64 xs)) (q2 : SlA h 1 t2 ys.length c2 (ints .u64 ys)) (hb : xs.length ≤ 1000000) (hb2 : ys.length ≤ 1000000) :
    Fn Try.prog 35 [.slice a 1 c, .slice b 1 d, .func (.func 36) ⟨[]⟩ ⟨[]⟩] h fun v h' => v = .bool (decide (xs = ys)) ∧ h = h' := by
  refine fnK F35.fok rfl ?_
  refine K_reg (Wops_run rfl rfl (K_fin [(0, _), (1, _), (2, _)] rfl (?_)))
  refine K_ss (K_reg (Wops_run rfl rfl (Wops_run rfl rfl (Wops_run rfl rfl (Wops_run rfl rfl (Wops_run rfl rfl (K_fin [(0, _), (1, _), (2, _), (14, _)] rfl (?_))))))))
  refine K_scond rfl (fun hc => by cases hc) (fun _ => ?_)
  refine K_sskip (K_ss (K_reg (Wops_run rfl rfl (Wops_run rfl rfl (Wops_run rfl rfl (K_fin [(1, _), (2, _), (15, _), (16, _), (17, _)] rfl (?_)))))))
  refine K_sblock ?_
  refine K_loop (fun k e h' => h = h' ∧ (k = 1 ∧ e = [(1, .slice b 1 d), (2, .func (.func 36) ⟨[]⟩ ⟨[]⟩), (15, .slice a 1 c), (16, .int .i64 1), (17, .int .i64 0)] ∨ k = 0 ∧ xs = ys ∧ e = [(1, .slice b 1 d), (2, .func (.func 36) ⟨[]⟩ ⟨[]⟩), (15, .slice a 1 c), (16, .int .i64 1), (17, .int .i64 1)])) ?_ (k := 1) ⟨rfl, .inl ⟨rfl, rfl⟩⟩
  rintro k e h' ⟨rfl, ⟨rfl, rfl⟩ | ⟨rfl, hxy, rfl⟩⟩
  · refine K_reg (Wops_run rfl rfl (K_fin [(1, _), (2, _), (15, _), (16, _), (17, _), (18, _)] rfl (?_)))
    refine K_scond rfl (fun _ => ?_) (fun hc => by cases hc)
    refine K_sskip (K_sblock ?_)
    refine K_reg (Wops_run rfl rfl ((Wops_idx (u := .slice t1 xs.length c1) rfl rfl s ⟨by omega, by omega⟩ rfl fun p => ?_)))
    refine Wops_run rfl rfl (Wops_run rfl rfl (K_fin [(1, _), (2, _), (7, _), (8, _), (15, _), (16, _), (17, _)] rfl (?_)))
    refine K_reg (Wops_run rfl rfl (Wops_run rfl rfl ((Wops_idx (u := .slice t2 ys.length c2) rfl rfl s2 ⟨by omega, by omega⟩ rfl fun p => ?_))))
    refine Wops_run rfl rfl (K_fin [(1, _), (2, _), (8, _), (9, _), (15, _), (16, _), (17, _)] rfl (?_))
    refine K_reg (Wops_run rfl rfl (Wops_run rfl rfl (Wops_run rfl rfl ((Wops_callv (k := 36) (a := []) (b := []) rfl rfl (C36 q1 q2 (by omega) (by omega)) ?_)))))
    rintro _ _ ⟨rfl, rfl⟩
    by_cases hxy : xs = ys
    · rw [decide_eq_true hxy]
      refine Wops_run rfl rfl (K_fin [(1, _), (2, _), (15, _), (16, _), (17, _), (30, _)] rfl (?_))
      refine K_cond rfl (fun hc => by cases hc) (fun _ => K_skip ?_)
      exact K_last (Wops_run rfl rfl (Wops_run rfl rfl (K_finL [(1, _), (2, _), (15, _), (16, _), (17, _)] rfl ⟨0, by omega, rfl, .inr ⟨rfl, hxy, rfl⟩⟩)))
    · rw [decide_eq_false hxy]
      refine Wops_run rfl rfl (K_fin [(1, _), (2, _), (15, _), (16, _), (17, _), (30, _)] rfl (?_))
      refine K_cond rfl (fun _ => ?_) (fun hc => by cases hc)
      refine K_reg (Wops_run rfl rfl (K_fin [(6, _)] rfl (?_)))
      exact K_ret (Told.mk _ rfl ⟨rfl, rfl⟩)
  · rw [decide_eq_true hxy]
    refine K_reg (Wops_run rfl rfl (K_fin [(1, _), (2, _), (15, _), (16, _), (17, _), (18, _)] rfl (?_)))
    refine K_scond rfl (fun hc => by cases hc) (fun _ => ?_)
    refine K_sexit (bx_same ?_)
    refine K_reg (Wops_run rfl rfl (K_fin [(6, _)] rfl (?_)))
    exact K_ret (Told.mk _ rfl ⟨rfl, rfl⟩)

/-- An instance's parts. -/
structure ID where
  mod : List Value
  bl : Value
  ma : Option Addr
  mc : Nat
  bs : List Int
  ta : Option Addr
  tc : Nat
  t1 : Option Addr
  t1c : Nat
  tt : List Int
  ga : Option Addr
  gc : Nat
  gs : List Int
  ea : Option Addr
  ec : Nat
  es : List Bool
  da : Option Addr
  dc : Nat
  ds : List Bool
abbrev ID.cs (d : ID) (tl : List Value) : List Value := d.mod ++ (d.bl :: .slice d.ma d.bs.length d.mc :: .slice d.ta 1 d.tc :: .slice d.ga d.gs.length d.gc :: .slice d.ea d.es.length d.ec :: .slice d.da d.ds.length d.dc :: tl)
/-- An instance of one table. -/
structure InP (h : Heap) (p : Nat) (d : ID) : Prop where
  g : ∃ tl, At h p (.cells (d.cs tl) 0 false)
  om : OwS h 1 d.ma d.bs.length d.mc (ints .u8 d.bs)
  ot : OwS h 1 d.ta 1 d.tc [.slice d.t1 d.tt.length d.t1c]
  o1 : OwS h 1 d.t1 d.tt.length d.t1c (ints .u64 d.tt)
  og : OwS h 1 d.ga d.gs.length d.gc (ints .u64 d.gs)
  oe : OwS h 1 d.ea d.es.length d.ec (bools d.es)
  od : OwS h 1 d.da d.ds.length d.dc (bools d.ds)
  ml : d.mod.length = 13
  mcl : d.mod.all isCell = true
  blc : isCell d.bl = true
  bb : d.bs.length ≤ 1073741824
  tb : d.tt.length ≤ 1000
  gb : d.gs.length ≤ 1000
  eb : d.es.length ≤ 1000
  db : d.ds.length ≤ 1000
/-- Where it lies. -/
def Own (p : Nat) (d : ID) (i : Nat) : Prop := i = p ∨ Blk d.ma i ∨ Blk d.ta i ∨ Blk d.t1 i ∨ Blk d.ga i ∨ Blk d.ea i ∨ Blk d.da i
theorem InP.ext {T : Nat → Prop} {h h' : Heap} {p : Nat} {d : ID} (q : InP h p d) (x : Ext T h h') (n : ∀ i, Own p d i → ¬ T i) : InP h' p d := by
  obtain ⟨tl, g⟩ := q.g
  exact ⟨⟨tl, g.ext x (n _ (.inl rfl))⟩, q.om.ext x fun i r => n i (.inr (.inl r)), q.ot.ext x fun i r => n i (.inr (.inr (.inl r))), q.o1.ext x fun i r => n i (.inr (.inr (.inr (.inl r)))), q.og.ext x fun i r => n i (.inr (.inr (.inr (.inr (.inl r))))), q.oe.ext x fun i r => n i (.inr (.inr (.inr (.inr (.inr (.inl r)))))), q.od.ext x fun i r => n i (.inr (.inr (.inr (.inr (.inr (.inr r)))))), q.ml, q.mcl, q.blc, q.bb, q.tb, q.gb, q.eb, q.db⟩
theorem InP.ext0 {h h' : Heap} {p : Nat} {d : ID} (q : InP h p d) (x : Ext0 h h') : InP h' p d := q.ext x fun _ _ r => r
theorem InP.lt {h : Heap} {p : Nat} {d : ID} (q : InP h p d) {i : Nat} (r : Own p d i) : i < h.next := by
  obtain ⟨tl, g⟩ := q.g
  rcases r with rfl | r | r | r | r | r | r
  · exact g.lt
  · exact q.om.lt r
  · exact q.ot.lt r
  · exact q.o1.lt r
  · exact q.og.lt r
  · exact q.oe.lt r
  · exact q.od.lt r

set_option maxHeartbeats 4000000 in
/-- inst.Same -/
theorem C17t {h : Heap} {p q : Nat} {d f : ID} (i1 : InP h p d) (i2 : InP h q f) : Fn Try.prog 17 [ptr p, ptr q] h fun v h' => v = .bool (decide (d.bs = f.bs) && (decide (d.tt = f.tt) && (decide (d.gs = f.gs) && (decide (d.es = f.es) && decide (d.ds = f.ds))))) ∧ h = h' := by
  obtain ⟨⟨tl, g⟩, s1, st, st1, s2, s3, s4, ml, -, -, bb, tb, gb, eb, db⟩ := i1
  obtain ⟨⟨tl', g'⟩, s1', st', st1', s2', s3', s4', ml', -, -, bb', tb', gb', eb', db'⟩ := i2
  unfold ID.cs at g g'
  obtain ⟨mod, bl, ma, mc, bs, ta, tc, t1, t1c, tt, ga, gc, gs, ea, ec, es, da, dc, ds⟩ := d
  obtain ⟨mod', bl', ma', mc', bs', ta', tc', t1', t1c', tt', ga', gc', gs', ea', ec', es', da', dc', ds'⟩ := f
  simp only at g g' s1 st st1 s2 s3 s4 s1' st' st1' s2' s3' s4' ml ml' bb tb gb eb db bb' tb' gb' eb' db' ⊢
  obtain ⟨a0, a1, a2, a3, a4, a5, a6, a7, a8, a9, a10, a11, a12, rfl⟩ := thirteen ml
  obtain ⟨c0, c1, c2, c3, c4, c5, c6, c7, c8, c9, c10, c11, c12, rfl⟩ := thirteen ml'
  refine fnK F17.fok rfl ?_
  refine K_reg (Wops_run rfl rfl (K_fin [(0, _), (1, _)] rfl (?_)))
  refine K_ss (K_reg (Wops_run rfl rfl (Wops_run rfl rfl (Wops_run rfl rfl (Wops_go rfl (Wops_run rfl rfl (Wops_go rfl (Wops_run rfl rfl (Wops_run rfl rfl (K_fin [(0, _), (1, _), (10, _)] rfl (?_)))))))))))
  refine K_scond rfl (fun hc => by cases hc) (fun _ => ?_)
  refine K_sskip (K_reg (Wops_run rfl rfl (Wops_run rfl rfl (Wops_run rfl rfl (Wops_ld (v := .slice ma bs.length mc) rfl g rfl (Wops_run rfl rfl (Wops_run rfl rfl (Wops_run rfl rfl (Wops_ld (v := .slice ma' bs'.length mc') rfl g' rfl (Wops_call rfl (C34 s1.sl s1'.sl bb bb') ?_))))))))))
  rintro _ _ ⟨rfl, rfl⟩
  cases decide (bs = bs')
  case false =>
    rw [Bool.false_and]
    repeat (first | refine Wops_skip rfl ?_ | refine Wops_run rfl rfl ?_)
    refine K_fin [(4, _)] rfl (?_)
    exact K_ret (Told.mk _ rfl ⟨rfl, rfl⟩)
  rw [Bool.true_and]
  refine Wops_run rfl rfl ?_
  refine Wops_go rfl (Wops_run rfl rfl (Wops_go rfl (Wops_run rfl rfl (Wops_go rfl (Wops_run rfl rfl (Wops_go rfl (Wops_ld (v := .slice ta 1 tc) rfl g rfl ?_)))))))
  refine Wops_go rfl (Wops_run rfl rfl (Wops_go rfl (Wops_run rfl rfl (Wops_go rfl (Wops_run rfl rfl (Wops_go rfl (Wops_ld (v := .slice ta' 1 tc') rfl g' rfl (Wops_go rfl (Wops_call rfl (C35 st.sl st'.sl st1.sl st1'.sl (by omega) (by omega)) ?_)))))))))
  rintro _ _ ⟨rfl, rfl⟩
  cases decide (tt = tt')
  case false =>
    rw [Bool.false_and]
    repeat (first | refine Wops_skip rfl ?_ | refine Wops_run rfl rfl ?_)
    refine K_fin [(4, _)] rfl (?_)
    exact K_ret (Told.mk _ rfl ⟨rfl, rfl⟩)
  rw [Bool.true_and]
  refine Wops_run rfl rfl (Wops_run rfl rfl ?_)
  refine Wops_go rfl (Wops_run rfl rfl (Wops_go rfl (Wops_run rfl rfl (Wops_go rfl (Wops_run rfl rfl (Wops_go rfl (Wops_ld (v := .slice ga gs.length gc) rfl g rfl ?_)))))))
  refine Wops_go rfl (Wops_run rfl rfl (Wops_go rfl (Wops_run rfl rfl (Wops_go rfl (Wops_run rfl rfl (Wops_go rfl (Wops_ld (v := .slice ga' gs'.length gc') rfl g' rfl (Wops_go rfl (Wops_call rfl (C36 s2.sl s2'.sl (by omega) (by omega)) ?_)))))))))
  rintro _ _ ⟨rfl, rfl⟩
  cases decide (gs = gs')
  case false =>
    rw [Bool.false_and]
    repeat (first | refine Wops_skip rfl ?_ | refine Wops_run rfl rfl ?_)
    refine K_fin [(4, _)] rfl (?_)
    exact K_ret (Told.mk _ rfl ⟨rfl, rfl⟩)
  rw [Bool.true_and]
  refine Wops_run rfl rfl (Wops_run rfl rfl ?_)
  refine Wops_go rfl (Wops_run rfl rfl (Wops_go rfl (Wops_run rfl rfl (Wops_go rfl (Wops_run rfl rfl (Wops_go rfl (Wops_ld (v := .slice ea es.length ec) rfl g rfl ?_)))))))
  refine Wops_go rfl (Wops_run rfl rfl (Wops_go rfl (Wops_run rfl rfl (Wops_go rfl (Wops_run rfl rfl (Wops_go rfl (Wops_ld (v := .slice ea' es'.length ec') rfl g' rfl (Wops_go rfl (Wops_call rfl (C37 s3.sl s3'.sl (by omega) (by omega)) ?_)))))))))
  rintro _ _ ⟨rfl, rfl⟩
  cases decide (es = es')
  case false =>
    rw [Bool.false_and]
    repeat (first | refine Wops_skip rfl ?_ | refine Wops_run rfl rfl ?_)
    refine K_fin [(4, _)] rfl (?_)
    exact K_ret (Told.mk _ rfl ⟨rfl, rfl⟩)
  rw [Bool.true_and]
  refine Wops_run rfl rfl (Wops_run rfl rfl ?_)
  refine Wops_go rfl (Wops_run rfl rfl (Wops_go rfl (Wops_run rfl rfl (Wops_go rfl (Wops_run rfl rfl (Wops_go rfl (Wops_ld (v := .slice da ds.length dc) rfl g rfl ?_)))))))
  refine Wops_go rfl (Wops_run rfl rfl (Wops_go rfl (Wops_run rfl rfl (Wops_go rfl (Wops_run rfl rfl (Wops_go rfl (Wops_ld (v := .slice da' ds'.length dc') rfl g' rfl (Wops_go rfl (Wops_call rfl (C37 s4.sl s4'.sl (by omega) (by omega)) ?_)))))))))
  rintro _ _ ⟨rfl, rfl⟩
  refine Wops_run rfl rfl (Wops_run rfl rfl ?_)
  refine K_fin [(4, _)] rfl (?_)
  exact K_ret (Told.mk _ rfl ⟨rfl, rfl⟩)
end Go.Dx.SYtpogcjdenefhlaa
