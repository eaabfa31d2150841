/- Texts merged: YtpogcjdenefhlaaMd0.lean, YtpogcjdenefhlaaMd1.lean, YtpogcjdenefhlaaMd2.lean, YtpogcjdenefhlaaMd3.lean, YtpogcjdenefhlaaMd4.lean, YtpogcjdenefhlaaMd5.lean, YtpogcjdenefhlaaMd6.lean, YtpogcjdenefhlaaMd7.lean, YtpogcjdenefhlaaMd9.lean. -/
import Derived.Test.YtpogcjdenefhlaaCx
namespace Go.Dx.SYtpogcjdenefhlaa
open Go.Proofs
section
/- Made modules: how a maker goes on: what it holds, what it adds. -/
set_option linter.unusedVariables false
set_option linter.unusedSimpArgs false

/-- Instructions that open and shut nothing. -/
def Plain (x : Int) : Prop := (x < 2 ∨ 4 < x) ∧ x ≠ 5 ∧ x ≠ 11
/-- Instructions, and the blocks that are open behind them (the last first; true: an if without its else). -/
inductive Opn : List Bool → List Int → Prop
  | nil : Opn [] []
  | plain {st : List Bool} {w : List Int} {x : Int} : Opn st w → Plain x → Opn st (w ++ [x])
  | blk {st : List Bool} {w : List Int} {x : Int} : Opn st w → x = 2 ∨ x = 3 → Opn (false :: st) (w ++ [x])
  | iff {st : List Bool} {w : List Int} : Opn st w → Opn (true :: st) (w ++ [4])
  | els {st : List Bool} {w : List Int} : Opn (true :: st) w → Opn (false :: st) (w ++ [5])
  | shut {b : Bool} {st : List Bool} {w : List Int} : Opn (b :: st) w → Opn st (w ++ [11])
  | app {st : List Bool} {w v : List Int} : Opn st w → Opn [] v → Opn st (w ++ v)

/-- What a maker has. -/
structure St where
  oa : Option Addr
  oc : Nat
  ops : List Int
  deep : Int
  n : Nat
/-- What does not turn while it works. -/
structure Kt where
  pk : Nat
  pp : Nat
  pm : Nat
  la : Option Addr
  lc : Nat
  ls : List Int
  self : Int
  xa : Option Addr
  xc : Nat
  xs : List Int
  mc : List Value
  fa : Option Addr
  fc : Nat
  fs : List Nat
  ta : Option Addr
  tc : Nat
  ty : List Value
  S : Nat → Prop
/-- A type's parameters and results. -/
def Tys (h : Heap) (S : Nat → Prop) (ty : List Value) : Prop :=
  ∀ j, j < 6 → ∃ (pa : Option Addr) (pn pc : Nat) (ps : List Int) (ra : Option Addr) (rn rc : Nat) (rs : List Int), (ty.drop (j * 2)).take 2 = [.slice pa pn pc, .slice ra rn rc] ∧ SlA h 1 pa pn pc (ints .u8 ps) ∧ SlA h 1 ra rn rc (ints .u8 rs) ∧
    (∀ i, Blk pa i → S i) ∧ (∀ i, Blk ra i → S i) ∧ pn ≤ 2 ∧ rn ≤ 2
/-- What lies still. -/
structure Sx (K : Kt) (h : Heap) : Prop where
  lt : ∀ i, K.S i → i < h.next
  gm : At h K.pm (.cells K.mc 0 false)
  mS : K.S K.pm
  hF : K.mc[1]? = some (.slice K.fa K.fs.length K.fc)
  hT : K.mc[0]? = some (.slice K.ta 6 K.tc)
  sf : SlA h 1 K.fa K.fs.length K.fc (K.fs.map fun (x : Nat) => Value.int .u32 (x : Int))
  fS : ∀ i, Blk K.fa i → K.S i
  fr : ∀ f ∈ K.fs, f < 6
  f0 : 0 < K.fs.length
  f3 : K.fs.length ≤ 3
  st : SlA h 2 K.ta 6 K.tc K.ty
  tS : ∀ i, Blk K.ta i → K.S i
  tys : Tys h K.S K.ty
  sx : SlA h 1 K.xa K.xs.length K.xc (ints .u8 K.xs)
  xS : ∀ i, Blk K.xa i → K.S i
  xw : ∀ x ∈ K.xs, 0 ≤ x ∧ x ≤ 255
  xl : K.xs.length ≤ 1000
  sl : SlA h 1 K.la K.ls.length K.lc (ints .u8 K.ls)
  lS : ∀ i, Blk K.la i → K.S i
  ll : K.ls.length ≤ 10
theorem Sx.ext {K : Kt} {h h' : Heap} {T : Nat → Prop} (q : Sx K h) (x : Ext T h h') (d : ∀ i, K.S i → ¬ T i) : Sx K h' :=
  ⟨fun i r => Nat.lt_of_lt_of_le (q.lt i r) x.next, q.gm.ext x (d _ q.mS), q.mS, q.hF, q.hT, q.sf.ext x fun i r => d i (q.fS i r), q.fS, q.fr, q.f0, q.f3, q.st.ext x fun i r => d i (q.tS i r), q.tS,
   fun j hj => by
    obtain ⟨pa, pn, pc, ps, ra, rn, rc, rs, h1, h2, h3, h4, h5, h6⟩ := q.tys j hj
    exact ⟨pa, pn, pc, ps, ra, rn, rc, rs, h1, h2.ext x fun i r => d i (h4 i r), h3.ext x fun i r => d i (h5 i r), h4, h5, h6⟩,
   q.sx.ext x fun i r => d i (q.xS i r), q.xS, q.xw, q.xl, q.sl.ext x fun i r => d i (q.lS i r), q.lS, q.ll⟩
/-- Cells of instructions. -/
structure InL (l : List Value) (ops : List Int) : Prop where
  len : l.length = ops.length * 6
  cell : l.all isCell = true
  op : ∀ i (hi : i < ops.length), l[i * 6 + 0]? = some (.int .i64 ops[i])
theorem InL.nil : InL [] [] := ⟨rfl, rfl, fun i hi => by cases hi⟩
theorem InL.app {l nl : List Value} {ops os : List Int} (a : InL l ops) (b : InL nl os) : InL (l ++ nl) (ops ++ os) := by
  refine ⟨by rw [List.length_append, List.length_append, a.len, b.len]; omega, by rw [List.all_append, a.cell, b.cell]; rfl, fun i hi => ?_⟩
  rw [List.length_append] at hi
  by_cases h : i < ops.length
  · rw [List.getElem?_append_left (by rw [a.len]; omega), List.getElem_append_left h]; exact a.op i h
  · rw [List.getElem?_append_right (by rw [a.len]; omega), List.getElem_append_right (by omega), a.len, show i * 6 + 0 - ops.length * 6 = (i - ops.length) * 6 + 0 by omega]
    exact b.op _ (by omega)
theorem InL.one {o : Int} {a b c d e : Value} (h : [Value.int .i64 o, a, b, c, d, e].all isCell = true) : InL [.int .i64 o, a, b, c, d, e] [o] :=
  ⟨rfl, h, fun i hi => by
    have : i = 0 := by simpa using hi
    subst this; rfl⟩
/-- A maker's cells. -/
abbrev pkC (K : Kt) (s : St) : List Value := [ptr K.pp, ptr K.pm, .slice K.la K.ls.length K.lc, .slice s.oa s.ops.length s.oc, .int .i64 s.deep, .int .i64 K.self]
/-- A maker. -/
structure Mk (K : Kt) (h : Heap) (s : St) : Prop where
  z : Sx K h
  gk : At h K.pk (.cells (pkC K s) 0 false)
  gp : At h K.pp (.cells [.slice K.xa K.xs.length K.xc, .int .i64 (s.n : Int)] 0 false)
  hn : s.n ≤ K.xs.length
  o : ∃ l, OwS h 6 s.oa s.ops.length s.oc l ∧ InL l s.ops
  nk : ¬ K.S K.pk
  np : ¬ K.S K.pp
  kp : K.pk ≠ K.pp
  no : ∀ i, Blk s.oa i → ¬ K.S i ∧ i ≠ K.pk ∧ i ≠ K.pp
def pot (K : Kt) (s : St) : Int := (s.ops.length : Int) + 30 * ((K.xs.length : Int) - (s.n : Int))
/-- How a maker went on: what may have turned, what was added. -/
structure Go (K : Kt) (h : Heap) (s : St) (h' : Heap) (s' : St) (st : List Bool) : Prop where
  m : Mk K h' s'
  x : Ext (fun i => i = K.pk ∨ i = K.pp ∨ Blk s.oa i) h h'
  b : ∀ i, Blk s'.oa i → Blk s.oa i ∨ h.next ≤ i
  w : ∃ w, s'.ops = s.ops ++ w ∧ Opn st w
theorem Go.refl {K : Kt} {h : Heap} {s : St} (m : Mk K h s) : Go K h s h s [] := ⟨m, Ext.refl _ _, fun i q => .inl q, [], by simp, .nil⟩
theorem Go.trans {K : Kt} {h h1 h2 : Heap} {s s1 s2 : St} {st : List Bool} (g : Go K h s h1 s1 st) (q : Go K h1 s1 h2 s2 []) : Go K h s h2 s2 st := by
  obtain ⟨w, hw, ow⟩ := g.w
  obtain ⟨v, hv, ov⟩ := q.w
  have z := g.x.next
  refine ⟨q.m, g.x.then q.x fun i r => ?_, fun i r => ?_, w ++ v, by rw [hv, hw, List.append_assoc], .app ow ov⟩
  · rcases r with r | r | r
    · exact .inl (.inl r)
    · exact .inl (.inr (.inl r))
    · exact (g.b i r).imp (fun r => .inr (.inr r)) id
  · rcases q.b i r with r | r
    · exact g.b i r
    · exact .inr (by omega)
/-- Nothing but new cells. -/
theorem Go.ext0 {K : Kt} {h h1 h2 : Heap} {s s1 : St} {st : List Bool} (g : Go K h s h1 s1 st) (x : Ext0 h1 h2) : Go K h s h2 s1 st := by
  obtain ⟨l, o, il⟩ := g.m.o
  exact ⟨⟨g.m.z.ext x fun i _ r => r, g.m.gk.ext x, g.m.gp.ext x, g.m.hn, ⟨l, o.ext x, il⟩, g.m.nk, g.m.np, g.m.kp, g.m.no⟩, g.x.then0 x, g.b, g.w⟩
theorem Mk.lt {K : Kt} {h : Heap} {s : St} (m : Mk K h s) : K.pk < h.next ∧ K.pp < h.next := ⟨m.gk.lt, m.gp.lt⟩
/-- Instructions added. -/
theorem Go.push {K : Kt} {h h1 h2 h3 h4 : Heap} {s s1 : St} {st st' : List Bool} {l nl : List Value} {os : List Int} {a3 : Option Addr} {c3 k : Nat} (g : Go K h s h1 s1 st) (il : InL l s1.ops) (x2 : Ext0 h1 h2) (x3 : Ext (Blk s1.oa) h2 h3) (hk : os.length = k) (o3 : OwS h3 6 a3 (s1.ops.length + k) c3 (l ++ nl)) (b3 : ∀ i, Blk a3 i → Blk s1.oa i ∨ h2.next ≤ i)
    (x4 : Ext (· = K.pk) h3 h4) (g4 : h4.get K.pk = some (.cells (putL (pkC K s1) 3 [.slice a3 (s1.ops.length + k) c3]) 0 false)) (hi : InL nl os) (ho : ∀ w, Opn st w → Opn st' (w ++ os)) : Go K h s h4 ⟨a3, c3, s1.ops ++ os, s1.deep, s1.n⟩ st' := by
  obtain ⟨w, hw, ow⟩ := g.w
  have z1 := g.x.next
  have z2 := x2.next
  have z3 := x3.next
  have hl : (s1.ops ++ os).length = s1.ops.length + k := by rw [List.length_append, hk]
  have nb : ∀ i, Blk a3 i → ¬ K.S i ∧ i ≠ K.pk ∧ i ≠ K.pp := fun i r => by
    rcases b3 i r with r | r
    · exact g.m.no i r
    · have := g.m.lt
      exact ⟨fun q => by have := g.m.z.lt i q; omega, by omega, by omega⟩
  have npo : ¬ Blk s1.oa K.pp := fun r => (g.m.no _ r).2.2 rfl
  refine ⟨⟨((g.m.z.ext x2 fun i _ r => r).ext x3 fun i q r => (g.m.no i r).1 q).ext x4 fun i q r => g.m.nk (by rw [← r]; exact q), ?_, ((g.m.gp.ext x2).ext x3 npo).ext x4 fun r => g.m.kp r.symm, g.m.hn, ⟨l ++ nl, ?_, il.app hi⟩, g.m.nk, g.m.np, g.m.kp, nb⟩,
    ((g.x.then0 x2).then x3 fun i r => ?_).then x4 fun i r => .inl (.inl r), fun i r => ?_, w ++ os, by rw [hw, List.append_assoc], ho w ow⟩
  · show h4.get K.pk = some (.cells [ptr K.pp, ptr K.pm, .slice K.la K.ls.length K.lc, .slice a3 (s1.ops ++ os).length c3, .int .i64 s1.deep, .int .i64 K.self] 0 false)
    rw [hl]; exact g4
  · show OwS h4 6 a3 (s1.ops ++ os).length c3 (l ++ nl)
    rw [hl]; exact o3.ext x4 fun i r e => (nb i r).2.1 e
  · rcases g.b i r with r | r
    · exact .inl (.inr (.inr r))
    · exact .inr r
  · rcases b3 i r with r | r
    · exact g.b i r
    · exact .inr (by omega)
/-- How deep it is. -/
theorem Go.deep {K : Kt} {h h1 h2 : Heap} {s s1 : St} {st : List Bool} {dp : Int} (g : Go K h s h1 s1 st) (x : Ext (· = K.pk) h1 h2) (g2 : h2.get K.pk = some (.cells (putL (pkC K s1) 4 [.int .i64 dp]) 0 false)) : Go K h s h2 { s1 with deep := dp } st := by
  obtain ⟨l, o, il⟩ := g.m.o
  exact ⟨⟨g.m.z.ext x fun i q r => g.m.nk (by rw [← r]; exact q), g2, g.m.gp.ext x fun r => g.m.kp r.symm, g.m.hn, ⟨l, o.ext x fun i q r => (g.m.no i q).2.1 r, il⟩, g.m.nk, g.m.np, g.m.kp, g.m.no⟩, g.x.then x fun i r => .inl (.inl r), g.b, g.w⟩
theorem Go.num {K : Kt} {h h1 h2 : Heap} {s s1 : St} {st : List Bool} {n' : Nat} (g : Go K h s h1 s1 st) (x : Ext (· = K.pp) h1 h2) (g2 : At h2 K.pp (.cells [.slice K.xa K.xs.length K.xc, .int .i64 (n' : Int)] 0 false)) (hn : n' ≤ K.xs.length) : Go K h s h2 { s1 with n := n' } st := by
  obtain ⟨l, o, il⟩ := g.m.o
  exact ⟨⟨g.m.z.ext x fun i q r => g.m.np (by rw [← r]; exact q), g.m.gk.ext x g.m.kp, g2, hn, ⟨l, o.ext x fun i q r => (g.m.no i q).2.2 r, il⟩, g.m.nk, g.m.np, g.m.kp, g.m.no⟩, g.x.then x fun i r => .inl (.inr (.inl r)), g.b, g.w⟩

theorem InL.two {o o' : Int} {a b c d e a' b' c' d' e' : Value} (h : [Value.int .i64 o, a, b, c, d, e].all isCell = true) (h' : [Value.int .i64 o', a', b', c', d', e'].all isCell = true) : InL [.int .i64 o, a, b, c, d, e, .int .i64 o', a', b', c', d', e'] [o, o'] := InL.app (InL.one h) (InL.one h')
theorem Go.push' {K : Kt} {h h1 h2 h3 h4 : Heap} {s s1 : St} {st st' : List Bool} {l nl : List Value} {os : List Int} {a3 : Option Addr} {c3 k : Nat} (g : Go K h s h1 s1 st) (il : InL l s1.ops) (x2 : Ext0 h1 h2) (x3 : Ext (Blk s1.oa) h2 h3) (hk : os.length = k) (o3 : OwS h3 6 a3 (s1.ops.length + k) c3 (l ++ nl)) (b3 : ∀ i, Blk a3 i → Blk s1.oa i ∨ h2.next ≤ i)
    (x4 : Ext (· = K.pk) h3 h4) (g4 : h4.get K.pk = some (.cells (putL (pkC K s1) 3 [.slice a3 (s1.ops.length + k) c3]) 0 false)) (hi : InL nl os) (ho : ∀ w, Opn st w → Opn st' (w ++ os)) : ∃ s2, Go K h s h4 s2 st' ∧ s1.n ≤ s2.n ∧ pot K s2 ≤ pot K s1 + k :=
  ⟨_, g.push il x2 x3 hk o3 b3 x4 g4 hi ho, Nat.le_refl _, by unfold pot; simp only [List.length_append, hk]; omega⟩
theorem Go.deep' {K : Kt} {h h1 h2 : Heap} {s s1 : St} {st : List Bool} {dp : Int} (g : Go K h s h1 s1 st) (x : Ext (· = K.pk) h1 h2) (g2 : h2.get K.pk = some (.cells (putL (pkC K s1) 4 [.int .i64 dp]) 0 false)) : ∃ s2, Go K h s h2 s2 st ∧ s1.n ≤ s2.n ∧ pot K s2 ≤ pot K s1 + 0 :=
  ⟨_, g.deep x g2, Nat.le_refl _, by unfold pot; simp only []; omega⟩
theorem pot_opsB {K : Kt} {h : Heap} {s : St} (m : Mk K h s) (hp : pot K s ≤ 100050) : s.ops.length ≤ 100100 := by
  have := m.hn
  unfold pot at hp; omega

/-! ### The small ones -/
/-- Picks.Num: only its own cells. -/
theorem C20 {h : Heap} {pp xc n : Nat} {xa : Option Addr} {xs : List Int} {m : Int} (gp : At h pp (.cells [.slice xa xs.length xc, .int .i64 (n : Int)] 0 false)) (hn : n ≤ xs.length) (sx : SlA h 1 xa xs.length xc (ints .u8 xs)) (xw : ∀ x ∈ xs, 0 ≤ x ∧ x ≤ 255) (xl : xs.length ≤ 1000) (ns : ¬ Blk xa pp) (hm : 0 < m) :
    Fn Try.prog 20 [ptr pp, .int .i64 m] h fun v h' => ∃ (r n' : Nat), v = .int .i64 (r : Int) ∧ (r : Int) < m ∧ Ext (· = pp) h h' ∧ At h' pp (.cells [.slice xa xs.length xc, .int .i64 (n' : Int)] 0 false) ∧ n ≤ n' ∧ n' ≤ xs.length ∧ (n < xs.length → n' = n + 1) ∧ (n = xs.length → r = 0) := by
  refine fnK F20.fok rfl ?_
  refine K_reg (Wops_run rfl rfl (K_fin [(0, _), (1, _)] rfl (?_)))
  refine K_ss (K_reg (Wops_run rfl rfl (Wops_run rfl rfl (Wops_run rfl rfl (Wops_ld (v := .int .i64 (n : Int)) rfl gp rfl (Wops_run rfl rfl (Wops_run rfl rfl (Wops_run rfl rfl (Wops_ld (v := .slice xa xs.length xc) rfl gp rfl (Wops_run rfl rfl (Wops_run rfl rfl (K_fin [(0, _), (1, _), (14, _)] rfl (?_)))))))))))))
  refine K_scond rfl (fun hc => ?_) (fun hc => ?_)
  · have h1 : n = xs.length := by have := of_decide_eq_true hc; omega
    refine K_ss (K_reg (Wops_run rfl rfl (K_fin [(4, _)] rfl (?_))))
    exact K_sret (Told.mk _ rfl ⟨0, n, rfl, hm, Ext.refl _ _, gp, Nat.le_refl _, hn, fun q => by omega, fun _ => rfl⟩)
  · have hlx : n < xs.length := by have := of_decide_eq_false hc; omega
    refine K_sskip (K_reg (Wops_run rfl rfl (Wops_run rfl rfl (Wops_run rfl rfl (Wops_ld (v := .int .i64 (n : Int)) rfl gp rfl (Wops_as (w := .int .i64 ((n + 1 : Nat) : Int)) rfl rfl (by rw [w64s (by omega)]) ?_))))))
    refine Wops_run rfl rfl (Wops_run rfl rfl (Wops_st (l := [.int .i64 ((n + 1 : Nat) : Int)]) rfl rfl rfl rfl gp (by simp) rfl fun h1 n1 x1 g1 => ?_))
    replace g1 : At h1 pp (.cells [.slice xa xs.length xc, .int .i64 ((n + 1 : Nat) : Int)] 0 false) := g1
    refine K_fin [(0, _), (1, _)] rfl (?_)
    have sx1 := sx.ext x1 fun i r e => ns (by rw [← e]; exact r)
    obtain ⟨r, hr, hre⟩ : ∃ r : Nat, (r : Int) < m ∧ xs[n].tmod m = r := by
      have h1 := Int.tmod_nonneg m (xw xs[n] (List.getElem_mem _)).1
      have h2 := Int.tmod_lt_of_pos xs[n] hm
      exact ⟨(xs[n].tmod m).toNat, by omega, by omega⟩
    have hw := xw xs[n] (List.getElem_mem _)
    refine K_reg (Wops_run rfl rfl (Wops_run rfl rfl (Wops_run rfl rfl (Wops_ld (v := .slice xa xs.length xc) rfl g1 rfl (Wops_run rfl rfl (Wops_run rfl rfl (Wops_run rfl rfl (Wops_ld (v := .int .i64 ((n + 1 : Nat) : Int)) rfl g1 rfl (Wops_as (w := .int .i64 (n : Int)) rfl rfl (by rw [w64 (by omega)]; congr 1; omega) ?_)))))))))
    refine Wops_idx (u := .int .u8 xs[n]) rfl rfl sx1 ⟨by omega, by omega⟩ (by simp [hlx]) fun _ => ?_
    refine Wops_as (w := .int .i64 xs[n]) rfl rfl (by rw [w64 (by omega)]) (Wops_run rfl rfl (Wops_rem rfl rfl (by omega) (Wops_run rfl rfl (K_fin [(4, .int .i64 (r : Int))] (by rw [← hre]; rfl) (?_)))))
    exact K_ret (Told.mk _ rfl ⟨r, n + 1, rfl, hr, x1, g1, by omega, by omega, fun _ => rfl, fun q => by omega⟩)
/-- Picks.Over -/
theorem C38 {h : Heap} {pp xc n : Nat} {xa : Option Addr} {xs : List Int} (gp : At h pp (.cells [.slice xa xs.length xc, .int .i64 (n : Int)] 0 false)) :
    Fn Try.prog 38 [ptr pp] h fun v h' => v = .bool (decide ((n : Int) ≥ (xs.length : Int))) ∧ h = h' := by
  refine fnK F38.fok rfl ?_
  refine K_reg (Wops_run rfl rfl (K_fin [(0, _)] rfl (?_)))
  refine K_reg (Wops_run rfl rfl (Wops_run rfl rfl (Wops_run rfl rfl (Wops_ld (v := .int .i64 (n : Int)) rfl gp rfl (Wops_run rfl rfl (Wops_run rfl rfl (Wops_run rfl rfl (Wops_ld (v := .slice xa xs.length xc) rfl gp rfl (Wops_run rfl rfl (Wops_run rfl rfl (Wops_run rfl rfl (K_fin [(2, _)] rfl (?_)))))))))))))
  exact K_ret (Told.mk _ rfl ⟨rfl, rfl⟩)

section
variable {K : Kt} {h h1 : Heap} {s s1 : St} {st : List Bool}
/-- A pick. -/
theorem Go.c48 {m : Int} (g : Go K h s h1 s1 st) (hm : 0 < m) : Fn Try.prog 20 [ptr K.pp, .int .i64 m] h1 fun v h2 => ∃ (r n' : Nat), v = .int .i64 (r : Int) ∧ (r : Int) < m ∧ Go K h s h2 { s1 with n := n' } st ∧ s1.n ≤ n' ∧ pot K { s1 with n := n' } ≤ pot K s1 ∧ (s1.n < K.xs.length → n' = s1.n + 1 ∧ pot K { s1 with n := n' } ≤ pot K s1 - 30) ∧ (s1.n = K.xs.length → r = 0) ∧ Ext (· = K.pp) h1 h2 :=
  (C20 g.m.gp g.m.hn g.m.z.sx g.m.z.xw g.m.z.xl (fun r => g.m.np (g.m.z.xS _ r)) hm).mono fun v h2 ⟨r, n', hv, hr, x, gp, h1, h2, h3, h4⟩ => ⟨r, n', hv, hr, g.num x gp h2, h1, by unfold pot; simp only []; omega, fun q => ⟨h3 q, by have := h3 q; unfold pot; simp only []; omega⟩, h4, x⟩
theorem Go.c58 (g : Go K h s h1 s1 st) : Fn Try.prog 38 [ptr K.pp] h1 fun v h2 => v = .bool (decide ((s1.n : Int) ≥ (K.xs.length : Int))) ∧ h1 = h2 := C38 g.m.gp
theorem pot_ops {K : Kt} {h : Heap} {s : St} (m : Mk K h s) (hp : pot K s ≤ 100000) : s.ops.length ≤ 100000 := by
  have := m.hn
  unfold pot at hp; omega
/-- What is added by the small ones. -/
def Adds (K : Kt) (h : Heap) (s : St) (s1 : St) (st st' : List Bool) (c : Int) (h2 : Heap) : Prop := ∃ s2, Go K h s h2 s2 st' ∧ s1.n ≤ s2.n ∧ pot K s2 ≤ pot K s1 + c
theorem pot_push {a : Option Addr} {c : Nat} {os : List Int} : pot K ⟨a, c, s1.ops ++ os, s1.deep, s1.n⟩ = pot K s1 + os.length := by
  unfold pot; simp only [List.length_append]; omega

set_option maxHeartbeats 1000000 in
/-- maker.op -/
theorem Go.c64 {op : Int} {st' : List Bool} (g : Go K h s h1 s1 st) (hp : pot K s1 ≤ 100050) (ho : ∀ w, Opn st w → Opn st' (w ++ [op])) : Fn Try.prog 44 [ptr K.pk, .int .i64 op] h1 fun v h2 => Adds K h s s1 st st' 1 h2 := by
  have hops : s1.ops.length ≤ 100100 := by have := g.m.hn; unfold pot at hp; omega
  obtain ⟨l, o, il⟩ := g.m.o
  refine fnK F44.fok rfl ?_
  refine K_last (Wops_run rfl rfl (Wops_run rfl rfl (Wops_run rfl rfl (Wops_run rfl rfl (Wops_ld (v := .slice s1.oa s1.ops.length s1.oc) rfl g.m.gk rfl ?_)))))
  refine Wops_run rfl rfl (Wops_run rfl rfl (Wops_bslice (l := [.int .i64 op, .int .u32 0, .int .u32 0, .int .u64 0, .slice none 0 0, .int .i64 0]) rfl rfl fun h2 n2 x2 g2 => ?_))
  refine Wops_app (m := 1) rfl rfl (o.ext x2) rfl (OwS.new (n := 1) (c := 1) g2 rfl).sl.first ⟨by omega, by omega⟩ rfl rfl (by decide) fun h3 a3 c3 x3 o3 b3 => ?_
  refine Wops_run rfl rfl (Wops_run rfl rfl (Wops_st (l := [.slice a3 (s1.ops.length + 1) c3]) rfl rfl rfl rfl ((g.m.gk.ext x2).ext x3 fun r => (g.m.no _ r).2.1 rfl) (by simp) rfl fun h4 n4 x4 g4 => ?_))
  refine K_finL [] rfl (?_)
  exact Told.mk [] rfl ⟨_, g.push (k := 1) (os := [_]) il x2 x3 rfl o3 b3 x4 g4 (.one rfl) ho, Nat.le_refl _, by rw [pot_push]; simp⟩
set_option maxHeartbeats 1000000 in
/-- maker.a -/
theorem Go.c63 {op a : Int} {st' : List Bool} (g : Go K h s h1 s1 st) (hp : pot K s1 ≤ 100050) (ho : ∀ w, Opn st w → Opn st' (w ++ [op])) : Fn Try.prog 43 [ptr K.pk, .int .i64 op, .int .u32 a] h1 fun v h2 => Adds K h s s1 st st' 1 h2 := by
  have hops : s1.ops.length ≤ 100100 := by have := g.m.hn; unfold pot at hp; omega
  obtain ⟨l, o, il⟩ := g.m.o
  refine fnK F43.fok rfl ?_
  refine K_last (Wops_run rfl rfl (Wops_run rfl rfl (Wops_run rfl rfl (Wops_run rfl rfl (Wops_ld (v := .slice s1.oa s1.ops.length s1.oc) rfl g.m.gk rfl ?_)))))
  refine Wops_run rfl rfl (Wops_run rfl rfl (Wops_run rfl rfl (Wops_bslice (l := [.int .i64 op, .int .u32 a, .int .u32 0, .int .u64 0, .slice none 0 0, .int .i64 0]) rfl rfl fun h2 n2 x2 g2 => ?_)))
  refine Wops_app (m := 1) rfl rfl (o.ext x2) rfl (OwS.new (n := 1) (c := 1) g2 rfl).sl.first ⟨by omega, by omega⟩ rfl rfl (by decide) fun h3 a3 c3 x3 o3 b3 => ?_
  refine Wops_run rfl rfl (Wops_run rfl rfl (Wops_st (l := [.slice a3 (s1.ops.length + 1) c3]) rfl rfl rfl rfl ((g.m.gk.ext x2).ext x3 fun r => (g.m.no _ r).2.1 rfl) (by simp) rfl fun h4 n4 x4 g4 => ?_))
  refine K_finL [] rfl (?_)
  exact Told.mk [] rfl ⟨_, g.push (k := 1) (os := [_]) il x2 x3 rfl o3 b3 x4 g4 (.one rfl) ho, Nat.le_refl _, by rw [pot_push]; simp⟩
theorem plain65 : Plain 65 := ⟨.inr (by decide), by decide, by decide⟩
theorem plain66 : Plain 66 := ⟨.inr (by decide), by decide, by decide⟩
set_option maxHeartbeats 1000000 in
/-- maker.num -/
theorem Go.c60 {t N : Int} (g : Go K h s h1 s1 st) (hp : pot K s1 ≤ 100050) : Fn Try.prog 40 [ptr K.pk, .int .u8 t, .int .u64 N] h1 fun v h2 => Adds K h s s1 st st 1 h2 := by
  have hops : s1.ops.length ≤ 100100 := by have := g.m.hn; unfold pot at hp; omega
  obtain ⟨l, o, il⟩ := g.m.o
  refine fnK F40.fok rfl ?_
  refine K_reg (Wops_run rfl rfl (Wops_run rfl rfl (K_fin [(0, _), (2, _), (7, _)] rfl (?_))))
  refine K_cond rfl (fun hc => ?_) (fun hc => ?_)
  · refine K_last (Wops_run rfl rfl (Wops_run rfl rfl (Wops_run rfl rfl (Wops_run rfl rfl (Wops_ld (v := .slice s1.oa s1.ops.length s1.oc) rfl g.m.gk rfl ?_)))))
    refine Wops_run rfl rfl (Wops_run rfl rfl (Wops_run rfl rfl (Wops_bslice (l := [.int .i64 65, .int .u32 0, .int .u32 0, _, .slice none 0 0, .int .i64 0]) rfl rfl fun h2 n2 x2 g2 => ?_)))
    refine Wops_app (m := 1) rfl rfl (o.ext x2) rfl (OwS.new (n := 1) (c := 1) g2 rfl).sl.first ⟨by omega, by omega⟩ rfl rfl (by decide) fun h3 a3 c3 x3 o3 b3 => ?_
    refine Wops_run rfl rfl (Wops_run rfl rfl (Wops_st (l := [.slice a3 (s1.ops.length + 1) c3]) rfl rfl rfl rfl ((g.m.gk.ext x2).ext x3 fun r => (g.m.no _ r).2.1 rfl) (by simp) rfl fun h4 n4 x4 g4 => ?_))
    refine K_finL [] rfl (?_)
    exact Told.mk [] rfl ⟨_, g.push (k := 1) (os := [_]) il x2 x3 rfl o3 b3 x4 g4 (.one rfl) fun w q => .plain q plain65, Nat.le_refl _, by rw [pot_push]; simp⟩
  · refine K_last (Wops_run rfl rfl (Wops_run rfl rfl (Wops_run rfl rfl (Wops_run rfl rfl (Wops_ld (v := .slice s1.oa s1.ops.length s1.oc) rfl g.m.gk rfl ?_)))))
    refine Wops_run rfl rfl (Wops_run rfl rfl (Wops_bslice (l := [.int .i64 66, .int .u32 0, .int .u32 0, _, .slice none 0 0, .int .i64 0]) rfl rfl fun h2 n2 x2 g2 => ?_))
    refine Wops_app (m := 1) rfl rfl (o.ext x2) rfl (OwS.new (n := 1) (c := 1) g2 rfl).sl.first ⟨by omega, by omega⟩ rfl rfl (by decide) fun h3 a3 c3 x3 o3 b3 => ?_
    refine Wops_run rfl rfl (Wops_run rfl rfl (Wops_st (l := [.slice a3 (s1.ops.length + 1) c3]) rfl rfl rfl rfl ((g.m.gk.ext x2).ext x3 fun r => (g.m.no _ r).2.1 rfl) (by simp) rfl fun h4 n4 x4 g4 => ?_))
    refine K_finL [] rfl (?_)
    exact Told.mk [] rfl ⟨_, g.push (k := 1) (os := [_]) il x2 x3 rfl o3 b3 x4 g4 (.one rfl) fun w q => .plain q plain66, Nat.le_refl _, by rw [pot_push]; simp⟩
end

end
section
/- Made modules: value, local, ref. -/
set_option linter.unusedVariables false
set_option linter.unusedSimpArgs false

theorem ints_getD {k : IntKind} {L : List Int} {r : Nat} (h : r < L.length) : (ints k L)[((r : Nat) : Int).toNat]? = some (.int k (L.getD r 0)) := by
  rw [Int.toNat_natCast, List.getElem?_map, List.getD_eq_getElem?_getD, List.getElem?_eq_getElem h]; rfl
theorem getD_all {P : Int → Prop} {L : List Int} {r : Nat} (h : ∀ x ∈ L, P x) (hr : r < L.length) : P (L.getD r 0) := by
  rw [List.getD_eq_getElem?_getD, List.getElem?_eq_getElem hr]; exact h _ (List.getElem_mem _)
instance (x : Int) : Decidable (Plain x) := by unfold Plain; infer_instance

section
variable {K : Kt} {h h1 : Heap} {s s1 : St} {st : List Bool}
abbrev valL : List Int := [0, 1, 2, 3, 7, 65535, 65536, 2147483647, 2147483648, 4294967295, 9223372036854775808, 18446744073709551615, 40, 100]
/-- maker.value -/
theorem Go.c61 (g : Go K h s h1 s1 st) : Fn Try.prog 41 [ptr K.pk] h1 fun v h2 => ∃ (N : Int) (n' : Nat), v = .int .u64 N ∧ Go K h s h2 { s1 with n := n' } st ∧ s1.n ≤ n' ∧ pot K { s1 with n := n' } ≤ pot K s1 := by
  refine fnK F41.fok rfl ?_
  refine K_reg (Wops_run rfl rfl (K_fin [(0, _)] rfl (?_)))
  refine K_reg (Wops_bslice (l := ints .u64 valL) rfl rfl fun h2 n2 x2 g2 => ?_)
  have G2 := g.ext0 x2
  refine Wops_run rfl rfl (Wops_run rfl rfl (Wops_run rfl rfl (Wops_ld (v := ptr K.pp) rfl G2.m.gk rfl ?_)))
  refine Wops_call rfl (G2.c48 (by decide)) ?_
  rintro _ h3 ⟨r, n', rfl, hr, G3, hn, hp, _, _, x3⟩
  have g3 : At h3 h1.next (.cells (ints .u64 valL) 1 false) := At.ext g2 x3 (by have := g.m.lt; omega)
  refine Wops_idx (u := .int .u64 (valL.getD r 0)) rfl rfl (OwS.new (n := 14) (c := 1) g3 rfl).sl ⟨by omega, by omega⟩ (ints_getD (show r < 14 by omega)) fun _ => ?_
  refine Wops_run rfl rfl (K_fin [(2, _)] rfl (?_))
  exact K_ret (Told.mk _ rfl ⟨_, n', rfl, G3, hn, hp⟩)
set_option maxHeartbeats 1000000 in
/-- maker.local -/
theorem Go.c62 {t : Int} (g : Go K h s h1 s1 st) : Fn Try.prog 42 [ptr K.pk, .int .u8 t] h1 fun v h2 => ∃ (a : Int) (b : Bool) (n' : Nat), v = .tuple ⟨[.int .u32 a, .bool b]⟩ ∧ Go K h s h2 { s1 with n := n' } st ∧ s1.n ≤ n' ∧ pot K { s1 with n := n' } ≤ pot K s1 := by
  have hll := g.m.z.ll
  refine fnK F42.fok rfl ?_
  refine K_reg (Wops_run rfl rfl (Wops_run rfl rfl (K_fin [(0, _), (1, _)] rfl (?_))))
  refine K_reg (Wops_run rfl rfl (Wops_run rfl rfl (Wops_run rfl rfl (Wops_ld (v := ptr K.pp) rfl g.m.gk rfl (Wops_call rfl (g.c48 (by decide)) ?_)))))
  rintro _ h3 ⟨r, n', rfl, hr, G3, hn, hp, _, _, x3⟩
  refine Wops_run rfl rfl (K_fin [(0, _), (1, _), (6, _)] rfl (?_))
  refine K_ss (K_reg (Wops_run rfl rfl (K_fin [(0, _), (1, _), (6, _), (7, _)] rfl (?_))))
  refine K_sblock ?_
  refine K_loop (fun k e h' => ∃ i : Nat, e = [(0, ptr K.pk), (1, .int .u8 t), (6, .int .i64 (r : Int)), (7, .int .i64 (i : Int))] ∧ i ≤ K.ls.length ∧ k = K.ls.length - i ∧ h' = h3) ?_ (k := K.ls.length) ⟨0, rfl, by omega, rfl, rfl⟩
  rintro k e h' ⟨i, rfl, hi, rfl, rfl⟩
  refine K_ss (K_reg (Wops_run rfl rfl (Wops_run rfl rfl (Wops_run rfl rfl (Wops_run rfl rfl (Wops_ld (v := .slice K.la K.ls.length K.lc) rfl G3.m.gk rfl (Wops_run rfl rfl (Wops_run rfl rfl (K_fin [(0, _), (1, _), (6, _), (7, _), (20, _)] rfl (?_))))))))))
  refine K_scond rfl (fun hc => ?_) (fun hc => ?_)
  · have hil : i < K.ls.length := by have := of_decide_eq_true hc; omega
    obtain ⟨j, hj, hje⟩ : ∃ j : Nat, j < K.ls.length ∧ ((i : Int) + (r : Int)).tmod (K.ls.length : Int) = j := by
      have h1 := Int.tmod_nonneg (K.ls.length : Int) (show (0 : Int) ≤ (i : Int) + r by omega)
      have h2 := Int.tmod_lt_of_pos ((i : Int) + r) (show (0 : Int) < (K.ls.length : Int) by omega)
      exact ⟨(((i : Int) + r).tmod K.ls.length).toNat, by omega, by omega⟩
    refine K_sskip (K_sblock ?_)
    refine K_reg (Wops_run rfl rfl (Wops_run rfl rfl (Wops_as (w := .int .i64 ((i : Int) + r)) rfl rfl (by rw [w64 (by omega)]) ?_)))
    refine Wops_run rfl rfl (Wops_run rfl rfl (Wops_run rfl rfl (Wops_ld (v := .slice K.la K.ls.length K.lc) rfl G3.m.gk rfl (Wops_run rfl rfl (Wops_rem rfl rfl (by omega) (Wops_run rfl rfl (K_fin [(0, _), (1, _), (6, _), (7, _), (8, .int .i64 (j : Int))] (by rw [← hje]; rfl) (?_))))))))
    refine K_reg (Wops_run rfl rfl (Wops_run rfl rfl (Wops_run rfl rfl (Wops_ld (v := .slice K.la K.ls.length K.lc) rfl G3.m.gk rfl (Wops_run rfl rfl ?_)))))
    refine Wops_idx (u := .int .u8 K.ls[j]) rfl rfl G3.m.z.sl ⟨by omega, by omega⟩ (by simp [hj]) fun _ => ?_
    refine Wops_run rfl rfl (Wops_run rfl rfl (Wops_run rfl rfl ?_))
    cases hq : (K.ls[j] == t)
    · (repeat (first | refine Wops_skip rfl ?_ | refine Wops_run rfl rfl ?_))
      refine K_fin [(0, _), (1, _), (6, _), (7, _), (8, _), (50, _)] rfl (?_)
      refine K_cond rfl (fun hc => by cases hc) (fun _ => K_skip ?_)
      refine K_last (Wops_run rfl rfl (Wops_run rfl rfl (Wops_run rfl rfl (K_finL [(0, _), (1, _), (6, _), (7, _)] rfl (?_)))))
      exact ⟨K.ls.length - (i + 1), by omega, i + 1, by rw [w64s (by omega)], by omega, rfl, rfl⟩
    · refine Wops_go rfl (Wops_run rfl rfl (Wops_go rfl (Wops_run rfl rfl (Wops_go rfl (Wops_run rfl rfl (Wops_go rfl (Wops_run rfl rfl (Wops_go rfl (Wops_ld (v := .slice K.la K.ls.length K.lc) rfl G3.m.gk rfl ?_)))))))))
      refine Wops_go rfl (Wops_run rfl rfl (Wops_go rfl (Wops_run rfl rfl (Wops_go rfl (Wops_run rfl rfl (Wops_run rfl rfl (K_fin [(0, _), (1, _), (6, _), (7, _), (8, _), (50, _)] rfl (?_))))))))
      refine K_cond rfl (fun _ => ?_) (fun _ => K_skip ?_)
      · refine K_reg (Wops_run rfl rfl (Wops_run rfl rfl (Wops_run rfl rfl (Wops_run rfl rfl (K_fin [(4, _), (5, _)] rfl (?_))))))
        exact K_ret (Told.mk _ rfl ⟨_, _, n', rfl, G3, hn, hp⟩)
      · refine K_last (Wops_run rfl rfl (Wops_run rfl rfl (Wops_run rfl rfl (K_finL [(0, _), (1, _), (6, _), (7, _)] rfl (?_)))))
        exact ⟨K.ls.length - (i + 1), by omega, i + 1, by rw [w64s (by omega)], by omega, rfl, rfl⟩
  · refine K_sexit (bx_same ?_)
    refine K_reg (Wops_run rfl rfl (Wops_run rfl rfl (K_fin [(4, _), (5, _)] rfl (?_))))
    exact K_ret (Told.mk _ rfl ⟨_, _, n', rfl, G3, hn, hp⟩)

theorem plain208 : Plain 208 := by decide
theorem plain210 : Plain 210 := by decide
/-- maker.ref -/
theorem Go.c75 (g : Go K h s h1 s1 st) (hp : pot K s1 ≤ 100050) : Fn Try.prog 50 [ptr K.pk] h1 fun v h2 => Adds K h s s1 st st 1 h2 := by
  have hf0 := g.m.z.f0
  refine fnK F50.fok rfl ?_
  refine K_reg (Wops_run rfl rfl (Wops_run rfl rfl (Wops_run rfl rfl (Wops_ld (v := ptr K.pp) rfl g.m.gk rfl (Wops_call rfl (g.c48 (by decide)) ?_)))))
  rintro _ h2 ⟨r, n2, rfl, hr, G2, hn2, hp2, _, _, x2⟩
  refine Wops_run rfl rfl (K_fin [(0, _), (7, _)] rfl (?_))
  refine K_cond rfl (fun _ => ?_) (fun _ => ?_)
  · refine K_last (Wops_run rfl rfl (Wops_call rfl (G2.c63 (by omega) fun w q => .plain q plain208) ?_))
    rintro _ h3 ⟨s3, G3, hn3, hp3⟩
    exact K_finL [] rfl (Told.mk [] rfl ⟨s3, G3, Nat.le_trans hn2 hn3, by omega⟩)
  · refine K_last (Wops_run rfl rfl (Wops_run rfl rfl (Wops_run rfl rfl (Wops_run rfl rfl (Wops_ld (v := ptr K.pp) rfl G2.m.gk rfl ?_)))))
    refine Wops_run rfl rfl (Wops_run rfl rfl (Wops_run rfl rfl (Wops_ld (v := ptr K.pm) rfl G2.m.gk rfl (Wops_run rfl rfl (Wops_run rfl rfl (Wops_ld rfl G2.m.z.gm G2.m.z.hF (Wops_run rfl rfl (Wops_call rfl (G2.c48 (m := (K.fs.length : Int)) (by omega)) ?_))))))))
    rintro _ h3 ⟨r3, n3, rfl, hr3, G3, hn3, hp3, _, _, x3⟩
    refine Wops_run rfl rfl (Wops_call rfl (G3.c63 (by omega) fun w q => .plain q plain210) ?_)
    rintro _ h4 ⟨s4, G4, hn4, hp4⟩
    exact K_finL [] rfl (Told.mk [] rfl ⟨s4, G4, Nat.le_trans hn2 (Nat.le_trans hn3 hn4), by omega⟩)
end

end
section
/- Made modules: what a maker's greater functions keep. -/
section
variable {P : Program} {e : Env} {h : Heap} {kn : Kn} {kx : Nat → Kn} {kr : Kn}
/-- One slot's value, another. -/
def replS (t : Nat) (v : Value) : Env → Env
  | [] => []
  | (k, u) :: r => bif k.beq t then (k, v) :: r else (k, u) :: replS t v r
/-- A slot that is turned on one of two ways: what stands behind it, once. -/
theorem K_both {t : Nat} {b1 : Bool} {R : List SOp} {keep : List Nat} {d : SCode} (hc : Arg.ev e (.t t) = some (.bool b1)) (he : replS t (.bool b1) e = e)
    (h2 : Wops P R e h fun e' h' => h' = h ∧ ∃ b, e'.keep keep = replS t (.bool b) e) (hd : ∀ b, W P d (replS t (.bool b) e) h (K3 kn kx kr)) : W P (.seq (.cond (.t t) .skip (.region R keep)) d) e h (K3 kn kx kr) := by
  have hd1 := hd b1
  rw [he] at hd1
  refine K_scond hc (fun _ => K_sskip hd1) (fun _ => K_reg (h2.mono ?_))
  rintro e' h' ⟨rfl, b, q⟩
  show W P d (e'.keep keep) _ _
  rw [q]; exact hd b
end
set_option linter.unusedVariables false
set_option linter.unusedSimpArgs false

/-- A function of a maker's, where so many numbers are left at most. -/
def CF (K : Kt) (R f : Nat) (av : List Value) (c : Int) (B : Int) : Prop :=
  ∀ (h : Heap) (s : St), Mk K h s → K.xs.length ≤ s.n + R → pot K s ≤ B → Fn Try.prog f av h fun v h' => Adds K h s s [] [] c h'
theorem CF.go {K : Kt} {R f : Nat} {av : List Value} {c B : Int} {h h1 : Heap} {s s1 : St} {st : List Bool} (H : CF K R f av c B) (g : Go K h s h1 s1 st) (hr : K.xs.length ≤ s1.n + R) (hp : pot K s1 ≤ B) : Fn Try.prog f av h1 fun v h2 => Adds K h s s1 st st c h2 :=
  (H h1 s1 g.m hr hp).mono fun v h2 ⟨s2, q, hn, hq⟩ => ⟨s2, g.trans q, hn, hq⟩
/-- All of them. -/
structure AllAt (K : Kt) (R : Nat) : Prop where
  e : ∀ t d, CF K R 22 [ptr K.pk, .int .u8 t, .int .i64 d] 1 100000
  b : ∀ op t d, op = 2 ∨ op = 4 → CF K R 45 [ptr K.pk, .int .i64 op, .int .u8 t, .int .i64 d] 8 99975
  l : ∀ t d, CF K R 46 [ptr K.pk, .int .u8 t, .int .i64 d] 4 99975
  z : ∀ t d, CF K R 47 [ptr K.pk, .int .u8 t, .int .i64 d] 3 99975
  t : ∀ d, CF K R 49 [ptr K.pk, .int .i64 d] 3 99975
  s : ∀ n d, n ≤ 1000 → CF K R 21 [ptr K.pk, .int .i64 n, .int .i64 d] 0 100000
  lo : ∀ d, CF K R 51 [ptr K.pk, .int .i64 d] 14 99975
  j : ∀ d, CF K R 52 [ptr K.pk, .int .i64 d] 6 99975

end
section
/- Made modules: expr's cases, sizes, stmt, block, loop, jumps (printed by gmd.py). -/
set_option linter.unusedVariables false
set_option linter.unusedSimpArgs false

set_option maxHeartbeats 4000000 in
/-- maker.expr: the cases -/
theorem E50 {K : Kt} {R : Nat} (H : AllAt K R) {h h1 : Heap} {s s1 : St} {t d c : Int} {b : Bool} {kx : Nat → Kn} {kr : Kn} (G0 : Go K h s h1 s1 []) (r0 : K.xs.length ≤ s1.n + R) (n0 : s.n ≤ s1.n) (p0 : pot K s1 ≤ 99970) (p1 : pot K s1 ≤ pot K s + (-30)) :
    W Try.prog (match F22.code with | .seq _ (.seq _ (.seq _ b)) => b | _ => .skip) [(0, ptr K.pk), (1, .int .u8 t), (2, .int .i64 d), (6, .int .i64 c), (7, .bool b)] h1 (K3 (Told F22.res fun v h' => Adds K h s s [] [] 1 h') kx kr) := by
  refine K_block ?_
  refine K_reg (Wops_run rfl rfl (Wops_run rfl rfl (Wops_run rfl rfl (K_fin [(0, _), (1, _), (2, _), (6, _), (7, _), (46, _)] rfl (?_)))))
  refine K_cond rfl (fun hc => ?_) (fun hc => ?_)
  · refine K_last (Wops_run rfl rfl (Wops_run rfl rfl (Wops_run rfl rfl (Wops_call rfl G0.c61 ?_))))
    rintro _ h1 ⟨v1, n1, rfl, G1, hn1, hp1⟩
    have rr1 := Nat.le_trans r0 (Nat.add_le_add_right hn1 R)
    have NN1 := Nat.le_trans n0 hn1
    refine Wops_call rfl (G1.c60 (by omega)) ?_
    rintro _ h2 ⟨s2, G2, hn2, hp2⟩
    have rr2 := Nat.le_trans rr1 (Nat.add_le_add_right hn2 R)
    have NN2 := Nat.le_trans NN1 hn2
    refine K_finL [] rfl (?_)
    exact Told.mk [] rfl ⟨_, G2, NN2, by omega⟩
  · refine K_reg (Wops_run rfl rfl (Wops_run rfl rfl (Wops_run rfl rfl (K_fin [(0, _), (1, _), (2, _), (6, _), (7, _), (54, _)] rfl (?_)))))
    refine K_cond rfl (fun hc => ?_) (fun hc => ?_)
    · refine K_reg (Wops_run rfl rfl (Wops_run rfl rfl (Wops_call rfl G0.c62 ?_)))
      rintro _ h3 ⟨v3, w3, n3, rfl, G3, hn3, hp3⟩
      have rr3 := Nat.le_trans r0 (Nat.add_le_add_right hn3 R)
      have NN3 := Nat.le_trans n0 hn3
      refine Wops_run rfl rfl (Wops_run rfl rfl (Wops_run rfl rfl (Wops_run rfl rfl (Wops_run rfl rfl (K_fin [(0, _), (1, _), (8, _), (9, _)] rfl (?_))))))
      obtain ⟨s4, G4, hn4, hp4⟩ : ∃ q, Go K h s h3 q [] ∧ ({ s1 with n := n3 } : St).n ≤ q.n ∧ pot K q ≤ pot K ({ s1 with n := n3 } : St) := ⟨_, G3, Nat.le_refl _, Int.le_refl _⟩
      have rr4 := Nat.le_trans rr3 (Nat.add_le_add_right hn4 R)
      have NN4 := Nat.le_trans NN3 hn4
      refine K_reg (Wops_run rfl rfl (K_fin [(0, _), (1, _), (8, _), (63, _)] rfl (?_)))
      refine K_cond rfl (fun hc => ?_) (fun hc => ?_)
      · refine K_last (Wops_run rfl rfl (Wops_run rfl rfl (Wops_call rfl (G4.c63 (st' := []) (by omega) (fun w q => .plain q (by decide))) ?_)))
        rintro _ h5 ⟨s5, G5, hn5, hp5⟩
        have rr5 := Nat.le_trans rr4 (Nat.add_le_add_right hn5 R)
        have NN5 := Nat.le_trans NN4 hn5
        refine K_finL [] rfl (?_)
        exact Told.mk [] rfl ⟨_, G5, NN5, by omega⟩
      · refine K_last (Wops_run rfl rfl (Wops_run rfl rfl (Wops_call rfl (G4.c60 (by omega)) ?_)))
        rintro _ h6 ⟨s6, G6, hn6, hp6⟩
        have rr6 := Nat.le_trans rr4 (Nat.add_le_add_right hn6 R)
        have NN6 := Nat.le_trans NN4 hn6
        refine K_finL [] rfl (?_)
        exact Told.mk [] rfl ⟨_, G6, NN6, by omega⟩
    · refine K_reg (Wops_run rfl rfl (Wops_run rfl rfl (Wops_run rfl rfl (K_fin [(0, _), (1, _), (2, _), (6, _), (7, _), (70, _)] rfl (?_)))))
      refine K_cond rfl (fun hc => ?_) (fun hc => ?_)
      · refine K_reg (Wops_run rfl rfl (K_fin [(0, _), (7, _), (10, _)] rfl (?_)))
        refine K_ss (K_reg (Wops_run rfl rfl (Wops_run rfl rfl (K_fin [(0, _), (10, _), (74, _)] rfl (?_)))))
        refine K_scond rfl (fun hc => ?_) (fun hc => ?_)
        · refine K_reg (Wops_run rfl rfl (K_fin [(0, _), (10, _)] rfl (?_)))
          refine K_last (Wops_run rfl rfl (Wops_run rfl rfl (Wops_call rfl (G0.c63 (st' := []) (by omega) (fun w q => .plain q (by decide))) ?_)))
          rintro _ h7 ⟨s7, G7, hn7, hp7⟩
          have rr7 := Nat.le_trans r0 (Nat.add_le_add_right hn7 R)
          have NN7 := Nat.le_trans n0 hn7
          refine K_finL [] rfl (?_)
          exact Told.mk [] rfl ⟨_, G7, NN7, by omega⟩
        · refine K_sskip (K_last (Wops_run rfl rfl (Wops_run rfl rfl (Wops_call rfl (G0.c63 (st' := []) (by omega) (fun w q => .plain q (by decide))) ?_))))
          rintro _ h8 ⟨s8, G8, hn8, hp8⟩
          have rr8 := Nat.le_trans r0 (Nat.add_le_add_right hn8 R)
          have NN8 := Nat.le_trans n0 hn8
          refine K_finL [] rfl (?_)
          exact Told.mk [] rfl ⟨_, G8, NN8, by omega⟩
      · refine K_reg (Wops_run rfl rfl (Wops_run rfl rfl (Wops_run rfl rfl (K_fin [(0, _), (1, _), (2, _), (6, _), (7, _), (78, _)] rfl (?_)))))
        refine K_cond rfl (fun hc => ?_) (fun hc => ?_)
        · refine K_reg (Wops_run rfl rfl (Wops_run rfl rfl (Wops_run rfl rfl (Wops_run rfl rfl (Wops_call rfl ((H.e _ _).go G0 r0 (by omega)) ?_)))))
          rintro _ h9 ⟨s9, G9, hn9, hp9⟩
          have rr9 := Nat.le_trans r0 (Nat.add_le_add_right hn9 R)
          have NN9 := Nat.le_trans n0 hn9
          refine K_fin [(0, _), (1, _), (2, _), (7, _)] rfl (?_)
          refine K_reg (Wops_run rfl rfl (Wops_run rfl rfl (Wops_run rfl rfl (Wops_run rfl rfl (Wops_call rfl ((H.e _ _).go G9 rr9 (by omega)) ?_)))))
          rintro _ h10 ⟨s10, G10, hn10, hp10⟩
          have rr10 := Nat.le_trans rr9 (Nat.add_le_add_right hn10 R)
          have NN10 := Nat.le_trans NN9 hn10
          refine K_fin [(0, _), (7, _)] rfl (?_)
          refine K_reg (Wops_run rfl rfl (Wops_run rfl rfl (Wops_run rfl rfl (Wops_ld (v := ptr K.pp) rfl G10.m.gk rfl ?_))))
          refine Wops_call rfl (G10.c48 (by decide)) ?_
          rintro _ h11 ⟨r11, n11, rfl, hr11, G11, hn11, hp11, hu11, hz11, x11⟩
          have rr11 := Nat.le_trans rr10 (Nat.add_le_add_right hn11 R)
          have NN11 := Nat.le_trans NN10 hn11
          refine Wops_as (w := .int .i64 (106 + (r11 : Int))) rfl rfl (by rw [w64 (by omega)]) (Wops_run rfl rfl (K_fin [(0, _), (7, _), (11, _)] rfl (?_)))
          obtain ⟨s12, G12, hn12, hp12⟩ : ∃ q, Go K h s h11 q [] ∧ ({ s10 with n := n11 } : St).n ≤ q.n ∧ pot K q ≤ pot K ({ s10 with n := n11 } : St) := ⟨_, G11, Nat.le_refl _, Int.le_refl _⟩
          have rr12 := Nat.le_trans rr11 (Nat.add_le_add_right hn12 R)
          have NN12 := Nat.le_trans NN11 hn12
          refine K_ss (K_reg (Wops_run rfl rfl (Wops_run rfl rfl (K_fin [(0, _), (11, _), (98, _)] rfl (?_)))))
          refine K_scond rfl (fun hc => ?_) (fun hc => ?_)
          · refine K_reg (Wops_run rfl rfl (Wops_as (w := .int .i64 ((106 + (r11 : Int)) + 18)) rfl rfl (by rw [w64 (by omega)]) (Wops_run rfl rfl (K_fin [(0, _), (11, _)] rfl (?_)))))
            refine K_last (Wops_run rfl rfl (Wops_run rfl rfl (Wops_call rfl (G12.c64 (st' := []) (by omega) (fun w q => .plain q (by unfold Plain; omega))) ?_)))
            rintro _ h13 ⟨s13, G13, hn13, hp13⟩
            have rr13 := Nat.le_trans rr12 (Nat.add_le_add_right hn13 R)
            have NN13 := Nat.le_trans NN12 hn13
            refine K_finL [] rfl (?_)
            exact Told.mk [] rfl ⟨_, G13, NN13, by omega⟩
          · refine K_sskip (K_last (Wops_run rfl rfl (Wops_run rfl rfl (Wops_call rfl (G12.c64 (st' := []) (by omega) (fun w q => .plain q (by unfold Plain; omega))) ?_))))
            rintro _ h14 ⟨s14, G14, hn14, hp14⟩
            have rr14 := Nat.le_trans rr12 (Nat.add_le_add_right hn14 R)
            have NN14 := Nat.le_trans NN12 hn14
            refine K_finL [] rfl (?_)
            exact Told.mk [] rfl ⟨_, G14, NN14, by omega⟩
        · refine K_reg (Wops_run rfl rfl (Wops_run rfl rfl (Wops_run rfl rfl (K_fin [(0, _), (1, _), (2, _), (6, _), (7, _), (104, _)] rfl (?_)))))
          refine K_cond rfl (fun hc => ?_) (fun hc => ?_)
          · refine K_reg (Wops_run rfl rfl (Wops_run rfl rfl (Wops_run rfl rfl (Wops_run rfl rfl (Wops_call rfl ((H.e _ _).go G0 r0 (by omega)) ?_)))))
            rintro _ h15 ⟨s15, G15, hn15, hp15⟩
            have rr15 := Nat.le_trans r0 (Nat.add_le_add_right hn15 R)
            have NN15 := Nat.le_trans n0 hn15
            refine K_fin [(0, _), (7, _)] rfl (?_)
            refine K_reg (Wops_bslice (l := ints .i64 [103, 104, 105, 192, 193]) rfl rfl fun h16 n16 x16 g16 => ?_)
            have G16 := G15.ext0 x16
            refine Wops_run rfl rfl (Wops_run rfl rfl (Wops_run rfl rfl (Wops_ld (v := ptr K.pp) rfl G16.m.gk rfl ?_)))
            refine Wops_call rfl (G16.c48 (by decide)) ?_
            rintro _ h17 ⟨r17, n17, rfl, hr17, G17, hn17, hp17, hu17, hz17, x17⟩
            have g16x17 : At h17 h15.next (.cells (ints .i64 [103, 104, 105, 192, 193]) 1 false) := At.ext (S := (· = K.pp)) g16 x17 (by have := G15.m.lt; omega)
            have rr17 := Nat.le_trans rr15 (Nat.add_le_add_right hn17 R)
            have NN17 := Nat.le_trans NN15 hn17
            refine Wops_iaV rfl rfl ⟨by omega, by omega⟩ (Wops_ld (v := .int .i64 (([103, 104, 105, 192, 193] : List Int).getD r17 0)) rfl g16x17 (by rw [Nat.zero_add, Nat.mul_one]; exact ints_getD (L := [103, 104, 105, 192, 193]) (show r17 < 5 by omega)) ?_)
            refine Wops_run rfl rfl (K_fin [(0, _), (7, _), (12, _)] rfl (?_))
            obtain ⟨s18, G18, hn18, hp18⟩ : ∃ q, Go K h s h17 q [] ∧ ({ s15 with n := n17 } : St).n ≤ q.n ∧ pot K q ≤ pot K ({ s15 with n := n17 } : St) := ⟨_, G17, Nat.le_refl _, Int.le_refl _⟩
            have rr18 := Nat.le_trans rr17 (Nat.add_le_add_right hn18 R)
            have NN18 := Nat.le_trans NN17 hn18
            refine K_ss (K_reg (Wops_run rfl rfl (Wops_run rfl rfl (K_fin [(0, _), (12, _), (121, _)] rfl (?_)))))
            refine K_scond rfl (fun hc => ?_) (fun hc => ?_)
            · refine K_reg (Wops_bslice (l := ints .i64 [121, 122, 123, 194, 196]) rfl rfl fun h19 n19 x19 g19 => ?_)
              have G19 := G18.ext0 x19
              refine Wops_run rfl rfl (Wops_run rfl rfl (Wops_run rfl rfl (Wops_ld (v := ptr K.pp) rfl G19.m.gk rfl ?_)))
              refine Wops_call rfl (G19.c48 (by decide)) ?_
              rintro _ h20 ⟨r20, n20, rfl, hr20, G20, hn20, hp20, hu20, hz20, x20⟩
              have g19x20 : At h20 h17.next (.cells (ints .i64 [121, 122, 123, 194, 196]) 1 false) := At.ext (S := (· = K.pp)) g19 x20 (by have := G18.m.lt; omega)
              have rr20 := Nat.le_trans rr18 (Nat.add_le_add_right hn20 R)
              have NN20 := Nat.le_trans NN18 hn20
              refine Wops_iaV rfl rfl ⟨by omega, by omega⟩ (Wops_ld (v := .int .i64 (([121, 122, 123, 194, 196] : List Int).getD r20 0)) rfl g19x20 (by rw [Nat.zero_add, Nat.mul_one]; exact ints_getD (L := [121, 122, 123, 194, 196]) (show r20 < 5 by omega)) ?_)
              refine Wops_run rfl rfl (K_fin [(0, _), (12, _)] rfl (?_))
              obtain ⟨s21, G21, hn21, hp21⟩ : ∃ q, Go K h s h20 q [] ∧ ({ s18 with n := n20 } : St).n ≤ q.n ∧ pot K q ≤ pot K ({ s18 with n := n20 } : St) := ⟨_, G20, Nat.le_refl _, Int.le_refl _⟩
              have rr21 := Nat.le_trans rr20 (Nat.add_le_add_right hn21 R)
              have NN21 := Nat.le_trans NN20 hn21
              refine K_last (Wops_run rfl rfl (Wops_run rfl rfl (Wops_call rfl (G21.c64 (st' := []) (by omega) (fun w q => .plain q (getD_all (L := ([121, 122, 123, 194, 196] : List Int)) (by decide) (show r20 < 5 by omega)))) ?_)))
              rintro _ h22 ⟨s22, G22, hn22, hp22⟩
              have rr22 := Nat.le_trans rr21 (Nat.add_le_add_right hn22 R)
              have NN22 := Nat.le_trans NN21 hn22
              refine K_finL [] rfl (?_)
              exact Told.mk [] rfl ⟨_, G22, NN22, by omega⟩
            · refine K_sskip (K_last (Wops_run rfl rfl (Wops_run rfl rfl (Wops_call rfl (G18.c64 (st' := []) (by omega) (fun w q => .plain q (getD_all (L := ([103, 104, 105, 192, 193] : List Int)) (by decide) (show r17 < 5 by omega)))) ?_))))
              rintro _ h23 ⟨s23, G23, hn23, hp23⟩
              have rr23 := Nat.le_trans rr18 (Nat.add_le_add_right hn23 R)
              have NN23 := Nat.le_trans NN18 hn23
              refine K_finL [] rfl (?_)
              exact Told.mk [] rfl ⟨_, G23, NN23, by omega⟩
          · refine K_reg (Wops_run rfl rfl (Wops_run rfl rfl (Wops_run rfl rfl (K_fin [(0, _), (1, _), (2, _), (6, _), (7, _), (133, _)] rfl (?_)))))
            refine K_cond rfl (fun hc => ?_) (fun hc => ?_)
            · refine K_reg (Wops_run rfl rfl (K_fin [(0, _), (2, _), (136, _)] rfl (?_)))
              refine K_cond rfl (fun hc => ?_) (fun hc => ?_)
              · refine K_reg (Wops_bslice (l := ints .u8 [127, 126]) rfl rfl fun h24 n24 x24 g24 => ?_)
                have G24 := G0.ext0 x24
                refine Wops_run rfl rfl (Wops_run rfl rfl (Wops_run rfl rfl (Wops_ld (v := ptr K.pp) rfl G24.m.gk rfl ?_)))
                refine Wops_call rfl (G24.c48 (by decide)) ?_
                rintro _ h25 ⟨r25, n25, rfl, hr25, G25, hn25, hp25, hu25, hz25, x25⟩
                have g24x25 : At h25 h1.next (.cells (ints .u8 [127, 126]) 1 false) := At.ext (S := (· = K.pp)) g24 x25 (by have := G0.m.lt; omega)
                have rr25 := Nat.le_trans r0 (Nat.add_le_add_right hn25 R)
                have NN25 := Nat.le_trans n0 hn25
                refine Wops_iaV rfl rfl ⟨by omega, by omega⟩ (Wops_ld (v := .int .u8 (([127, 126] : List Int).getD r25 0)) rfl g24x25 (by rw [Nat.zero_add, Nat.mul_one]; exact ints_getD (L := [127, 126]) (show r25 < 2 by omega)) ?_)
                refine Wops_run rfl rfl (K_fin [(0, _), (2, _), (13, _)] rfl (?_))
                obtain ⟨s26, G26, hn26, hp26⟩ : ∃ q, Go K h s h25 q [] ∧ ({ s1 with n := n25 } : St).n ≤ q.n ∧ pot K q ≤ pot K ({ s1 with n := n25 } : St) := ⟨_, G25, Nat.le_refl _, Int.le_refl _⟩
                have rr26 := Nat.le_trans rr25 (Nat.add_le_add_right hn26 R)
                have NN26 := Nat.le_trans NN25 hn26
                refine K_reg (Wops_run rfl rfl (Wops_run rfl rfl (Wops_run rfl rfl (Wops_run rfl rfl (Wops_call rfl ((H.e _ _).go G26 rr26 (by omega)) ?_)))))
                rintro _ h27 ⟨s27, G27, hn27, hp27⟩
                have rr27 := Nat.le_trans rr26 (Nat.add_le_add_right hn27 R)
                have NN27 := Nat.le_trans NN26 hn27
                refine K_fin [(0, _), (2, _), (13, _)] rfl (?_)
                refine K_reg (Wops_run rfl rfl (Wops_run rfl rfl (Wops_run rfl rfl (Wops_run rfl rfl (Wops_call rfl ((H.e _ _).go G27 rr27 (by omega)) ?_)))))
                rintro _ h28 ⟨s28, G28, hn28, hp28⟩
                have rr28 := Nat.le_trans rr27 (Nat.add_le_add_right hn28 R)
                have NN28 := Nat.le_trans NN27 hn28
                refine K_fin [(0, _), (13, _)] rfl (?_)
                refine K_reg (Wops_run rfl rfl (Wops_run rfl rfl (Wops_run rfl rfl (Wops_ld (v := ptr K.pp) rfl G28.m.gk rfl ?_))))
                refine Wops_call rfl (G28.c48 (by decide)) ?_
                rintro _ h29 ⟨r29, n29, rfl, hr29, G29, hn29, hp29, hu29, hz29, x29⟩
                have rr29 := Nat.le_trans rr28 (Nat.add_le_add_right hn29 R)
                have NN29 := Nat.le_trans NN28 hn29
                refine Wops_as (w := .int .i64 (70 + (r29 : Int))) rfl rfl (by rw [w64 (by omega)]) (Wops_run rfl rfl (K_fin [(0, _), (13, _), (14, _)] rfl (?_)))
                obtain ⟨s30, G30, hn30, hp30⟩ : ∃ q, Go K h s h29 q [] ∧ ({ s28 with n := n29 } : St).n ≤ q.n ∧ pot K q ≤ pot K ({ s28 with n := n29 } : St) := ⟨_, G29, Nat.le_refl _, Int.le_refl _⟩
                have rr30 := Nat.le_trans rr29 (Nat.add_le_add_right hn30 R)
                have NN30 := Nat.le_trans NN29 hn30
                refine K_ss (K_reg (Wops_run rfl rfl (Wops_run rfl rfl (K_fin [(0, _), (14, _), (162, _)] rfl (?_)))))
                refine K_scond rfl (fun hc => ?_) (fun hc => ?_)
                · refine K_reg (Wops_run rfl rfl (Wops_as (w := .int .i64 ((70 + (r29 : Int)) + 11)) rfl rfl (by rw [w64 (by omega)]) (Wops_run rfl rfl (K_fin [(0, _), (14, _)] rfl (?_)))))
                  refine K_last (Wops_run rfl rfl (Wops_run rfl rfl (Wops_call rfl (G30.c64 (st' := []) (by omega) (fun w q => .plain q (by unfold Plain; omega))) ?_)))
                  rintro _ h31 ⟨s31, G31, hn31, hp31⟩
                  have rr31 := Nat.le_trans rr30 (Nat.add_le_add_right hn31 R)
                  have NN31 := Nat.le_trans NN30 hn31
                  refine K_finL [] rfl (?_)
                  exact Told.mk [] rfl ⟨_, G31, NN31, by omega⟩
                · refine K_sskip (K_last (Wops_run rfl rfl (Wops_run rfl rfl (Wops_call rfl (G30.c64 (st' := []) (by omega) (fun w q => .plain q (by unfold Plain; omega))) ?_))))
                  rintro _ h32 ⟨s32, G32, hn32, hp32⟩
                  have rr32 := Nat.le_trans rr30 (Nat.add_le_add_right hn32 R)
                  have NN32 := Nat.le_trans NN30 hn32
                  refine K_finL [] rfl (?_)
                  exact Told.mk [] rfl ⟨_, G32, NN32, by omega⟩
              · refine K_reg (Wops_run rfl rfl (Wops_run rfl rfl (Wops_run rfl rfl (Wops_call rfl ((H.e _ _).go G0 r0 (by omega)) ?_))))
                rintro _ h33 ⟨s33, G33, hn33, hp33⟩
                have rr33 := Nat.le_trans r0 (Nat.add_le_add_right hn33 R)
                have NN33 := Nat.le_trans n0 hn33
                refine K_fin [(0, _)] rfl (?_)
                refine K_last (Wops_run rfl rfl (Wops_run rfl rfl (Wops_run rfl rfl (Wops_run rfl rfl (Wops_ld (v := ptr K.pp) rfl G33.m.gk rfl ?_)))))
                refine Wops_call rfl (G33.c48 (by decide)) ?_
                rintro _ h34 ⟨r34, n34, rfl, hr34, G34, hn34, hp34, hu34, hz34, x34⟩
                have rr34 := Nat.le_trans rr33 (Nat.add_le_add_right hn34 R)
                have NN34 := Nat.le_trans NN33 hn34
                refine Wops_as (w := .int .i64 (172 + (r34 : Int))) rfl rfl (by rw [w64 (by omega)]) (Wops_call rfl (G34.c64 (st' := []) (by omega) (fun w q => .plain q (by unfold Plain; omega))) ?_)
                rintro _ h35 ⟨s35, G35, hn35, hp35⟩
                have rr35 := Nat.le_trans rr34 (Nat.add_le_add_right hn35 R)
                have NN35 := Nat.le_trans NN34 hn35
                refine K_finL [] rfl (?_)
                exact Told.mk [] rfl ⟨_, G35, NN35, by omega⟩
            · refine K_reg (Wops_run rfl rfl (Wops_run rfl rfl (Wops_run rfl rfl (K_fin [(0, _), (1, _), (2, _), (6, _), (7, _), (180, _)] rfl (?_)))))
              refine K_cond rfl (fun hc => ?_) (fun hc => ?_)
              · refine K_reg (Wops_run rfl rfl (Wops_run rfl rfl (Wops_run rfl rfl (Wops_call rfl ((H.e _ _).go G0 r0 (by omega)) ?_))))
                rintro _ h36 ⟨s36, G36, hn36, hp36⟩
                have rr36 := Nat.le_trans r0 (Nat.add_le_add_right hn36 R)
                have NN36 := Nat.le_trans n0 hn36
                refine K_fin [(0, _), (7, _)] rfl (?_)
                refine K_reg (Wops_bslice (l := ints .i64 [40, 44, 45, 46, 47]) rfl rfl fun h37 n37 x37 g37 => ?_)
                have G37 := G36.ext0 x37
                refine Wops_run rfl rfl (Wops_run rfl rfl (Wops_run rfl rfl (Wops_ld (v := ptr K.pp) rfl G37.m.gk rfl ?_)))
                refine Wops_call rfl (G37.c48 (by decide)) ?_
                rintro _ h38 ⟨r38, n38, rfl, hr38, G38, hn38, hp38, hu38, hz38, x38⟩
                have g37x38 : At h38 h36.next (.cells (ints .i64 [40, 44, 45, 46, 47]) 1 false) := At.ext (S := (· = K.pp)) g37 x38 (by have := G36.m.lt; omega)
                have rr38 := Nat.le_trans rr36 (Nat.add_le_add_right hn38 R)
                have NN38 := Nat.le_trans NN36 hn38
                refine Wops_iaV rfl rfl ⟨by omega, by omega⟩ (Wops_ld (v := .int .i64 (([40, 44, 45, 46, 47] : List Int).getD r38 0)) rfl g37x38 (by rw [Nat.zero_add, Nat.mul_one]; exact ints_getD (L := [40, 44, 45, 46, 47]) (show r38 < 5 by omega)) ?_)
                refine Wops_run rfl rfl (K_fin [(0, _), (7, _), (15, _)] rfl (?_))
                obtain ⟨s39, G39, hn39, hp39⟩ : ∃ q, Go K h s h38 q [] ∧ ({ s36 with n := n38 } : St).n ≤ q.n ∧ pot K q ≤ pot K ({ s36 with n := n38 } : St) := ⟨_, G38, Nat.le_refl _, Int.le_refl _⟩
                have rr39 := Nat.le_trans rr38 (Nat.add_le_add_right hn39 R)
                have NN39 := Nat.le_trans NN38 hn39
                refine K_ss (K_reg (Wops_run rfl rfl (Wops_run rfl rfl (K_fin [(0, _), (15, _), (196, _)] rfl (?_)))))
                refine K_scond rfl (fun hc => ?_) (fun hc => ?_)
                · refine K_reg (Wops_bslice (l := ints .i64 [41, 48, 49, 50, 52]) rfl rfl fun h40 n40 x40 g40 => ?_)
                  have G40 := G39.ext0 x40
                  refine Wops_run rfl rfl (Wops_run rfl rfl (Wops_run rfl rfl (Wops_ld (v := ptr K.pp) rfl G40.m.gk rfl ?_)))
                  refine Wops_call rfl (G40.c48 (by decide)) ?_
                  rintro _ h41 ⟨r41, n41, rfl, hr41, G41, hn41, hp41, hu41, hz41, x41⟩
                  have g40x41 : At h41 h38.next (.cells (ints .i64 [41, 48, 49, 50, 52]) 1 false) := At.ext (S := (· = K.pp)) g40 x41 (by have := G39.m.lt; omega)
                  have rr41 := Nat.le_trans rr39 (Nat.add_le_add_right hn41 R)
                  have NN41 := Nat.le_trans NN39 hn41
                  refine Wops_iaV rfl rfl ⟨by omega, by omega⟩ (Wops_ld (v := .int .i64 (([41, 48, 49, 50, 52] : List Int).getD r41 0)) rfl g40x41 (by rw [Nat.zero_add, Nat.mul_one]; exact ints_getD (L := [41, 48, 49, 50, 52]) (show r41 < 5 by omega)) ?_)
                  refine Wops_run rfl rfl (K_fin [(0, _), (15, _)] rfl (?_))
                  obtain ⟨s42, G42, hn42, hp42⟩ : ∃ q, Go K h s h41 q [] ∧ ({ s39 with n := n41 } : St).n ≤ q.n ∧ pot K q ≤ pot K ({ s39 with n := n41 } : St) := ⟨_, G41, Nat.le_refl _, Int.le_refl _⟩
                  have rr42 := Nat.le_trans rr41 (Nat.add_le_add_right hn42 R)
                  have NN42 := Nat.le_trans NN41 hn42
                  refine K_last (Wops_run rfl rfl (Wops_run rfl rfl (Wops_run rfl rfl (Wops_run rfl rfl (Wops_ld (v := .slice s42.oa s42.ops.length s42.oc) rfl G42.m.gk rfl ?_)))))
                  refine Wops_run rfl rfl (Wops_run rfl rfl (Wops_run rfl rfl (Wops_run rfl rfl (Wops_ld (v := ptr K.pp) rfl G42.m.gk rfl ?_))))
                  refine Wops_call rfl (G42.c48 (by decide)) ?_
                  rintro _ h43 ⟨r43, n43, rfl, hr43, G43, hn43, hp43, hu43, hz43, x43⟩
                  have rr43 := Nat.le_trans rr42 (Nat.add_le_add_right hn43 R)
                  have NN43 := Nat.le_trans NN42 hn43
                  obtain ⟨lq44, oq44, _⟩ := G43.m.o
                  refine Wops_chk rfl rfl G43.m.gk (v := .slice s42.oa s42.ops.length s42.oc) rfl oq44.sl.same ?_
                  refine Wops_run rfl rfl (Wops_run rfl rfl (?_))
                  obtain ⟨l45, o45, il45⟩ := G43.m.o
                  have hops45 : s42.ops.length ≤ 100100 := pot_opsB (K := K) (s := ({ s42 with n := n43 } : St)) G43.m (by omega)
                  refine Wops_bslice (l := [.int .i64 (([41, 48, 49, 50, 52] : List Int).getD r41 0), .int .u32 0, _, .int .u64 0, .slice none 0 0, .int .i64 0]) rfl rfl fun h45 n45 x45 g45 => ?_
                  refine Wops_app (m := 1) rfl rfl (o45.ext x45) rfl (OwS.new (n := 1) (c := 1) g45 rfl).sl.first ⟨by omega, by omega⟩ rfl rfl (by decide) fun hh45 a45 c45 xx45 oo45 b45 => ?_
                  refine Wops_run rfl rfl (Wops_run rfl rfl (Wops_st (l := [.slice a45 (({ s42 with n := n43 } : St).ops.length + 1) c45]) rfl rfl rfl rfl ((G43.m.gk.ext x45).ext xx45 fun r => (G43.m.no _ r).2.1 rfl) (by simp) rfl fun h46 nn46 x46 g46 => ?_))
                  obtain ⟨s46, G46, hn46, hp46⟩ := G43.push' (k := 1) (os := [(([41, 48, 49, 50, 52] : List Int).getD r41 0)]) (st' := []) il45 x45 xx45 rfl oo45 b45 x46 g46 (.one rfl) (fun w q => .plain q (getD_all (L := ([41, 48, 49, 50, 52] : List Int)) (by decide) (show r41 < 5 by omega)))
                  have rr46 := Nat.le_trans rr43 (Nat.add_le_add_right hn46 R)
                  have NN46 := Nat.le_trans NN43 hn46
                  refine K_finL [] rfl (?_)
                  exact Told.mk [] rfl ⟨_, G46, NN46, by omega⟩
                · refine K_sskip (K_last (Wops_run rfl rfl (Wops_run rfl rfl (Wops_run rfl rfl (Wops_run rfl rfl (Wops_ld (v := .slice s39.oa s39.ops.length s39.oc) rfl G39.m.gk rfl ?_))))))
                  refine Wops_run rfl rfl (Wops_run rfl rfl (Wops_run rfl rfl (Wops_run rfl rfl (Wops_ld (v := ptr K.pp) rfl G39.m.gk rfl ?_))))
                  refine Wops_call rfl (G39.c48 (by decide)) ?_
                  rintro _ h47 ⟨r47, n47, rfl, hr47, G47, hn47, hp47, hu47, hz47, x47⟩
                  have rr47 := Nat.le_trans rr39 (Nat.add_le_add_right hn47 R)
                  have NN47 := Nat.le_trans NN39 hn47
                  obtain ⟨lq48, oq48, _⟩ := G47.m.o
                  refine Wops_chk rfl rfl G47.m.gk (v := .slice s39.oa s39.ops.length s39.oc) rfl oq48.sl.same ?_
                  refine Wops_run rfl rfl (Wops_run rfl rfl (?_))
                  obtain ⟨l49, o49, il49⟩ := G47.m.o
                  have hops49 : s39.ops.length ≤ 100100 := pot_opsB (K := K) (s := ({ s39 with n := n47 } : St)) G47.m (by omega)
                  refine Wops_bslice (l := [.int .i64 (([40, 44, 45, 46, 47] : List Int).getD r38 0), .int .u32 0, _, .int .u64 0, .slice none 0 0, .int .i64 0]) rfl rfl fun h49 n49 x49 g49 => ?_
                  refine Wops_app (m := 1) rfl rfl (o49.ext x49) rfl (OwS.new (n := 1) (c := 1) g49 rfl).sl.first ⟨by omega, by omega⟩ rfl rfl (by decide) fun hh49 a49 c49 xx49 oo49 b49 => ?_
                  refine Wops_run rfl rfl (Wops_run rfl rfl (Wops_st (l := [.slice a49 (({ s39 with n := n47 } : St).ops.length + 1) c49]) rfl rfl rfl rfl ((G47.m.gk.ext x49).ext xx49 fun r => (G47.m.no _ r).2.1 rfl) (by simp) rfl fun h50 nn50 x50 g50 => ?_))
                  obtain ⟨s50, G50, hn50, hp50⟩ := G47.push' (k := 1) (os := [(([40, 44, 45, 46, 47] : List Int).getD r38 0)]) (st' := []) il49 x49 xx49 rfl oo49 b49 x50 g50 (.one rfl) (fun w q => .plain q (getD_all (L := ([40, 44, 45, 46, 47] : List Int)) (by decide) (show r38 < 5 by omega)))
                  have rr50 := Nat.le_trans rr47 (Nat.add_le_add_right hn50 R)
                  have NN50 := Nat.le_trans NN47 hn50
                  refine K_finL [] rfl (?_)
                  exact Told.mk [] rfl ⟨_, G50, NN50, by omega⟩
              · refine K_reg (Wops_run rfl rfl (Wops_run rfl rfl (Wops_run rfl rfl (K_fin [(0, _), (1, _), (2, _), (6, _), (7, _), (222, _)] rfl (?_)))))
                refine K_cond rfl (fun hc => ?_) (fun hc => ?_)
                · refine K_reg (Wops_run rfl rfl (Wops_run rfl rfl (Wops_run rfl rfl (Wops_run rfl rfl (Wops_call rfl ((H.e _ _).go G0 r0 (by omega)) ?_)))))
                  rintro _ h51 ⟨s51, G51, hn51, hp51⟩
                  have rr51 := Nat.le_trans r0 (Nat.add_le_add_right hn51 R)
                  have NN51 := Nat.le_trans n0 hn51
                  refine K_fin [(0, _), (1, _), (2, _)] rfl (?_)
                  refine K_reg (Wops_run rfl rfl (Wops_run rfl rfl (Wops_run rfl rfl (Wops_run rfl rfl (Wops_call rfl ((H.e _ _).go G51 rr51 (by omega)) ?_)))))
                  rintro _ h52 ⟨s52, G52, hn52, hp52⟩
                  have rr52 := Nat.le_trans rr51 (Nat.add_le_add_right hn52 R)
                  have NN52 := Nat.le_trans NN51 hn52
                  refine K_fin [(0, _), (2, _)] rfl (?_)
                  refine K_reg (Wops_run rfl rfl (Wops_run rfl rfl (Wops_run rfl rfl (Wops_call rfl ((H.e _ _).go G52 rr52 (by omega)) ?_))))
                  rintro _ h53 ⟨s53, G53, hn53, hp53⟩
                  have rr53 := Nat.le_trans rr52 (Nat.add_le_add_right hn53 R)
                  have NN53 := Nat.le_trans NN52 hn53
                  refine K_fin [(0, _)] rfl (?_)
                  refine K_last (Wops_run rfl rfl (Wops_call rfl (G53.c64 (st' := []) (by omega) (fun w q => .plain q (by decide))) ?_))
                  rintro _ h54 ⟨s54, G54, hn54, hp54⟩
                  have rr54 := Nat.le_trans rr53 (Nat.add_le_add_right hn54 R)
                  have NN54 := Nat.le_trans NN53 hn54
                  refine K_finL [] rfl (?_)
                  exact Told.mk [] rfl ⟨_, G54, NN54, by omega⟩
                · refine K_reg (Wops_run rfl rfl (Wops_run rfl rfl (Wops_run rfl rfl (K_fin [(0, _), (1, _), (2, _), (6, _), (7, _), (241, _)] rfl (?_)))))
                  refine K_cond rfl (fun hc => ?_) (fun hc => ?_)
                  · refine K_last (Wops_run rfl rfl (Wops_run rfl rfl (Wops_run rfl rfl (Wops_call rfl ((H.b _ _ _ (.inl rfl)).go G0 r0 (by omega)) ?_))))
                    rintro _ h55 ⟨s55, G55, hn55, hp55⟩
                    have rr55 := Nat.le_trans r0 (Nat.add_le_add_right hn55 R)
                    have NN55 := Nat.le_trans n0 hn55
                    refine K_finL [] rfl (?_)
                    exact Told.mk [] rfl ⟨_, G55, NN55, by omega⟩
                  · refine K_reg (Wops_run rfl rfl (Wops_run rfl rfl (Wops_run rfl rfl (K_fin [(0, _), (1, _), (2, _), (6, _), (7, _), (248, _)] rfl (?_)))))
                    refine K_cond rfl (fun hc => ?_) (fun hc => ?_)
                    · refine K_reg (Wops_run rfl rfl (Wops_run rfl rfl (Wops_run rfl rfl (Wops_call rfl ((H.e _ _).go G0 r0 (by omega)) ?_))))
                      rintro _ h56 ⟨s56, G56, hn56, hp56⟩
                      have rr56 := Nat.le_trans r0 (Nat.add_le_add_right hn56 R)
                      have NN56 := Nat.le_trans n0 hn56
                      refine K_fin [(0, _), (1, _), (2, _)] rfl (?_)
                      refine K_last (Wops_run rfl rfl (Wops_run rfl rfl (Wops_run rfl rfl (Wops_call rfl ((H.b _ _ _ (.inr rfl)).go G56 rr56 (by omega)) ?_))))
                      rintro _ h57 ⟨s57, G57, hn57, hp57⟩
                      have rr57 := Nat.le_trans rr56 (Nat.add_le_add_right hn57 R)
                      have NN57 := Nat.le_trans NN56 hn57
                      refine K_finL [] rfl (?_)
                      exact Told.mk [] rfl ⟨_, G57, NN57, by omega⟩
                    · refine K_reg (Wops_run rfl rfl (Wops_run rfl rfl (Wops_run rfl rfl (K_fin [(0, _), (1, _), (2, _), (6, _), (7, _), (259, _)] rfl (?_)))))
                      refine K_cond rfl (fun hc => ?_) (fun hc => ?_)
                      · refine K_reg (Wops_run rfl rfl (K_fin [(0, _), (1, _), (2, _), (262, _)] rfl (?_)))
                        refine K_cond rfl (fun hc => ?_) (fun hc => ?_)
                        · refine K_reg (Wops_run rfl rfl (Wops_run rfl rfl (Wops_run rfl rfl (Wops_call rfl ((H.e _ _).go G0 r0 (by omega)) ?_))))
                          rintro _ h58 ⟨s58, G58, hn58, hp58⟩
                          have rr58 := Nat.le_trans r0 (Nat.add_le_add_right hn58 R)
                          have NN58 := Nat.le_trans n0 hn58
                          refine K_fin [(0, _)] rfl (?_)
                          refine K_last (Wops_run rfl rfl (Wops_call rfl (G58.c64 (st' := []) (by omega) (fun w q => .plain q (by decide))) ?_))
                          rintro _ h59 ⟨s59, G59, hn59, hp59⟩
                          have rr59 := Nat.le_trans rr58 (Nat.add_le_add_right hn59 R)
                          have NN59 := Nat.le_trans NN58 hn59
                          refine K_finL [] rfl (?_)
                          exact Told.mk [] rfl ⟨_, G59, NN59, by omega⟩
                        · refine K_last (Wops_run rfl rfl (Wops_run rfl rfl (Wops_call rfl (G0.c60 (by omega)) ?_)))
                          rintro _ h60 ⟨s60, G60, hn60, hp60⟩
                          have rr60 := Nat.le_trans r0 (Nat.add_le_add_right hn60 R)
                          have NN60 := Nat.le_trans n0 hn60
                          refine K_finL [] rfl (?_)
                          exact Told.mk [] rfl ⟨_, G60, NN60, by omega⟩
                      · refine K_reg (Wops_run rfl rfl (Wops_run rfl rfl (Wops_run rfl rfl (K_fin [(0, _), (1, _), (2, _), (272, _)] rfl (?_)))))
                        refine K_cond rfl (fun hc => ?_) (fun hc => ?_)
                        · refine K_last (Wops_run rfl rfl (Wops_run rfl rfl (Wops_run rfl rfl (Wops_call rfl ((H.l _ _).go G0 r0 (by omega)) ?_))))
                          rintro _ h61 ⟨s61, G61, hn61, hp61⟩
                          have rr61 := Nat.le_trans r0 (Nat.add_le_add_right hn61 R)
                          have NN61 := Nat.le_trans n0 hn61
                          refine K_finL [] rfl (?_)
                          exact Told.mk [] rfl ⟨_, G61, NN61, by omega⟩
                        · refine K_last (Wops_run rfl rfl (Wops_run rfl rfl (Wops_run rfl rfl (Wops_call rfl ((H.z _ _).go G0 r0 (by omega)) ?_))))
                          rintro _ h62 ⟨s62, G62, hn62, hp62⟩
                          have rr62 := Nat.le_trans r0 (Nat.add_le_add_right hn62 R)
                          have NN62 := Nat.le_trans n0 hn62
                          refine K_finL [] rfl (?_)
                          exact Told.mk [] rfl ⟨_, G62, NN62, by omega⟩

set_option maxHeartbeats 4000000 in
/-- (*cloakroom/cloakroomplay.maker).sizes -/
theorem E67 {K : Kt} {R : Nat} (E : ∀ t d, CF K R 22 [ptr K.pk, .int .u8 t, .int .i64 d] 1 100000) {t d : Int} : CF K R 47 [ptr K.pk, .int .u8 t, .int .i64 d] 3 99975 := by
  intro h s m r0 p0
  have G0 := Go.refl m
  have n0 := Nat.le_refl s.n
  refine fnK F47.fok rfl ?_
  refine K_ss (K_reg (Wops_run rfl rfl (Wops_run rfl rfl (K_fin [(0, _), (1, _), (2, _), (7, _)] rfl (?_)))))
  refine K_scond rfl (fun hc => ?_) (fun hc => ?_)
  · refine K_ss (K_reg (Wops_run rfl rfl (Wops_run rfl rfl (Wops_call rfl (G0.c60 (by omega)) ?_))))
    rintro _ h1 ⟨s1, G1, hn1, hp1⟩
    have rr1 := Nat.le_trans r0 (Nat.add_le_add_right hn1 R)
    have NN1 := Nat.le_trans n0 hn1
    refine K_fin [] rfl (?_)
    refine K_sret ?_
    exact Told.mk [] rfl ⟨_, G1, NN1, by omega⟩
  · refine K_sskip (K_reg (Wops_run rfl rfl (Wops_run rfl rfl (Wops_run rfl rfl (Wops_ld (v := ptr K.pp) rfl G0.m.gk rfl ?_)))))
    refine Wops_call rfl (G0.c48 (by decide)) ?_
    rintro _ h2 ⟨r2, n2, rfl, hr2, G2, hn2, hp2, hu2, hz2, x2⟩
    have rr2 := Nat.le_trans r0 (Nat.add_le_add_right hn2 R)
    have NN2 := Nat.le_trans n0 hn2
    refine K_fin [(0, _), (2, _), (15, _)] rfl (?_)
    obtain ⟨s3, G3, hn3, hp3⟩ : ∃ q, Go K h s h2 q [] ∧ ({ s with n := n2 } : St).n ≤ q.n ∧ pot K q ≤ pot K ({ s with n := n2 } : St) := ⟨_, G2, Nat.le_refl _, Int.le_refl _⟩
    have rr3 := Nat.le_trans rr2 (Nat.add_le_add_right hn3 R)
    have NN3 := Nat.le_trans NN2 hn3
    refine K_block ?_
    refine K_reg (Wops_run rfl rfl (Wops_run rfl rfl (K_fin [(0, _), (2, _), (15, _), (28, _)] rfl (?_))))
    refine K_cond rfl (fun hc => ?_) (fun hc => ?_)
    · refine K_last (Wops_run rfl rfl (Wops_call rfl (G3.c64 (st' := []) (by omega) (fun w q => .plain q (by decide))) ?_))
      rintro _ h4 ⟨s4, G4, hn4, hp4⟩
      have rr4 := Nat.le_trans rr3 (Nat.add_le_add_right hn4 R)
      have NN4 := Nat.le_trans NN3 hn4
      refine K_finL [] rfl (?_)
      exact Told.mk [] rfl ⟨_, G4, NN4, by omega⟩
    · refine K_reg (Wops_run rfl rfl (Wops_run rfl rfl (K_fin [(0, _), (2, _), (15, _), (32, _)] rfl (?_))))
      refine K_cond rfl (fun hc => ?_) (fun hc => ?_)
      · refine K_reg (Wops_run rfl rfl (Wops_run rfl rfl (Wops_run rfl rfl (Wops_call rfl ((E _ _).go G3 rr3 (by omega)) ?_))))
        rintro _ h5 ⟨s5, G5, hn5, hp5⟩
        have rr5 := Nat.le_trans rr3 (Nat.add_le_add_right hn5 R)
        have NN5 := Nat.le_trans NN3 hn5
        refine K_fin [(0, _)] rfl (?_)
        refine K_last (Wops_run rfl rfl (Wops_call rfl (G5.c64 (st' := []) (by omega) (fun w q => .plain q (by decide))) ?_))
        rintro _ h6 ⟨s6, G6, hn6, hp6⟩
        have rr6 := Nat.le_trans rr5 (Nat.add_le_add_right hn6 R)
        have NN6 := Nat.le_trans NN5 hn6
        refine K_finL [] rfl (?_)
        exact Told.mk [] rfl ⟨_, G6, NN6, by omega⟩
      · refine K_reg (Wops_run rfl rfl (Wops_run rfl rfl (K_fin [(0, _), (2, _), (15, _), (40, _)] rfl (?_))))
        refine K_cond rfl (fun hc => ?_) (fun hc => ?_)
        · refine K_last (Wops_run rfl rfl (Wops_call rfl (G3.c63 (st' := []) (by omega) (fun w q => .plain q (by decide))) ?_))
          rintro _ h7 ⟨s7, G7, hn7, hp7⟩
          have rr7 := Nat.le_trans rr3 (Nat.add_le_add_right hn7 R)
          have NN7 := Nat.le_trans NN3 hn7
          refine K_finL [] rfl (?_)
          exact Told.mk [] rfl ⟨_, G7, NN7, by omega⟩
        · refine K_reg (Wops_run rfl rfl (Wops_run rfl rfl (K_fin [(0, _), (2, _), (44, _)] rfl (?_))))
          refine K_cond rfl (fun hc => ?_) (fun hc => ?_)
          · refine K_reg (Wops_run rfl rfl (Wops_run rfl rfl (Wops_run rfl rfl (Wops_call rfl ((E _ _).go G3 rr3 (by omega)) ?_))))
            rintro _ h8 ⟨s8, G8, hn8, hp8⟩
            have rr8 := Nat.le_trans rr3 (Nat.add_le_add_right hn8 R)
            have NN8 := Nat.le_trans NN3 hn8
            refine K_fin [(0, _)] rfl (?_)
            refine K_reg (Wops_run rfl rfl (Wops_call rfl (G8.c63 (st' := []) (by omega) (fun w q => .plain q (by decide))) ?_))
            rintro _ h9 ⟨s9, G9, hn9, hp9⟩
            have rr9 := Nat.le_trans rr8 (Nat.add_le_add_right hn9 R)
            have NN9 := Nat.le_trans NN8 hn9
            refine K_fin [(0, _)] rfl (?_)
            refine K_last (Wops_run rfl rfl (Wops_call rfl (G9.c64 (st' := []) (by omega) (fun w q => .plain q (by decide))) ?_))
            rintro _ h10 ⟨s10, G10, hn10, hp10⟩
            have rr10 := Nat.le_trans rr9 (Nat.add_le_add_right hn10 R)
            have NN10 := Nat.le_trans NN9 hn10
            refine K_finL [] rfl (?_)
            exact Told.mk [] rfl ⟨_, G10, NN10, by omega⟩
          · refine K_reg (Wops_run rfl rfl (Wops_call rfl (G3.c63 (st' := []) (by omega) (fun w q => .plain q (by decide))) ?_))
            rintro _ h11 ⟨s11, G11, hn11, hp11⟩
            have rr11 := Nat.le_trans rr3 (Nat.add_le_add_right hn11 R)
            have NN11 := Nat.le_trans NN3 hn11
            refine K_fin [(0, _)] rfl (?_)
            refine K_reg (Wops_run rfl rfl (Wops_run rfl rfl (Wops_run rfl rfl (Wops_run rfl rfl (Wops_ld (v := ptr K.pp) rfl G11.m.gk rfl ?_)))))
            refine Wops_call rfl (G11.c48 (by decide)) ?_
            rintro _ h12 ⟨r12, n12, rfl, hr12, G12, hn12, hp12, hu12, hz12, x12⟩
            have rr12 := Nat.le_trans rr11 (Nat.add_le_add_right hn12 R)
            have NN12 := Nat.le_trans NN11 hn12
            refine Wops_run rfl rfl (Wops_call rfl (G12.c60 (by omega)) ?_)
            rintro _ h13 ⟨s13, G13, hn13, hp13⟩
            have rr13 := Nat.le_trans rr12 (Nat.add_le_add_right hn13 R)
            have NN13 := Nat.le_trans NN12 hn13
            refine K_fin [(0, _)] rfl (?_)
            refine K_last (Wops_run rfl rfl (Wops_call rfl (G13.c63 (st' := []) (by omega) (fun w q => .plain q (by decide))) ?_))
            rintro _ h14 ⟨s14, G14, hn14, hp14⟩
            have rr14 := Nat.le_trans rr13 (Nat.add_le_add_right hn14 R)
            have NN14 := Nat.le_trans NN13 hn14
            refine K_finL [] rfl (?_)
            exact Told.mk [] rfl ⟨_, G14, NN14, by omega⟩

set_option maxHeartbeats 4000000 in
/-- (*cloakroom/cloakroomplay.maker).block -/
theorem E65a {K : Kt} {R : Nat} (E : ∀ t d, CF K R 22 [ptr K.pk, .int .u8 t, .int .i64 d] 1 100000) (S : ∀ n d, n ≤ 1000 → CF K R 21 [ptr K.pk, .int .i64 n, .int .i64 d] 0 100000) {t d : Int} : CF K R 45 [ptr K.pk, .int .i64 2, .int .u8 t, .int .i64 d] 8 99975 := by
  intro h s m r0 p0
  have G0 := Go.refl m
  have n0 := Nat.le_refl s.n
  refine fnK F45.fok rfl ?_
  refine K_reg (Wops_run rfl rfl (Wops_run rfl rfl (Wops_run rfl rfl (Wops_ld (v := .int .i64 s.deep) rfl G0.m.gk rfl ?_))))
  refine Wops_run rfl rfl (Wops_run rfl rfl (Wops_run rfl rfl (Wops_st (l := [.int .i64 _]) rfl rfl rfl rfl G0.m.gk (by simp) rfl fun h1 nn1 x1 g1 => ?_)))
  obtain ⟨s1, G1, hn1, hp1⟩ := G0.deep' x1 g1
  have rr1 := Nat.le_trans r0 (Nat.add_le_add_right hn1 R)
  have NN1 := Nat.le_trans n0 hn1
  refine K_fin [(0, _), (1, _), (2, _), (3, _)] rfl (?_)
  refine K_reg (Wops_run rfl rfl (Wops_run rfl rfl (Wops_run rfl rfl (Wops_run rfl rfl (Wops_ld (v := .slice s1.oa s1.ops.length s1.oc) rfl G1.m.gk rfl ?_)))))
  refine Wops_run rfl rfl (Wops_run rfl rfl (Wops_run rfl rfl (Wops_run rfl rfl (Wops_run rfl rfl (?_)))))
  obtain ⟨l2, o2, il2⟩ := G1.m.o
  have hops2 : s1.ops.length ≤ 100100 := pot_opsB (K := K) (s := s1) G1.m (by omega)
  refine Wops_bslice (l := [.int .i64 2, .int .u32 0, .int .u32 0, .int .u64 0, .slice none 0 0, _]) rfl rfl fun h2 n2 x2 g2 => ?_
  refine Wops_app (m := 1) rfl rfl (o2.ext x2) rfl (OwS.new (n := 1) (c := 1) g2 rfl).sl.first ⟨by omega, by omega⟩ rfl rfl (by decide) fun hh2 a2 c2 xx2 oo2 b2 => ?_
  refine Wops_run rfl rfl (Wops_run rfl rfl (Wops_st (l := [.slice a2 (s1.ops.length + 1) c2]) rfl rfl rfl rfl ((G1.m.gk.ext x2).ext xx2 fun r => (G1.m.no _ r).2.1 rfl) (by simp) rfl fun h3 nn3 x3 g3 => ?_))
  obtain ⟨s3, G3, hn3, hp3⟩ := G1.push' (k := 1) (os := [2]) (st' := [false]) il2 x2 xx2 rfl oo2 b2 x3 g3 (.one rfl) (fun w q => .blk q (.inl rfl))
  have rr3 := Nat.le_trans rr1 (Nat.add_le_add_right hn3 R)
  have NN3 := Nat.le_trans NN1 hn3
  refine K_fin [(0, _), (1, _), (2, _), (3, _)] rfl (?_)
  refine K_reg (Wops_run rfl rfl (Wops_run rfl rfl (Wops_run rfl rfl (Wops_call rfl ((S _ _ (by omega)).go G3 rr3 (by omega)) ?_))))
  rintro _ h4 ⟨s4, G4, hn4, hp4⟩
  have rr4 := Nat.le_trans rr3 (Nat.add_le_add_right hn4 R)
  have NN4 := Nat.le_trans NN3 hn4
  refine K_fin [(0, _), (1, _), (2, _), (3, _)] rfl (?_)
  refine K_reg (Wops_run rfl rfl (Wops_run rfl rfl (Wops_run rfl rfl (Wops_run rfl rfl (Wops_call rfl ((E _ _).go G4 rr4 (by omega)) ?_)))))
  rintro _ h5 ⟨s5, G5, hn5, hp5⟩
  have rr5 := Nat.le_trans rr4 (Nat.add_le_add_right hn5 R)
  have NN5 := Nat.le_trans NN4 hn5
  refine K_fin [(0, _), (1, _), (2, _), (3, _)] rfl (?_)
  refine K_ss (K_reg (Wops_run rfl rfl (Wops_run rfl rfl (Wops_run rfl rfl (Wops_ld (v := ptr K.pp) rfl G5.m.gk rfl ?_)))))
  refine Wops_call rfl (G5.c48 (by decide)) ?_
  rintro _ h6 ⟨r6, n6, rfl, hr6, G6, hn6, hp6, hu6, hz6, x6⟩
  have rr6 := Nat.le_trans rr5 (Nat.add_le_add_right hn6 R)
  have NN6 := Nat.le_trans NN5 hn6
  refine Wops_run rfl rfl (K_fin [(0, _), (1, _), (2, _), (3, _), (43, _)] rfl (?_))
  obtain ⟨s7, G7, hn7, hp7⟩ : ∃ q, Go K h s h6 q [false] ∧ ({ s5 with n := n6 } : St).n ≤ q.n ∧ pot K q ≤ pot K ({ s5 with n := n6 } : St) := ⟨_, G6, Nat.le_refl _, Int.le_refl _⟩
  have rr7 := Nat.le_trans rr6 (Nat.add_le_add_right hn7 R)
  have NN7 := Nat.le_trans NN6 hn7
  refine K_scond rfl (fun hc => ?_) (fun hc => ?_)
  · refine K_ss (K_reg (Wops_run rfl rfl (Wops_run rfl rfl (Wops_run rfl rfl (Wops_call rfl ((E _ _).go G7 rr7 (by omega)) ?_)))))
    rintro _ h8 ⟨s8, G8, hn8, hp8⟩
    have rr8 := Nat.le_trans rr7 (Nat.add_le_add_right hn8 R)
    have NN8 := Nat.le_trans NN7 hn8
    refine K_fin [(0, _), (1, _), (2, _), (3, _)] rfl (?_)
    refine K_reg (Wops_run rfl rfl (Wops_call rfl (G8.c63 (st' := [false]) (by omega) (fun w q => .plain q (by decide))) ?_))
    rintro _ h9 ⟨s9, G9, hn9, hp9⟩
    have rr9 := Nat.le_trans rr8 (Nat.add_le_add_right hn9 R)
    have NN9 := Nat.le_trans NN8 hn9
    refine K_fin [(0, _), (1, _), (2, _), (3, _)] rfl (?_)
    refine K_ss (K_reg (Wops_run rfl rfl (Wops_run rfl rfl (K_fin [(0, _), (2, _), (3, _), (51, _)] rfl (?_)))))
    refine K_scond rfl (fun hc => absurd hc (by decide)) (fun _ => ?_)
    refine K_sskip (K_reg (Wops_run rfl rfl (Wops_call rfl (G9.c64 (st' := []) (by omega) (fun w q => .shut q)) ?_)))
    rintro _ h10 ⟨s10, G10, hn10, hp10⟩
    have rr10 := Nat.le_trans rr9 (Nat.add_le_add_right hn10 R)
    have NN10 := Nat.le_trans NN9 hn10
    refine K_fin [(0, _)] rfl (?_)
    refine K_last (Wops_run rfl rfl (Wops_run rfl rfl (Wops_run rfl rfl (Wops_ld (v := .int .i64 s10.deep) rfl G10.m.gk rfl ?_))))
    refine Wops_run rfl rfl (Wops_run rfl rfl (Wops_run rfl rfl (Wops_st (l := [.int .i64 _]) rfl rfl rfl rfl G10.m.gk (by simp) rfl fun h11 nn11 x11 g11 => ?_)))
    obtain ⟨s11, G11, hn11, hp11⟩ := G10.deep' x11 g11
    have rr11 := Nat.le_trans rr10 (Nat.add_le_add_right hn11 R)
    have NN11 := Nat.le_trans NN10 hn11
    refine K_finL [] rfl (?_)
    exact Told.mk [] rfl ⟨_, G11, NN11, by omega⟩
  · refine K_sskip (K_ss (K_reg (Wops_run rfl rfl (Wops_run rfl rfl (K_fin [(0, _), (2, _), (3, _), (51, _)] rfl (?_))))))
    refine K_scond rfl (fun hc => absurd hc (by decide)) (fun _ => ?_)
    refine K_sskip (K_reg (Wops_run rfl rfl (Wops_call rfl (G7.c64 (st' := []) (by omega) (fun w q => .shut q)) ?_)))
    rintro _ h12 ⟨s12, G12, hn12, hp12⟩
    have rr12 := Nat.le_trans rr7 (Nat.add_le_add_right hn12 R)
    have NN12 := Nat.le_trans NN7 hn12
    refine K_fin [(0, _)] rfl (?_)
    refine K_last (Wops_run rfl rfl (Wops_run rfl rfl (Wops_run rfl rfl (Wops_ld (v := .int .i64 s12.deep) rfl G12.m.gk rfl ?_))))
    refine Wops_run rfl rfl (Wops_run rfl rfl (Wops_run rfl rfl (Wops_st (l := [.int .i64 _]) rfl rfl rfl rfl G12.m.gk (by simp) rfl fun h13 nn13 x13 g13 => ?_)))
    obtain ⟨s13, G13, hn13, hp13⟩ := G12.deep' x13 g13
    have rr13 := Nat.le_trans rr12 (Nat.add_le_add_right hn13 R)
    have NN13 := Nat.le_trans NN12 hn13
    refine K_finL [] rfl (?_)
    exact Told.mk [] rfl ⟨_, G13, NN13, by omega⟩

set_option maxHeartbeats 4000000 in
/-- (*cloakroom/cloakroomplay.maker).block -/
theorem E65b {K : Kt} {R : Nat} (E : ∀ t d, CF K R 22 [ptr K.pk, .int .u8 t, .int .i64 d] 1 100000) (S : ∀ n d, n ≤ 1000 → CF K R 21 [ptr K.pk, .int .i64 n, .int .i64 d] 0 100000) {t d : Int} : CF K R 45 [ptr K.pk, .int .i64 4, .int .u8 t, .int .i64 d] 8 99975 := by
  intro h s m r0 p0
  have G0 := Go.refl m
  have n0 := Nat.le_refl s.n
  refine fnK F45.fok rfl ?_
  refine K_reg (Wops_run rfl rfl (Wops_run rfl rfl (Wops_run rfl rfl (Wops_ld (v := .int .i64 s.deep) rfl G0.m.gk rfl ?_))))
  refine Wops_run rfl rfl (Wops_run rfl rfl (Wops_run rfl rfl (Wops_st (l := [.int .i64 _]) rfl rfl rfl rfl G0.m.gk (by simp) rfl fun h1 nn1 x1 g1 => ?_)))
  obtain ⟨s1, G1, hn1, hp1⟩ := G0.deep' x1 g1
  have rr1 := Nat.le_trans r0 (Nat.add_le_add_right hn1 R)
  have NN1 := Nat.le_trans n0 hn1
  refine K_fin [(0, _), (1, _), (2, _), (3, _)] rfl (?_)
  refine K_reg (Wops_run rfl rfl (Wops_run rfl rfl (Wops_run rfl rfl (Wops_run rfl rfl (Wops_ld (v := .slice s1.oa s1.ops.length s1.oc) rfl G1.m.gk rfl ?_)))))
  refine Wops_run rfl rfl (Wops_run rfl rfl (Wops_run rfl rfl (Wops_run rfl rfl (Wops_run rfl rfl (?_)))))
  obtain ⟨l2, o2, il2⟩ := G1.m.o
  have hops2 : s1.ops.length ≤ 100100 := pot_opsB (K := K) (s := s1) G1.m (by omega)
  refine Wops_bslice (l := [.int .i64 4, .int .u32 0, .int .u32 0, .int .u64 0, .slice none 0 0, _]) rfl rfl fun h2 n2 x2 g2 => ?_
  refine Wops_app (m := 1) rfl rfl (o2.ext x2) rfl (OwS.new (n := 1) (c := 1) g2 rfl).sl.first ⟨by omega, by omega⟩ rfl rfl (by decide) fun hh2 a2 c2 xx2 oo2 b2 => ?_
  refine Wops_run rfl rfl (Wops_run rfl rfl (Wops_st (l := [.slice a2 (s1.ops.length + 1) c2]) rfl rfl rfl rfl ((G1.m.gk.ext x2).ext xx2 fun r => (G1.m.no _ r).2.1 rfl) (by simp) rfl fun h3 nn3 x3 g3 => ?_))
  obtain ⟨s3, G3, hn3, hp3⟩ := G1.push' (k := 1) (os := [4]) (st' := [true]) il2 x2 xx2 rfl oo2 b2 x3 g3 (.one rfl) (fun w q => .iff q)
  have rr3 := Nat.le_trans rr1 (Nat.add_le_add_right hn3 R)
  have NN3 := Nat.le_trans NN1 hn3
  refine K_fin [(0, _), (1, _), (2, _), (3, _)] rfl (?_)
  refine K_reg (Wops_run rfl rfl (Wops_run rfl rfl (Wops_run rfl rfl (Wops_call rfl ((S _ _ (by omega)).go G3 rr3 (by omega)) ?_))))
  rintro _ h4 ⟨s4, G4, hn4, hp4⟩
  have rr4 := Nat.le_trans rr3 (Nat.add_le_add_right hn4 R)
  have NN4 := Nat.le_trans NN3 hn4
  refine K_fin [(0, _), (1, _), (2, _), (3, _)] rfl (?_)
  refine K_reg (Wops_run rfl rfl (Wops_run rfl rfl (Wops_run rfl rfl (Wops_run rfl rfl (Wops_call rfl ((E _ _).go G4 rr4 (by omega)) ?_)))))
  rintro _ h5 ⟨s5, G5, hn5, hp5⟩
  have rr5 := Nat.le_trans rr4 (Nat.add_le_add_right hn5 R)
  have NN5 := Nat.le_trans NN4 hn5
  refine K_fin [(0, _), (1, _), (2, _), (3, _)] rfl (?_)
  refine K_ss (K_reg (Wops_run rfl rfl (Wops_run rfl rfl (Wops_run rfl rfl (Wops_ld (v := ptr K.pp) rfl G5.m.gk rfl ?_)))))
  refine Wops_call rfl (G5.c48 (by decide)) ?_
  rintro _ h6 ⟨r6, n6, rfl, hr6, G6, hn6, hp6, hu6, hz6, x6⟩
  have rr6 := Nat.le_trans rr5 (Nat.add_le_add_right hn6 R)
  have NN6 := Nat.le_trans NN5 hn6
  refine Wops_run rfl rfl (K_fin [(0, _), (1, _), (2, _), (3, _), (43, _)] rfl (?_))
  obtain ⟨s7, G7, hn7, hp7⟩ : ∃ q, Go K h s h6 q [true] ∧ ({ s5 with n := n6 } : St).n ≤ q.n ∧ pot K q ≤ pot K ({ s5 with n := n6 } : St) := ⟨_, G6, Nat.le_refl _, Int.le_refl _⟩
  have rr7 := Nat.le_trans rr6 (Nat.add_le_add_right hn7 R)
  have NN7 := Nat.le_trans NN6 hn7
  refine K_scond rfl (fun hc => ?_) (fun hc => ?_)
  · refine K_ss (K_reg (Wops_run rfl rfl (Wops_run rfl rfl (Wops_run rfl rfl (Wops_call rfl ((E _ _).go G7 rr7 (by omega)) ?_)))))
    rintro _ h8 ⟨s8, G8, hn8, hp8⟩
    have rr8 := Nat.le_trans rr7 (Nat.add_le_add_right hn8 R)
    have NN8 := Nat.le_trans NN7 hn8
    refine K_fin [(0, _), (1, _), (2, _), (3, _)] rfl (?_)
    refine K_reg (Wops_run rfl rfl (Wops_call rfl (G8.c63 (st' := [true]) (by omega) (fun w q => .plain q (by decide))) ?_))
    rintro _ h9 ⟨s9, G9, hn9, hp9⟩
    have rr9 := Nat.le_trans rr8 (Nat.add_le_add_right hn9 R)
    have NN9 := Nat.le_trans NN8 hn9
    refine K_fin [(0, _), (1, _), (2, _), (3, _)] rfl (?_)
    refine K_ss (K_reg (Wops_run rfl rfl (Wops_run rfl rfl (K_fin [(0, _), (2, _), (3, _), (51, _)] rfl (?_)))))
    refine K_scond rfl (fun _ => ?_) (fun hc => absurd hc (by decide))
    refine K_ss (K_reg (Wops_run rfl rfl (Wops_call rfl (G9.c64 (st' := [false]) (by omega) (fun w q => .els q)) ?_)))
    rintro _ h10 ⟨s10, G10, hn10, hp10⟩
    have rr10 := Nat.le_trans rr9 (Nat.add_le_add_right hn10 R)
    have NN10 := Nat.le_trans NN9 hn10
    refine K_fin [(0, _), (2, _), (3, _)] rfl (?_)
    refine K_reg (Wops_run rfl rfl (Wops_run rfl rfl (Wops_run rfl rfl (Wops_run rfl rfl (Wops_call rfl ((E _ _).go G10 rr10 (by omega)) ?_)))))
    rintro _ h11 ⟨s11, G11, hn11, hp11⟩
    have rr11 := Nat.le_trans rr10 (Nat.add_le_add_right hn11 R)
    have NN11 := Nat.le_trans NN10 hn11
    refine K_fin [(0, _)] rfl (?_)
    refine K_reg (Wops_run rfl rfl (Wops_call rfl (G11.c64 (st' := []) (by omega) (fun w q => .shut q)) ?_))
    rintro _ h12 ⟨s12, G12, hn12, hp12⟩
    have rr12 := Nat.le_trans rr11 (Nat.add_le_add_right hn12 R)
    have NN12 := Nat.le_trans NN11 hn12
    refine K_fin [(0, _)] rfl (?_)
    refine K_last (Wops_run rfl rfl (Wops_run rfl rfl (Wops_run rfl rfl (Wops_ld (v := .int .i64 s12.deep) rfl G12.m.gk rfl ?_))))
    refine Wops_run rfl rfl (Wops_run rfl rfl (Wops_run rfl rfl (Wops_st (l := [.int .i64 _]) rfl rfl rfl rfl G12.m.gk (by simp) rfl fun h13 nn13 x13 g13 => ?_)))
    obtain ⟨s13, G13, hn13, hp13⟩ := G12.deep' x13 g13
    have rr13 := Nat.le_trans rr12 (Nat.add_le_add_right hn13 R)
    have NN13 := Nat.le_trans NN12 hn13
    refine K_finL [] rfl (?_)
    exact Told.mk [] rfl ⟨_, G13, NN13, by omega⟩
  · refine K_sskip (K_ss (K_reg (Wops_run rfl rfl (Wops_run rfl rfl (K_fin [(0, _), (2, _), (3, _), (51, _)] rfl (?_))))))
    refine K_scond rfl (fun _ => ?_) (fun hc => absurd hc (by decide))
    refine K_ss (K_reg (Wops_run rfl rfl (Wops_call rfl (G7.c64 (st' := [false]) (by omega) (fun w q => .els q)) ?_)))
    rintro _ h14 ⟨s14, G14, hn14, hp14⟩
    have rr14 := Nat.le_trans rr7 (Nat.add_le_add_right hn14 R)
    have NN14 := Nat.le_trans NN7 hn14
    refine K_fin [(0, _), (2, _), (3, _)] rfl (?_)
    refine K_reg (Wops_run rfl rfl (Wops_run rfl rfl (Wops_run rfl rfl (Wops_run rfl rfl (Wops_call rfl ((E _ _).go G14 rr14 (by omega)) ?_)))))
    rintro _ h15 ⟨s15, G15, hn15, hp15⟩
    have rr15 := Nat.le_trans rr14 (Nat.add_le_add_right hn15 R)
    have NN15 := Nat.le_trans NN14 hn15
    refine K_fin [(0, _)] rfl (?_)
    refine K_reg (Wops_run rfl rfl (Wops_call rfl (G15.c64 (st' := []) (by omega) (fun w q => .shut q)) ?_))
    rintro _ h16 ⟨s16, G16, hn16, hp16⟩
    have rr16 := Nat.le_trans rr15 (Nat.add_le_add_right hn16 R)
    have NN16 := Nat.le_trans NN15 hn16
    refine K_fin [(0, _)] rfl (?_)
    refine K_last (Wops_run rfl rfl (Wops_run rfl rfl (Wops_run rfl rfl (Wops_ld (v := .int .i64 s16.deep) rfl G16.m.gk rfl ?_))))
    refine Wops_run rfl rfl (Wops_run rfl rfl (Wops_run rfl rfl (Wops_st (l := [.int .i64 _]) rfl rfl rfl rfl G16.m.gk (by simp) rfl fun h17 nn17 x17 g17 => ?_)))
    obtain ⟨s17, G17, hn17, hp17⟩ := G16.deep' x17 g17
    have rr17 := Nat.le_trans rr16 (Nat.add_le_add_right hn17 R)
    have NN17 := Nat.le_trans NN16 hn17
    refine K_finL [] rfl (?_)
    exact Told.mk [] rfl ⟨_, G17, NN17, by omega⟩

set_option maxHeartbeats 4000000 in
/-- (*cloakroom/cloakroomplay.maker).loop -/
theorem E76 {K : Kt} {R : Nat} (S : ∀ n d, n ≤ 1000 → CF K R 21 [ptr K.pk, .int .i64 n, .int .i64 d] 0 100000) {d : Int} : CF K R 51 [ptr K.pk, .int .i64 d] 14 99975 := by
  intro h s m r0 p0
  have G0 := Go.refl m
  have n0 := Nat.le_refl s.n
  refine fnK F51.fok rfl ?_
  refine K_reg (Wops_run rfl rfl (Wops_run rfl rfl (Wops_run rfl rfl (Wops_ld (v := .slice K.la K.ls.length K.lc) rfl G0.m.gk rfl ?_))))
  refine Wops_run rfl rfl (Wops_run rfl rfl (Wops_run rfl rfl (Wops_run rfl rfl (K_fin [(0, _), (1, _), (4, _)] rfl (?_)))))
  refine K_ss (K_reg (Wops_run rfl rfl (Wops_run rfl rfl (Wops_run rfl rfl (Wops_ld (v := .int .i64 s.deep) rfl G0.m.gk rfl ?_)))))
  refine Wops_run rfl rfl (K_fin [(0, _), (1, _), (4, _), (16, _)] rfl (?_))
  refine K_scond rfl (fun hc => ?_) (fun hc => ?_)
  · refine K_ss (K_reg (Wops_run rfl rfl (Wops_call rfl (G0.c64 (st' := []) (by omega) (fun w q => .plain q (by decide))) ?_)))
    rintro _ h1 ⟨s1, G1, hn1, hp1⟩
    have rr1 := Nat.le_trans r0 (Nat.add_le_add_right hn1 R)
    have NN1 := Nat.le_trans n0 hn1
    refine K_fin [] rfl (?_)
    refine K_sret ?_
    exact Told.mk [] rfl ⟨_, G1, NN1, by omega⟩
  · refine K_sskip (K_reg (Wops_run rfl rfl (Wops_run rfl rfl (Wops_run rfl rfl (Wops_run rfl rfl (Wops_ld (v := .int .i64 s.deep) rfl G0.m.gk rfl ?_))))))
    refine Wops_run rfl rfl (Wops_run rfl rfl (Wops_run rfl rfl (Wops_st (l := [.int .i64 _]) rfl rfl rfl rfl G0.m.gk (by simp) rfl fun h2 nn2 x2 g2 => ?_)))
    obtain ⟨s2, G2, hn2, hp2⟩ := G0.deep' x2 g2
    have rr2 := Nat.le_trans r0 (Nat.add_le_add_right hn2 R)
    have NN2 := Nat.le_trans n0 hn2
    refine K_fin [(0, _), (1, _), (4, _)] rfl (?_)
    refine K_reg (Wops_run rfl rfl (Wops_run rfl rfl (Wops_run rfl rfl (Wops_run rfl rfl (Wops_ld (v := ptr K.pp) rfl G2.m.gk rfl ?_)))))
    refine Wops_call rfl (G2.c48 (by decide)) ?_
    rintro _ h3 ⟨r3, n3, rfl, hr3, G3, hn3, hp3, hu3, hz3, x3⟩
    have rr3 := Nat.le_trans rr2 (Nat.add_le_add_right hn3 R)
    have NN3 := Nat.le_trans NN2 hn3
    refine Wops_run rfl rfl (Wops_call rfl (G3.c60 (by omega)) ?_)
    rintro _ h4 ⟨s4, G4, hn4, hp4⟩
    have rr4 := Nat.le_trans rr3 (Nat.add_le_add_right hn4 R)
    have NN4 := Nat.le_trans NN3 hn4
    refine K_fin [(0, _), (1, _), (4, _)] rfl (?_)
    refine K_reg (Wops_run rfl rfl (Wops_run rfl rfl (Wops_call rfl (G4.c63 (st' := []) (by omega) (fun w q => .plain q (by decide))) ?_)))
    rintro _ h5 ⟨s5, G5, hn5, hp5⟩
    have rr5 := Nat.le_trans rr4 (Nat.add_le_add_right hn5 R)
    have NN5 := Nat.le_trans NN4 hn5
    refine K_fin [(0, _), (1, _), (4, _)] rfl (?_)
    refine K_reg (Wops_run rfl rfl (Wops_run rfl rfl (Wops_run rfl rfl (Wops_run rfl rfl (Wops_ld (v := .slice s5.oa s5.ops.length s5.oc) rfl G5.m.gk rfl ?_)))))
    refine Wops_run rfl rfl (Wops_run rfl rfl (?_))
    obtain ⟨l6, o6, il6⟩ := G5.m.o
    have hops6 : s5.ops.length ≤ 100100 := pot_opsB (K := K) (s := s5) G5.m (by omega)
    refine Wops_bslice (l := [.int .i64 2, .int .u32 0, .int .u32 0, .int .u64 0, .slice none 0 0, _, .int .i64 3, .int .u32 0, .int .u32 0, .int .u64 0, .slice none 0 0, _]) rfl rfl fun h6 n6 x6 g6 => ?_
    refine Wops_app (m := 2) rfl rfl (o6.ext x6) rfl (OwS.new (n := 2) (c := 1) g6 rfl).sl.first ⟨by omega, by omega⟩ rfl rfl (by decide) fun hh6 a6 c6 xx6 oo6 b6 => ?_
    refine Wops_run rfl rfl (Wops_run rfl rfl (Wops_st (l := [.slice a6 (s5.ops.length + 2) c6]) rfl rfl rfl rfl ((G5.m.gk.ext x6).ext xx6 fun r => (G5.m.no _ r).2.1 rfl) (by simp) rfl fun h7 nn7 x7 g7 => ?_))
    obtain ⟨s7, G7, hn7, hp7⟩ := G5.push' (k := 2) (os := [2, 3]) (st' := [false, false]) il6 x6 xx6 rfl oo6 b6 x7 g7 (.two rfl rfl) (fun w q => by have := Opn.blk (Opn.blk q (.inl rfl)) (.inr rfl); simpa using this)
    have rr7 := Nat.le_trans rr5 (Nat.add_le_add_right hn7 R)
    have NN7 := Nat.le_trans NN5 hn7
    refine K_fin [(0, _), (1, _), (4, _)] rfl (?_)
    refine K_reg (Wops_run rfl rfl (Wops_run rfl rfl (Wops_call rfl (G7.c63 (st' := [false, false]) (by omega) (fun w q => .plain q (by decide))) ?_)))
    rintro _ h8 ⟨s8, G8, hn8, hp8⟩
    have rr8 := Nat.le_trans rr7 (Nat.add_le_add_right hn8 R)
    have NN8 := Nat.le_trans NN7 hn8
    refine K_fin [(0, _), (1, _), (4, _)] rfl (?_)
    refine K_reg (Wops_run rfl rfl (Wops_call rfl (G8.c64 (st' := [false, false]) (by omega) (fun w q => .plain q (by decide))) ?_))
    rintro _ h9 ⟨s9, G9, hn9, hp9⟩
    have rr9 := Nat.le_trans rr8 (Nat.add_le_add_right hn9 R)
    have NN9 := Nat.le_trans NN8 hn9
    refine K_fin [(0, _), (1, _), (4, _)] rfl (?_)
    refine K_reg (Wops_run rfl rfl (Wops_call rfl (G9.c63 (st' := [false, false]) (by omega) (fun w q => .plain q (by decide))) ?_))
    rintro _ h10 ⟨s10, G10, hn10, hp10⟩
    have rr10 := Nat.le_trans rr9 (Nat.add_le_add_right hn10 R)
    have NN10 := Nat.le_trans NN9 hn10
    refine K_fin [(0, _), (1, _), (4, _)] rfl (?_)
    refine K_reg (Wops_run rfl rfl (Wops_run rfl rfl (Wops_call rfl (G10.c63 (st' := [false, false]) (by omega) (fun w q => .plain q (by decide))) ?_)))
    rintro _ h11 ⟨s11, G11, hn11, hp11⟩
    have rr11 := Nat.le_trans rr10 (Nat.add_le_add_right hn11 R)
    have NN11 := Nat.le_trans NN10 hn11
    refine K_fin [(0, _), (1, _), (4, _)] rfl (?_)
    refine K_reg (Wops_run rfl rfl (Wops_call rfl (G11.c60 (by omega)) ?_))
    rintro _ h12 ⟨s12, G12, hn12, hp12⟩
    have rr12 := Nat.le_trans rr11 (Nat.add_le_add_right hn12 R)
    have NN12 := Nat.le_trans NN11 hn12
    refine K_fin [(0, _), (1, _), (4, _)] rfl (?_)
    refine K_reg (Wops_run rfl rfl (Wops_call rfl (G12.c64 (st' := [false, false]) (by omega) (fun w q => .plain q (by decide))) ?_))
    rintro _ h13 ⟨s13, G13, hn13, hp13⟩
    have rr13 := Nat.le_trans rr12 (Nat.add_le_add_right hn13 R)
    have NN13 := Nat.le_trans NN12 hn13
    refine K_fin [(0, _), (1, _), (4, _)] rfl (?_)
    refine K_reg (Wops_run rfl rfl (Wops_run rfl rfl (Wops_call rfl (G13.c63 (st' := [false, false]) (by omega) (fun w q => .plain q (by decide))) ?_)))
    rintro _ h14 ⟨s14, G14, hn14, hp14⟩
    have rr14 := Nat.le_trans rr13 (Nat.add_le_add_right hn14 R)
    have NN14 := Nat.le_trans NN13 hn14
    refine K_fin [(0, _), (1, _)] rfl (?_)
    refine K_reg (Wops_run rfl rfl (Wops_run rfl rfl (Wops_run rfl rfl (Wops_run rfl rfl (Wops_ld (v := ptr K.pp) rfl G14.m.gk rfl ?_)))))
    refine Wops_call rfl (G14.c48 (by decide)) ?_
    rintro _ h15 ⟨r15, n15, rfl, hr15, G15, hn15, hp15, hu15, hz15, x15⟩
    have rr15 := Nat.le_trans rr14 (Nat.add_le_add_right hn15 R)
    have NN15 := Nat.le_trans NN14 hn15
    refine Wops_as (w := .int .i64 (1 + (r15 : Int))) rfl rfl (by rw [w64 (by omega)]) (Wops_run rfl rfl (Wops_run rfl rfl (Wops_call rfl ((S _ _ (by omega)).go G15 rr15 (by omega)) ?_)))
    rintro _ h16 ⟨s16, G16, hn16, hp16⟩
    have rr16 := Nat.le_trans rr15 (Nat.add_le_add_right hn16 R)
    have NN16 := Nat.le_trans NN15 hn16
    refine K_fin [(0, _)] rfl (?_)
    refine K_reg (Wops_run rfl rfl (Wops_call rfl (G16.c63 (st' := [false, false]) (by omega) (fun w q => .plain q (by decide))) ?_))
    rintro _ h17 ⟨s17, G17, hn17, hp17⟩
    have rr17 := Nat.le_trans rr16 (Nat.add_le_add_right hn17 R)
    have NN17 := Nat.le_trans NN16 hn17
    refine K_fin [(0, _)] rfl (?_)
    refine K_reg (Wops_run rfl rfl (Wops_call rfl (G17.c64 (st' := [false]) (by omega) (fun w q => .shut q)) ?_))
    rintro _ h18 ⟨s18, G18, hn18, hp18⟩
    have rr18 := Nat.le_trans rr17 (Nat.add_le_add_right hn18 R)
    have NN18 := Nat.le_trans NN17 hn18
    refine K_fin [(0, _)] rfl (?_)
    refine K_reg (Wops_run rfl rfl (Wops_call rfl (G18.c64 (st' := []) (by omega) (fun w q => .shut q)) ?_))
    rintro _ h19 ⟨s19, G19, hn19, hp19⟩
    have rr19 := Nat.le_trans rr18 (Nat.add_le_add_right hn19 R)
    have NN19 := Nat.le_trans NN18 hn19
    refine K_fin [(0, _)] rfl (?_)
    refine K_last (Wops_run rfl rfl (Wops_run rfl rfl (Wops_run rfl rfl (Wops_run rfl rfl (Wops_ld (v := .int .i64 s19.deep) rfl G19.m.gk rfl ?_)))))
    refine Wops_run rfl rfl (Wops_run rfl rfl (Wops_run rfl rfl (Wops_st (l := [.int .i64 _]) rfl rfl rfl rfl G19.m.gk (by simp) rfl fun h20 nn20 x20 g20 => ?_)))
    obtain ⟨s20, G20, hn20, hp20⟩ := G19.deep' x20 g20
    have rr20 := Nat.le_trans rr19 (Nat.add_le_add_right hn20 R)
    have NN20 := Nat.le_trans NN19 hn20
    refine K_finL [] rfl (?_)
    exact Told.mk [] rfl ⟨_, G20, NN20, by omega⟩

set_option maxHeartbeats 4000000 in
/-- (*cloakroom/cloakroomplay.maker).jumps -/
theorem E77 {K : Kt} {R : Nat} (E : ∀ t d, CF K R 22 [ptr K.pk, .int .u8 t, .int .i64 d] 1 100000) (S : ∀ n d, n ≤ 1000 → CF K R 21 [ptr K.pk, .int .i64 n, .int .i64 d] 0 100000) {d : Int} : CF K R 52 [ptr K.pk, .int .i64 d] 6 99975 := by
  intro h s m r0 p0
  have G0 := Go.refl m
  have n0 := Nat.le_refl s.n
  refine fnK F52.fok rfl ?_
  refine K_ss (K_reg (Wops_run rfl rfl (Wops_run rfl rfl (Wops_run rfl rfl (Wops_ld (v := .int .i64 s.deep) rfl G0.m.gk rfl ?_)))))
  refine Wops_run rfl rfl (K_fin [(0, _), (1, _), (8, _)] rfl (?_))
  refine K_scond rfl (fun hc => ?_) (fun hc => ?_)
  · refine K_ss (K_reg (Wops_run rfl rfl (Wops_call rfl (G0.c64 (st' := []) (by omega) (fun w q => .plain q (by decide))) ?_)))
    rintro _ h1 ⟨s1, G1, hn1, hp1⟩
    have rr1 := Nat.le_trans r0 (Nat.add_le_add_right hn1 R)
    have NN1 := Nat.le_trans n0 hn1
    refine K_fin [] rfl (?_)
    refine K_sret ?_
    exact Told.mk [] rfl ⟨_, G1, NN1, by omega⟩
  · refine K_sskip (K_reg (Wops_run rfl rfl (Wops_run rfl rfl (Wops_run rfl rfl (Wops_ld (v := .int .i64 s.deep) rfl G0.m.gk rfl ?_)))))
    refine Wops_run rfl rfl (Wops_run rfl rfl (Wops_run rfl rfl (Wops_st (l := [.int .i64 _]) rfl rfl rfl rfl G0.m.gk (by simp) rfl fun h2 nn2 x2 g2 => ?_)))
    obtain ⟨s2, G2, hn2, hp2⟩ := G0.deep' x2 g2
    have rr2 := Nat.le_trans r0 (Nat.add_le_add_right hn2 R)
    have NN2 := Nat.le_trans n0 hn2
    refine K_fin [(0, _), (1, _)] rfl (?_)
    refine K_reg (Wops_run rfl rfl (Wops_run rfl rfl (Wops_run rfl rfl (Wops_run rfl rfl (Wops_ld (v := .slice s2.oa s2.ops.length s2.oc) rfl G2.m.gk rfl ?_)))))
    refine Wops_run rfl rfl (?_)
    obtain ⟨l3, o3, il3⟩ := G2.m.o
    have hops3 : s2.ops.length ≤ 100100 := pot_opsB (K := K) (s := s2) G2.m (by omega)
    refine Wops_bslice (l := [.int .i64 2, .int .u32 0, .int .u32 0, .int .u64 0, .slice none 0 0, _]) rfl rfl fun h3 n3 x3 g3 => ?_
    refine Wops_app (m := 1) rfl rfl (o3.ext x3) rfl (OwS.new (n := 1) (c := 1) g3 rfl).sl.first ⟨by omega, by omega⟩ rfl rfl (by decide) fun hh3 a3 c3 xx3 oo3 b3 => ?_
    refine Wops_run rfl rfl (Wops_run rfl rfl (Wops_st (l := [.slice a3 (s2.ops.length + 1) c3]) rfl rfl rfl rfl ((G2.m.gk.ext x3).ext xx3 fun r => (G2.m.no _ r).2.1 rfl) (by simp) rfl fun h4 nn4 x4 g4 => ?_))
    obtain ⟨s4, G4, hn4, hp4⟩ := G2.push' (k := 1) (os := [2]) (st' := [false]) il3 x3 xx3 rfl oo3 b3 x4 g4 (.one rfl) (fun w q => .blk q (.inl rfl))
    have rr4 := Nat.le_trans rr2 (Nat.add_le_add_right hn4 R)
    have NN4 := Nat.le_trans NN2 hn4
    refine K_fin [(0, _), (1, _)] rfl (?_)
    refine K_ss (K_reg (Wops_run rfl rfl (Wops_run rfl rfl (Wops_run rfl rfl (Wops_ld (v := ptr K.pp) rfl G4.m.gk rfl ?_)))))
    refine Wops_call rfl (G4.c48 (by decide)) ?_
    rintro _ h5 ⟨r5, n5, rfl, hr5, G5, hn5, hp5, hu5, hz5, x5⟩
    have rr5 := Nat.le_trans rr4 (Nat.add_le_add_right hn5 R)
    have NN5 := Nat.le_trans NN4 hn5
    refine K_fin [(0, _), (1, _), (32, _)] rfl (?_)
    obtain ⟨s6, G6, hn6, hp6⟩ : ∃ q, Go K h s h5 q [false] ∧ ({ s4 with n := n5 } : St).n ≤ q.n ∧ pot K q ≤ pot K ({ s4 with n := n5 } : St) := ⟨_, G5, Nat.le_refl _, Int.le_refl _⟩
    have rr6 := Nat.le_trans rr5 (Nat.add_le_add_right hn6 R)
    have NN6 := Nat.le_trans NN5 hn6
    refine K_sblock ?_
    refine K_reg (Wops_run rfl rfl (Wops_run rfl rfl (K_fin [(0, _), (1, _), (32, _), (43, _)] rfl (?_))))
    refine K_cond rfl (fun hc => ?_) (fun hc => ?_)
    · refine K_reg (Wops_run rfl rfl (Wops_run rfl rfl (Wops_run rfl rfl (Wops_call rfl ((E _ _).go G6 rr6 (by omega)) ?_))))
      rintro _ h7 ⟨s7, G7, hn7, hp7⟩
      have rr7 := Nat.le_trans rr6 (Nat.add_le_add_right hn7 R)
      have NN7 := Nat.le_trans NN6 hn7
      refine K_fin [(0, _)] rfl (?_)
      refine K_last (Wops_run rfl rfl (Wops_run rfl rfl (Wops_run rfl rfl (Wops_run rfl rfl (Wops_ld (v := .slice s7.oa s7.ops.length s7.oc) rfl G7.m.gk rfl ?_)))))
      refine Wops_bslice (l := ints .u32 [0, 0]) rfl rfl fun h8 n8 x8 g8 => ?_
      have G8 := G7.ext0 x8
      refine Wops_run rfl rfl (?_)
      obtain ⟨l9, o9, il9⟩ := G8.m.o
      have hops9 : s7.ops.length ≤ 100100 := pot_opsB (K := K) (s := s7) G8.m (by omega)
      refine Wops_bslice (l := [.int .i64 14, _, .int .u32 0, .int .u64 0, _, .int .i64 0]) rfl rfl fun h9 n9 x9 g9 => ?_
      refine Wops_app (m := 1) rfl rfl (o9.ext x9) rfl (OwS.new (n := 1) (c := 1) g9 rfl).sl.first ⟨by omega, by omega⟩ rfl rfl (by decide) fun hh9 a9 c9 xx9 oo9 b9 => ?_
      refine Wops_run rfl rfl (Wops_run rfl rfl (Wops_st (l := [.slice a9 (s7.ops.length + 1) c9]) rfl rfl rfl rfl ((G8.m.gk.ext x9).ext xx9 fun r => (G8.m.no _ r).2.1 rfl) (by simp) rfl fun h10 nn10 x10 g10 => ?_))
      obtain ⟨s10, G10, hn10, hp10⟩ := G8.push' (k := 1) (os := [14]) (st' := [false]) il9 x9 xx9 rfl oo9 b9 x10 g10 (.one rfl) (fun w q => .plain q (by decide))
      have rr10 := Nat.le_trans rr7 (Nat.add_le_add_right hn10 R)
      have NN10 := Nat.le_trans NN7 hn10
      refine K_finL [(0, _)] rfl (?_)
      refine K_reg (Wops_run rfl rfl (Wops_call rfl (G10.c64 (st' := []) (by omega) (fun w q => .shut q)) ?_))
      rintro _ h11 ⟨s11, G11, hn11, hp11⟩
      have rr11 := Nat.le_trans rr10 (Nat.add_le_add_right hn11 R)
      have NN11 := Nat.le_trans NN10 hn11
      refine K_fin [(0, _)] rfl (?_)
      refine K_last (Wops_run rfl rfl (Wops_run rfl rfl (Wops_run rfl rfl (Wops_ld (v := .int .i64 s11.deep) rfl G11.m.gk rfl ?_))))
      refine Wops_run rfl rfl (Wops_run rfl rfl (Wops_run rfl rfl (Wops_st (l := [.int .i64 _]) rfl rfl rfl rfl G11.m.gk (by simp) rfl fun h12 nn12 x12 g12 => ?_)))
      obtain ⟨s12, G12, hn12, hp12⟩ := G11.deep' x12 g12
      have rr12 := Nat.le_trans rr11 (Nat.add_le_add_right hn12 R)
      have NN12 := Nat.le_trans NN11 hn12
      refine K_finL [] rfl (?_)
      exact Told.mk [] rfl ⟨_, G12, NN12, by omega⟩
    · refine K_reg (Wops_run rfl rfl (Wops_run rfl rfl (K_fin [(0, _), (1, _), (32, _), (60, _)] rfl (?_))))
      refine K_cond rfl (fun hc => ?_) (fun hc => ?_)
      · refine K_reg (Wops_run rfl rfl (Wops_call rfl (G6.c63 (st' := [false]) (by omega) (fun w q => .plain q (by decide))) ?_))
        rintro _ h13 ⟨s13, G13, hn13, hp13⟩
        have rr13 := Nat.le_trans rr6 (Nat.add_le_add_right hn13 R)
        have NN13 := Nat.le_trans NN6 hn13
        refine K_fin [(0, _), (1, _)] rfl (?_)
        refine K_last (Wops_run rfl rfl (Wops_run rfl rfl (Wops_run rfl rfl (Wops_call rfl ((S _ _ (by omega)).go G13 rr13 (by omega)) ?_))))
        rintro _ h14 ⟨s14, G14, hn14, hp14⟩
        have rr14 := Nat.le_trans rr13 (Nat.add_le_add_right hn14 R)
        have NN14 := Nat.le_trans NN13 hn14
        refine K_finL [(0, _)] rfl (?_)
        refine K_reg (Wops_run rfl rfl (Wops_call rfl (G14.c64 (st' := []) (by omega) (fun w q => .shut q)) ?_))
        rintro _ h15 ⟨s15, G15, hn15, hp15⟩
        have rr15 := Nat.le_trans rr14 (Nat.add_le_add_right hn15 R)
        have NN15 := Nat.le_trans NN14 hn15
        refine K_fin [(0, _)] rfl (?_)
        refine K_last (Wops_run rfl rfl (Wops_run rfl rfl (Wops_run rfl rfl (Wops_ld (v := .int .i64 s15.deep) rfl G15.m.gk rfl ?_))))
        refine Wops_run rfl rfl (Wops_run rfl rfl (Wops_run rfl rfl (Wops_st (l := [.int .i64 _]) rfl rfl rfl rfl G15.m.gk (by simp) rfl fun h16 nn16 x16 g16 => ?_)))
        obtain ⟨s16, G16, hn16, hp16⟩ := G15.deep' x16 g16
        have rr16 := Nat.le_trans rr15 (Nat.add_le_add_right hn16 R)
        have NN16 := Nat.le_trans NN15 hn16
        refine K_finL [] rfl (?_)
        exact Told.mk [] rfl ⟨_, G16, NN16, by omega⟩
      · refine K_reg (Wops_run rfl rfl (Wops_run rfl rfl (K_fin [(0, _), (1, _), (68, _)] rfl (?_))))
        refine K_cond rfl (fun hc => ?_) (fun hc => ?_)
        · refine K_reg (Wops_run rfl rfl (Wops_run rfl rfl (Wops_run rfl rfl (Wops_call rfl ((E _ _).go G6 rr6 (by omega)) ?_))))
          rintro _ h17 ⟨s17, G17, hn17, hp17⟩
          have rr17 := Nat.le_trans rr6 (Nat.add_le_add_right hn17 R)
          have NN17 := Nat.le_trans NN6 hn17
          refine K_fin [(0, _)] rfl (?_)
          refine K_reg (Wops_run rfl rfl (Wops_run rfl rfl (Wops_run rfl rfl (Wops_run rfl rfl (Wops_ld (v := .slice s17.oa s17.ops.length s17.oc) rfl G17.m.gk rfl ?_)))))
          refine Wops_run rfl rfl (?_)
          obtain ⟨l18, o18, il18⟩ := G17.m.o
          have hops18 : s17.ops.length ≤ 100100 := pot_opsB (K := K) (s := s17) G17.m (by omega)
          refine Wops_bslice (l := [.int .i64 4, .int .u32 0, .int .u32 0, .int .u64 0, .slice none 0 0, _]) rfl rfl fun h18 n18 x18 g18 => ?_
          refine Wops_app (m := 1) rfl rfl (o18.ext x18) rfl (OwS.new (n := 1) (c := 1) g18 rfl).sl.first ⟨by omega, by omega⟩ rfl rfl (by decide) fun hh18 a18 c18 xx18 oo18 b18 => ?_
          refine Wops_run rfl rfl (Wops_run rfl rfl (Wops_st (l := [.slice a18 (s17.ops.length + 1) c18]) rfl rfl rfl rfl ((G17.m.gk.ext x18).ext xx18 fun r => (G17.m.no _ r).2.1 rfl) (by simp) rfl fun h19 nn19 x19 g19 => ?_))
          obtain ⟨s19, G19, hn19, hp19⟩ := G17.push' (k := 1) (os := [4]) (st' := [true, false]) il18 x18 xx18 rfl oo18 b18 x19 g19 (.one rfl) (fun w q => .iff q)
          have rr19 := Nat.le_trans rr17 (Nat.add_le_add_right hn19 R)
          have NN19 := Nat.le_trans NN17 hn19
          refine K_fin [(0, _)] rfl (?_)
          refine K_reg (Wops_run rfl rfl (Wops_bslice (l := ints .i64 [0, 1, 15]) rfl rfl fun h20 n20 x20 g20 => ?_))
          have G20 := G19.ext0 x20
          refine Wops_run rfl rfl (Wops_run rfl rfl (Wops_run rfl rfl (Wops_ld (v := ptr K.pp) rfl G20.m.gk rfl ?_)))
          refine Wops_call rfl (G20.c48 (by decide)) ?_
          rintro _ h21 ⟨r21, n21, rfl, hr21, G21, hn21, hp21, hu21, hz21, x21⟩
          have g20x21 : At h21 h19.next (.cells (ints .i64 [0, 1, 15]) 1 false) := At.ext (S := (· = K.pp)) g20 x21 (by have := G19.m.lt; omega)
          have rr21 := Nat.le_trans rr19 (Nat.add_le_add_right hn21 R)
          have NN21 := Nat.le_trans NN19 hn21
          refine Wops_iaV rfl rfl ⟨by omega, by omega⟩ (Wops_ld (v := .int .i64 (([0, 1, 15] : List Int).getD r21 0)) rfl g20x21 (by rw [Nat.zero_add, Nat.mul_one]; exact ints_getD (L := [0, 1, 15]) (show r21 < 3 by omega)) ?_)
          refine Wops_call rfl (G21.c64 (st' := [true, false]) (by omega) (fun w q => .plain q (getD_all (L := ([0, 1, 15] : List Int)) (by decide) (show r21 < 3 by omega)))) ?_
          rintro _ h22 ⟨s22, G22, hn22, hp22⟩
          have rr22 := Nat.le_trans rr21 (Nat.add_le_add_right hn22 R)
          have NN22 := Nat.le_trans NN21 hn22
          refine K_fin [(0, _)] rfl (?_)
          refine K_last (Wops_run rfl rfl (Wops_call rfl (G22.c64 (st' := [false]) (by omega) (fun w q => .shut q)) ?_))
          rintro _ h23 ⟨s23, G23, hn23, hp23⟩
          have rr23 := Nat.le_trans rr22 (Nat.add_le_add_right hn23 R)
          have NN23 := Nat.le_trans NN22 hn23
          refine K_finL [(0, _)] rfl (?_)
          refine K_reg (Wops_run rfl rfl (Wops_call rfl (G23.c64 (st' := []) (by omega) (fun w q => .shut q)) ?_))
          rintro _ h24 ⟨s24, G24, hn24, hp24⟩
          have rr24 := Nat.le_trans rr23 (Nat.add_le_add_right hn24 R)
          have NN24 := Nat.le_trans NN23 hn24
          refine K_fin [(0, _)] rfl (?_)
          refine K_last (Wops_run rfl rfl (Wops_run rfl rfl (Wops_run rfl rfl (Wops_ld (v := .int .i64 s24.deep) rfl G24.m.gk rfl ?_))))
          refine Wops_run rfl rfl (Wops_run rfl rfl (Wops_run rfl rfl (Wops_st (l := [.int .i64 _]) rfl rfl rfl rfl G24.m.gk (by simp) rfl fun h25 nn25 x25 g25 => ?_)))
          obtain ⟨s25, G25, hn25, hp25⟩ := G24.deep' x25 g25
          have rr25 := Nat.le_trans rr24 (Nat.add_le_add_right hn25 R)
          have NN25 := Nat.le_trans NN24 hn25
          refine K_finL [] rfl (?_)
          exact Told.mk [] rfl ⟨_, G25, NN25, by omega⟩
        · refine K_reg (Wops_run rfl rfl (Wops_run rfl rfl (Wops_run rfl rfl (Wops_call rfl ((E _ _).go G6 rr6 (by omega)) ?_))))
          rintro _ h26 ⟨s26, G26, hn26, hp26⟩
          have rr26 := Nat.le_trans rr6 (Nat.add_le_add_right hn26 R)
          have NN26 := Nat.le_trans NN6 hn26
          refine K_fin [(0, _), (1, _)] rfl (?_)
          refine K_reg (Wops_run rfl rfl (Wops_call rfl (G26.c63 (st' := [false]) (by omega) (fun w q => .plain q (by decide))) ?_))
          rintro _ h27 ⟨s27, G27, hn27, hp27⟩
          have rr27 := Nat.le_trans rr26 (Nat.add_le_add_right hn27 R)
          have NN27 := Nat.le_trans NN26 hn27
          refine K_fin [(0, _), (1, _)] rfl (?_)
          refine K_last (Wops_run rfl rfl (Wops_run rfl rfl (Wops_run rfl rfl (Wops_call rfl ((S _ _ (by omega)).go G27 rr27 (by omega)) ?_))))
          rintro _ h28 ⟨s28, G28, hn28, hp28⟩
          have rr28 := Nat.le_trans rr27 (Nat.add_le_add_right hn28 R)
          have NN28 := Nat.le_trans NN27 hn28
          refine K_finL [(0, _)] rfl (?_)
          refine K_reg (Wops_run rfl rfl (Wops_call rfl (G28.c64 (st' := []) (by omega) (fun w q => .shut q)) ?_))
          rintro _ h29 ⟨s29, G29, hn29, hp29⟩
          have rr29 := Nat.le_trans rr28 (Nat.add_le_add_right hn29 R)
          have NN29 := Nat.le_trans NN28 hn29
          refine K_fin [(0, _)] rfl (?_)
          refine K_last (Wops_run rfl rfl (Wops_run rfl rfl (Wops_run rfl rfl (Wops_ld (v := .int .i64 s29.deep) rfl G29.m.gk rfl ?_))))
          refine Wops_run rfl rfl (Wops_run rfl rfl (Wops_run rfl rfl (Wops_st (l := [.int .i64 _]) rfl rfl rfl rfl G29.m.gk (by simp) rfl fun h30 nn30 x30 g30 => ?_)))
          obtain ⟨s30, G30, hn30, hp30⟩ := G29.deep' x30 g30
          have rr30 := Nat.le_trans rr29 (Nat.add_le_add_right hn30 R)
          have NN30 := Nat.le_trans NN29 hn30
          refine K_finL [] rfl (?_)
          exact Told.mk [] rfl ⟨_, G30, NN30, by omega⟩


end
section
/- Made modules: stmt (printed by gmd.py). -/
set_option linter.unusedVariables false
set_option linter.unusedSimpArgs false

set_option maxHeartbeats 4000000 in
/-- maker.stmt, where a number is left -/
theorem E59 {K : Kt} {R : Nat} (H : AllAt K R) {h : Heap} {s : St} {d : Int} (m : Mk K h s) (hl : s.n < K.xs.length) (r0 : K.xs.length ≤ s.n + (R + 1)) (p0 : pot K s ≤ 100000) :
    Fn Try.prog 39 [ptr K.pk, .int .i64 d] h fun v h' => Adds K h s s [] [] 0 h' := by
  have G0 := Go.refl m
  have n0 := Nat.le_refl s.n
  refine fnK F39.fok rfl ?_
  refine K_reg (Wops_bslice (l := ints .u8 [127, 126]) rfl rfl fun h1 n1 x1 g1 => ?_)
  have G1 := G0.ext0 x1
  refine Wops_run rfl rfl (Wops_run rfl rfl (Wops_run rfl rfl (Wops_ld (v := ptr K.pp) rfl G1.m.gk rfl ?_)))
  refine Wops_call rfl (G1.c48 (by decide)) ?_
  rintro _ h2 ⟨r2, n2, rfl, hr2, G2, hn2, hp2, hu2, hz2, x2⟩
  have g1x2 : At h2 h.next (.cells (ints .u8 [127, 126]) 1 false) := At.ext (S := (· = K.pp)) g1 x2 (by have := G0.m.lt; omega)
  obtain ⟨hu2', hpu2⟩ := hu2 hl
  have rr2 : K.xs.length ≤ n2 + R := by omega
  have NN2 := Nat.le_trans n0 hn2
  refine Wops_iaV rfl rfl ⟨by omega, by omega⟩ (Wops_ld (v := .int .u8 (([127, 126] : List Int).getD r2 0)) rfl g1x2 (by rw [Nat.zero_add, Nat.mul_one]; exact ints_getD (L := [127, 126]) (show r2 < 2 by omega)) ?_)
  refine Wops_run rfl rfl (K_fin [(0, _), (1, _), (4, _)] rfl (?_))
  obtain ⟨s3, G3, hn3, hp3⟩ : ∃ q, Go K h s h2 q [] ∧ ({ s with n := n2 } : St).n ≤ q.n ∧ pot K q ≤ pot K ({ s with n := n2 } : St) := ⟨_, G2, Nat.le_refl _, Int.le_refl _⟩
  have rr3 := Nat.le_trans rr2 (Nat.add_le_add_right hn3 R)
  have NN3 := Nat.le_trans NN2 hn3
  refine K_reg (Wops_run rfl rfl (Wops_run rfl rfl (Wops_run rfl rfl (Wops_ld (v := ptr K.pp) rfl G3.m.gk rfl ?_))))
  refine Wops_call rfl (G3.c48 (by decide)) ?_
  rintro _ h4 ⟨r4, n4, rfl, hr4, G4, hn4, hp4, hu4, hz4, x4⟩
  have rr4 := Nat.le_trans rr3 (Nat.add_le_add_right hn4 R)
  have NN4 := Nat.le_trans NN3 hn4
  refine K_fin [(0, _), (1, _), (4, _), (21, _)] rfl (?_)
  obtain ⟨s5, G5, hn5, hp5⟩ : ∃ q, Go K h s h4 q [] ∧ ({ s3 with n := n4 } : St).n ≤ q.n ∧ pot K q ≤ pot K ({ s3 with n := n4 } : St) := ⟨_, G4, Nat.le_refl _, Int.le_refl _⟩
  have rr5 := Nat.le_trans rr4 (Nat.add_le_add_right hn5 R)
  have NN5 := Nat.le_trans NN4 hn5
  refine K_block ?_
  refine K_ss (K_reg (Wops_run rfl rfl (Wops_run rfl rfl (K_fin [(0, _), (1, _), (4, _), (21, _), (25, _)] rfl (?_)))))
  refine K_both (t := 25) rfl rfl (Wops_run rfl rfl (Wops_run rfl rfl (show _ ∧ _ from ⟨rfl, _, rfl⟩))) fun _ => ?_
  refine K_cond rfl (fun hc => ?_) (fun hc => ?_)
  · refine K_reg (Wops_run rfl rfl (Wops_run rfl rfl (Wops_call rfl G5.c62 ?_)))
    rintro _ h197 ⟨v197, w197, n197, rfl, G197, hn197, hp197⟩
    have rr197 := Nat.le_trans rr5 (Nat.add_le_add_right hn197 R)
    have NN197 := Nat.le_trans NN5 hn197
    refine Wops_run rfl rfl (Wops_run rfl rfl (Wops_run rfl rfl (Wops_run rfl rfl (Wops_run rfl rfl (K_fin [(0, _), (1, _), (4, _), (5, _), (6, _)] rfl (?_))))))
    obtain ⟨s198, G198, hn198, hp198⟩ : ∃ q, Go K h s h197 q [] ∧ ({ s5 with n := n197 } : St).n ≤ q.n ∧ pot K q ≤ pot K ({ s5 with n := n197 } : St) := ⟨_, G197, Nat.le_refl _, Int.le_refl _⟩
    have rr198 := Nat.le_trans rr197 (Nat.add_le_add_right hn198 R)
    have NN198 := Nat.le_trans NN197 hn198
    refine K_reg (Wops_run rfl rfl (Wops_run rfl rfl (Wops_run rfl rfl (Wops_call rfl ((H.e _ _).go G198 rr198 (by omega)) ?_))))
    rintro _ h199 ⟨s199, G199, hn199, hp199⟩
    have rr199 := Nat.le_trans rr198 (Nat.add_le_add_right hn199 R)
    have NN199 := Nat.le_trans NN198 hn199
    refine K_fin [(0, _), (5, _), (6, _)] rfl (?_)
    refine K_reg (Wops_run rfl rfl (K_fin [(0, _), (5, _), (38, _)] rfl (?_)))
    refine K_cond rfl (fun hc => ?_) (fun hc => ?_)
    · refine K_last (Wops_run rfl rfl (Wops_run rfl rfl (Wops_call rfl (G199.c63 (st' := []) (by omega) (fun w q => .plain q (by decide))) ?_)))
      rintro _ h200 ⟨s200, G200, hn200, hp200⟩
      have rr200 := Nat.le_trans rr199 (Nat.add_le_add_right hn200 R)
      have NN200 := Nat.le_trans NN199 hn200
      refine K_finL [] rfl (?_)
      exact Told.mk [] rfl ⟨_, G200, NN200, by omega⟩
    · refine K_last (Wops_run rfl rfl (Wops_call rfl (G199.c64 (st' := []) (by omega) (fun w q => .plain q (by decide))) ?_))
      rintro _ h201 ⟨s201, G201, hn201, hp201⟩
      have rr201 := Nat.le_trans rr199 (Nat.add_le_add_right hn201 R)
      have NN201 := Nat.le_trans NN199 hn201
      refine K_finL [] rfl (?_)
      exact Told.mk [] rfl ⟨_, G201, NN201, by omega⟩
  · refine K_ss (K_reg (Wops_run rfl rfl (Wops_run rfl rfl (K_fin [(0, _), (1, _), (4, _), (21, _), (44, _)] rfl (?_)))))
    refine K_both (t := 44) rfl rfl (Wops_run rfl rfl (Wops_run rfl rfl (show _ ∧ _ from ⟨rfl, _, rfl⟩))) fun _ => ?_
    refine K_cond rfl (fun hc => ?_) (fun hc => ?_)
    · refine K_reg (Wops_run rfl rfl (Wops_run rfl rfl (Wops_run rfl rfl (Wops_call rfl ((H.e _ _).go G5 rr5 (by omega)) ?_))))
      rintro _ h295 ⟨s295, G295, hn295, hp295⟩
      have rr295 := Nat.le_trans rr5 (Nat.add_le_add_right hn295 R)
      have NN295 := Nat.le_trans NN5 hn295
      refine K_fin [(0, _), (4, _)] rfl (?_)
      refine K_reg (Wops_run rfl rfl (K_fin [(0, _), (4, _), (7, _)] rfl (?_)))
      refine K_ss (K_reg (Wops_run rfl rfl (Wops_run rfl rfl (K_fin [(0, _), (7, _), (52, _)] rfl (?_)))))
      refine K_scond rfl (fun hc => ?_) (fun hc => ?_)
      · refine K_reg (Wops_run rfl rfl (K_fin [(0, _), (7, _)] rfl (?_)))
        refine K_last (Wops_run rfl rfl (Wops_run rfl rfl (Wops_call rfl (G295.c63 (st' := []) (by omega) (fun w q => .plain q (by decide))) ?_)))
        rintro _ h296 ⟨s296, G296, hn296, hp296⟩
        have rr296 := Nat.le_trans rr295 (Nat.add_le_add_right hn296 R)
        have NN296 := Nat.le_trans NN295 hn296
        refine K_finL [] rfl (?_)
        exact Told.mk [] rfl ⟨_, G296, NN296, by omega⟩
      · refine K_sskip (K_last (Wops_run rfl rfl (Wops_run rfl rfl (Wops_call rfl (G295.c63 (st' := []) (by omega) (fun w q => .plain q (by decide))) ?_))))
        rintro _ h297 ⟨s297, G297, hn297, hp297⟩
        have rr297 := Nat.le_trans rr295 (Nat.add_le_add_right hn297 R)
        have NN297 := Nat.le_trans NN295 hn297
        refine K_finL [] rfl (?_)
        exact Told.mk [] rfl ⟨_, G297, NN297, by omega⟩
    · refine K_ss (K_reg (Wops_run rfl rfl (Wops_run rfl rfl (K_fin [(0, _), (1, _), (4, _), (21, _), (56, _)] rfl (?_)))))
      refine K_both (t := 56) rfl rfl (Wops_run rfl rfl (Wops_run rfl rfl (show _ ∧ _ from ⟨rfl, _, rfl⟩))) fun _ => ?_
      refine K_cond rfl (fun hc => ?_) (fun hc => ?_)
      · refine K_reg (Wops_run rfl rfl (Wops_run rfl rfl (Wops_run rfl rfl (Wops_call rfl ((H.e _ _).go G5 rr5 (by omega)) ?_))))
        rintro _ h343 ⟨s343, G343, hn343, hp343⟩
        have rr343 := Nat.le_trans rr5 (Nat.add_le_add_right hn343 R)
        have NN343 := Nat.le_trans NN5 hn343
        refine K_fin [(0, _), (1, _), (4, _)] rfl (?_)
        refine K_reg (Wops_run rfl rfl (Wops_run rfl rfl (Wops_run rfl rfl (Wops_run rfl rfl (Wops_call rfl ((H.e _ _).go G343 rr343 (by omega)) ?_)))))
        rintro _ h344 ⟨s344, G344, hn344, hp344⟩
        have rr344 := Nat.le_trans rr343 (Nat.add_le_add_right hn344 R)
        have NN344 := Nat.le_trans NN343 hn344
        refine K_fin [(0, _), (4, _)] rfl (?_)
        refine K_reg (Wops_bslice (l := ints .i64 [54, 58, 59]) rfl rfl fun h345 n345 x345 g345 => ?_)
        have G345 := G344.ext0 x345
        refine Wops_run rfl rfl (Wops_run rfl rfl (Wops_run rfl rfl (Wops_ld (v := ptr K.pp) rfl G345.m.gk rfl ?_)))
        refine Wops_call rfl (G345.c48 (by decide)) ?_
        rintro _ h346 ⟨r346, n346, rfl, hr346, G346, hn346, hp346, hu346, hz346, x346⟩
        have g345x346 : At h346 h344.next (.cells (ints .i64 [54, 58, 59]) 1 false) := At.ext (S := (· = K.pp)) g345 x346 (by have := G344.m.lt; omega)
        have rr346 := Nat.le_trans rr344 (Nat.add_le_add_right hn346 R)
        have NN346 := Nat.le_trans NN344 hn346
        refine Wops_iaV rfl rfl ⟨by omega, by omega⟩ (Wops_ld (v := .int .i64 (([54, 58, 59] : List Int).getD r346 0)) rfl g345x346 (by rw [Nat.zero_add, Nat.mul_one]; exact ints_getD (L := [54, 58, 59]) (show r346 < 3 by omega)) ?_)
        refine Wops_run rfl rfl (K_fin [(0, _), (4, _), (8, _)] rfl (?_))
        obtain ⟨s347, G347, hn347, hp347⟩ : ∃ q, Go K h s h346 q [] ∧ ({ s344 with n := n346 } : St).n ≤ q.n ∧ pot K q ≤ pot K ({ s344 with n := n346 } : St) := ⟨_, G346, Nat.le_refl _, Int.le_refl _⟩
        have rr347 := Nat.le_trans rr346 (Nat.add_le_add_right hn347 R)
        have NN347 := Nat.le_trans NN346 hn347
        refine K_ss (K_reg (Wops_run rfl rfl (Wops_run rfl rfl (K_fin [(0, _), (8, _), (77, _)] rfl (?_)))))
        refine K_scond rfl (fun hc => ?_) (fun hc => ?_)
        · refine K_reg (Wops_bslice (l := ints .i64 [55, 60, 61, 62]) rfl rfl fun h348 n348 x348 g348 => ?_)
          have G348 := G347.ext0 x348
          refine Wops_run rfl rfl (Wops_run rfl rfl (Wops_run rfl rfl (Wops_ld (v := ptr K.pp) rfl G348.m.gk rfl ?_)))
          refine Wops_call rfl (G348.c48 (by decide)) ?_
          rintro _ h349 ⟨r349, n349, rfl, hr349, G349, hn349, hp349, hu349, hz349, x349⟩
          have g348x349 : At h349 h346.next (.cells (ints .i64 [55, 60, 61, 62]) 1 false) := At.ext (S := (· = K.pp)) g348 x349 (by have := G347.m.lt; omega)
          have rr349 := Nat.le_trans rr347 (Nat.add_le_add_right hn349 R)
          have NN349 := Nat.le_trans NN347 hn349
          refine Wops_iaV rfl rfl ⟨by omega, by omega⟩ (Wops_ld (v := .int .i64 (([55, 60, 61, 62] : List Int).getD r349 0)) rfl g348x349 (by rw [Nat.zero_add, Nat.mul_one]; exact ints_getD (L := [55, 60, 61, 62]) (show r349 < 4 by omega)) ?_)
          refine Wops_run rfl rfl (K_fin [(0, _), (8, _)] rfl (?_))
          obtain ⟨s350, G350, hn350, hp350⟩ : ∃ q, Go K h s h349 q [] ∧ ({ s347 with n := n349 } : St).n ≤ q.n ∧ pot K q ≤ pot K ({ s347 with n := n349 } : St) := ⟨_, G349, Nat.le_refl _, Int.le_refl _⟩
          have rr350 := Nat.le_trans rr349 (Nat.add_le_add_right hn350 R)
          have NN350 := Nat.le_trans NN349 hn350
          refine K_last (Wops_run rfl rfl (Wops_run rfl rfl (Wops_run rfl rfl (Wops_run rfl rfl (Wops_ld (v := .slice s350.oa s350.ops.length s350.oc) rfl G350.m.gk rfl ?_)))))
          refine Wops_run rfl rfl (Wops_run rfl rfl (Wops_run rfl rfl (Wops_run rfl rfl (Wops_ld (v := ptr K.pp) rfl G350.m.gk rfl ?_))))
          refine Wops_call rfl (G350.c48 (by decide)) ?_
          rintro _ h351 ⟨r351, n351, rfl, hr351, G351, hn351, hp351, hu351, hz351, x351⟩
          have rr351 := Nat.le_trans rr350 (Nat.add_le_add_right hn351 R)
          have NN351 := Nat.le_trans NN350 hn351
          obtain ⟨lq352, oq352, _⟩ := G351.m.o
          refine Wops_chk rfl rfl G351.m.gk (v := .slice s350.oa s350.ops.length s350.oc) rfl oq352.sl.same ?_
          refine Wops_run rfl rfl (Wops_run rfl rfl (?_))
          obtain ⟨l353, o353, il353⟩ := G351.m.o
          have hops353 : s350.ops.length ≤ 100100 := pot_opsB (K := K) (s := ({ s350 with n := n351 } : St)) G351.m (by omega)
          refine Wops_bslice (l := [.int .i64 (([55, 60, 61, 62] : List Int).getD r349 0), .int .u32 0, _, .int .u64 0, .slice none 0 0, .int .i64 0]) rfl rfl fun h353 n353 x353 g353 => ?_
          refine Wops_app (m := 1) rfl rfl (o353.ext x353) rfl (OwS.new (n := 1) (c := 1) g353 rfl).sl.first ⟨by omega, by omega⟩ rfl rfl (by decide) fun hh353 a353 c353 xx353 oo353 b353 => ?_
          refine Wops_run rfl rfl (Wops_run rfl rfl (Wops_st (l := [.slice a353 (({ s350 with n := n351 } : St).ops.length + 1) c353]) rfl rfl rfl rfl ((G351.m.gk.ext x353).ext xx353 fun r => (G351.m.no _ r).2.1 rfl) (by simp) rfl fun h354 nn354 x354 g354 => ?_))
          obtain ⟨s354, G354, hn354, hp354⟩ := G351.push' (k := 1) (os := [(([55, 60, 61, 62] : List Int).getD r349 0)]) (st' := []) il353 x353 xx353 rfl oo353 b353 x354 g354 (.one rfl) (fun w q => .plain q (getD_all (L := ([55, 60, 61, 62] : List Int)) (by decide) (show r349 < 4 by omega)))
          have rr354 := Nat.le_trans rr351 (Nat.add_le_add_right hn354 R)
          have NN354 := Nat.le_trans NN351 hn354
          refine K_finL [] rfl (?_)
          exact Told.mk [] rfl ⟨_, G354, NN354, by omega⟩
        · refine K_sskip (K_last (Wops_run rfl rfl (Wops_run rfl rfl (Wops_run rfl rfl (Wops_run rfl rfl (Wops_ld (v := .slice s347.oa s347.ops.length s347.oc) rfl G347.m.gk rfl ?_))))))
          refine Wops_run rfl rfl (Wops_run rfl rfl (Wops_run rfl rfl (Wops_run rfl rfl (Wops_ld (v := ptr K.pp) rfl G347.m.gk rfl ?_))))
          refine Wops_call rfl (G347.c48 (by decide)) ?_
          rintro _ h355 ⟨r355, n355, rfl, hr355, G355, hn355, hp355, hu355, hz355, x355⟩
          have rr355 := Nat.le_trans rr347 (Nat.add_le_add_right hn355 R)
          have NN355 := Nat.le_trans NN347 hn355
          obtain ⟨lq356, oq356, _⟩ := G355.m.o
          refine Wops_chk rfl rfl G355.m.gk (v := .slice s347.oa s347.ops.length s347.oc) rfl oq356.sl.same ?_
          refine Wops_run rfl rfl (Wops_run rfl rfl (?_))
          obtain ⟨l357, o357, il357⟩ := G355.m.o
          have hops357 : s347.ops.length ≤ 100100 := pot_opsB (K := K) (s := ({ s347 with n := n355 } : St)) G355.m (by omega)
          refine Wops_bslice (l := [.int .i64 (([54, 58, 59] : List Int).getD r346 0), .int .u32 0, _, .int .u64 0, .slice none 0 0, .int .i64 0]) rfl rfl fun h357 n357 x357 g357 => ?_
          refine Wops_app (m := 1) rfl rfl (o357.ext x357) rfl (OwS.new (n := 1) (c := 1) g357 rfl).sl.first ⟨by omega, by omega⟩ rfl rfl (by decide) fun hh357 a357 c357 xx357 oo357 b357 => ?_
          refine Wops_run rfl rfl (Wops_run rfl rfl (Wops_st (l := [.slice a357 (({ s347 with n := n355 } : St).ops.length + 1) c357]) rfl rfl rfl rfl ((G355.m.gk.ext x357).ext xx357 fun r => (G355.m.no _ r).2.1 rfl) (by simp) rfl fun h358 nn358 x358 g358 => ?_))
          obtain ⟨s358, G358, hn358, hp358⟩ := G355.push' (k := 1) (os := [(([54, 58, 59] : List Int).getD r346 0)]) (st' := []) il357 x357 xx357 rfl oo357 b357 x358 g358 (.one rfl) (fun w q => .plain q (getD_all (L := ([54, 58, 59] : List Int)) (by decide) (show r346 < 3 by omega)))
          have rr358 := Nat.le_trans rr355 (Nat.add_le_add_right hn358 R)
          have NN358 := Nat.le_trans NN355 hn358
          refine K_finL [] rfl (?_)
          exact Told.mk [] rfl ⟨_, G358, NN358, by omega⟩
      · refine K_reg (Wops_run rfl rfl (Wops_run rfl rfl (K_fin [(0, _), (1, _), (21, _), (103, _)] rfl (?_))))
        refine K_cond rfl (fun hc => ?_) (fun hc => ?_)
        · refine K_reg (Wops_run rfl rfl (Wops_run rfl rfl (Wops_call rfl ((H.t _).go G5 rr5 (by omega)) ?_)))
          rintro _ h359 ⟨s359, G359, hn359, hp359⟩
          have rr359 := Nat.le_trans rr5 (Nat.add_le_add_right hn359 R)
          have NN359 := Nat.le_trans NN5 hn359
          refine K_fin [(0, _)] rfl (?_)
          refine K_last (Wops_run rfl rfl (Wops_bslice (l := ints .i64 [64522, 64523, 64523]) rfl rfl fun h360 n360 x360 g360 => ?_))
          have G360 := G359.ext0 x360
          refine Wops_run rfl rfl (Wops_run rfl rfl (Wops_run rfl rfl (Wops_ld (v := ptr K.pp) rfl G360.m.gk rfl ?_)))
          refine Wops_call rfl (G360.c48 (by decide)) ?_
          rintro _ h361 ⟨r361, n361, rfl, hr361, G361, hn361, hp361, hu361, hz361, x361⟩
          have g360x361 : At h361 h359.next (.cells (ints .i64 [64522, 64523, 64523]) 1 false) := At.ext (S := (· = K.pp)) g360 x361 (by have := G359.m.lt; omega)
          have rr361 := Nat.le_trans rr359 (Nat.add_le_add_right hn361 R)
          have NN361 := Nat.le_trans NN359 hn361
          refine Wops_iaV rfl rfl ⟨by omega, by omega⟩ (Wops_ld (v := .int .i64 (([64522, 64523, 64523] : List Int).getD r361 0)) rfl g360x361 (by rw [Nat.zero_add, Nat.mul_one]; exact ints_getD (L := [64522, 64523, 64523]) (show r361 < 3 by omega)) ?_)
          refine Wops_call rfl (G361.c64 (st' := []) (by omega) (fun w q => .plain q (getD_all (L := ([64522, 64523, 64523] : List Int)) (by decide) (show r361 < 3 by omega)))) ?_
          rintro _ h362 ⟨s362, G362, hn362, hp362⟩
          have rr362 := Nat.le_trans rr361 (Nat.add_le_add_right hn362 R)
          have NN362 := Nat.le_trans NN361 hn362
          refine K_finL [] rfl (?_)
          exact Told.mk [] rfl ⟨_, G362, NN362, by omega⟩
        · refine K_reg (Wops_run rfl rfl (Wops_run rfl rfl (K_fin [(0, _), (1, _), (21, _), (118, _)] rfl (?_))))
          refine K_cond rfl (fun hc => ?_) (fun hc => ?_)
          · refine K_reg (Wops_run rfl rfl (Wops_run rfl rfl (Wops_call rfl ((H.t _).go G5 rr5 (by omega)) ?_)))
            rintro _ h363 ⟨s363, G363, hn363, hp363⟩
            have rr363 := Nat.le_trans rr5 (Nat.add_le_add_right hn363 R)
            have NN363 := Nat.le_trans NN5 hn363
            refine K_fin [(0, _)] rfl (?_)
            refine K_last (Wops_run rfl rfl (Wops_run rfl rfl (Wops_run rfl rfl (Wops_run rfl rfl (Wops_ld (v := ptr K.pp) rfl G363.m.gk rfl ?_)))))
            refine Wops_call rfl (G363.c48 (by decide)) ?_
            rintro _ h364 ⟨r364, n364, rfl, hr364, G364, hn364, hp364, hu364, hz364, x364⟩
            have rr364 := Nat.le_trans rr363 (Nat.add_le_add_right hn364 R)
            have NN364 := Nat.le_trans NN363 hn364
            refine Wops_run rfl rfl (Wops_call rfl (G364.c63 (st' := []) (by omega) (fun w q => .plain q (by decide))) ?_)
            rintro _ h365 ⟨s365, G365, hn365, hp365⟩
            have rr365 := Nat.le_trans rr364 (Nat.add_le_add_right hn365 R)
            have NN365 := Nat.le_trans NN364 hn365
            refine K_finL [] rfl (?_)
            exact Told.mk [] rfl ⟨_, G365, NN365, by omega⟩
          · refine K_reg (Wops_run rfl rfl (Wops_run rfl rfl (K_fin [(0, _), (1, _), (21, _), (131, _)] rfl (?_))))
            refine K_cond rfl (fun hc => ?_) (fun hc => ?_)
            · refine K_reg (Wops_run rfl rfl (Wops_run rfl rfl (Wops_call rfl ((H.t _).go G5 rr5 (by omega)) ?_)))
              rintro _ h366 ⟨s366, G366, hn366, hp366⟩
              have rr366 := Nat.le_trans rr5 (Nat.add_le_add_right hn366 R)
              have NN366 := Nat.le_trans NN5 hn366
              refine K_fin [(0, _)] rfl (?_)
              refine K_last (Wops_run rfl rfl (Wops_run rfl rfl (Wops_run rfl rfl (Wops_run rfl rfl (Wops_ld (v := .slice s366.oa s366.ops.length s366.oc) rfl G366.m.gk rfl ?_)))))
              refine Wops_bslice (l := ints .i64 [64524, 64526]) rfl rfl fun h367 n367 x367 g367 => ?_
              have G367 := G366.ext0 x367
              refine Wops_run rfl rfl (Wops_run rfl rfl (Wops_run rfl rfl (Wops_ld (v := ptr K.pp) rfl G367.m.gk rfl ?_)))
              refine Wops_call rfl (G367.c48 (by decide)) ?_
              rintro _ h368 ⟨r368, n368, rfl, hr368, G368, hn368, hp368, hu368, hz368, x368⟩
              have g367x368 : At h368 h366.next (.cells (ints .i64 [64524, 64526]) 1 false) := At.ext (S := (· = K.pp)) g367 x368 (by have := G366.m.lt; omega)
              have rr368 := Nat.le_trans rr366 (Nat.add_le_add_right hn368 R)
              have NN368 := Nat.le_trans NN366 hn368
              obtain ⟨lq369, oq369, _⟩ := G368.m.o
              refine Wops_chk rfl rfl G368.m.gk (v := .slice s366.oa s366.ops.length s366.oc) rfl oq369.sl.same ?_
              refine Wops_iaV rfl rfl ⟨by omega, by omega⟩ (Wops_ld (v := .int .i64 (([64524, 64526] : List Int).getD r368 0)) rfl g367x368 (by rw [Nat.zero_add, Nat.mul_one]; exact ints_getD (L := [64524, 64526]) (show r368 < 2 by omega)) ?_)
              refine Wops_run rfl rfl (?_)
              obtain ⟨l370, o370, il370⟩ := G368.m.o
              have hops370 : s366.ops.length ≤ 100100 := pot_opsB (K := K) (s := ({ s366 with n := n368 } : St)) G368.m (by omega)
              refine Wops_bslice (l := [.int .i64 (([64524, 64526] : List Int).getD r368 0), .int .u32 0, .int .u32 0, .int .u64 0, .slice none 0 0, .int .i64 0]) rfl rfl fun h370 n370 x370 g370 => ?_
              refine Wops_app (m := 1) rfl rfl (o370.ext x370) rfl (OwS.new (n := 1) (c := 1) g370 rfl).sl.first ⟨by omega, by omega⟩ rfl rfl (by decide) fun hh370 a370 c370 xx370 oo370 b370 => ?_
              refine Wops_run rfl rfl (Wops_run rfl rfl (Wops_st (l := [.slice a370 (({ s366 with n := n368 } : St).ops.length + 1) c370]) rfl rfl rfl rfl ((G368.m.gk.ext x370).ext xx370 fun r => (G368.m.no _ r).2.1 rfl) (by simp) rfl fun h371 nn371 x371 g371 => ?_))
              obtain ⟨s371, G371, hn371, hp371⟩ := G368.push' (k := 1) (os := [(([64524, 64526] : List Int).getD r368 0)]) (st' := []) il370 x370 xx370 rfl oo370 b370 x371 g371 (.one rfl) (fun w q => .plain q (getD_all (L := ([64524, 64526] : List Int)) (by decide) (show r368 < 2 by omega)))
              have rr371 := Nat.le_trans rr368 (Nat.add_le_add_right hn371 R)
              have NN371 := Nat.le_trans NN368 hn371
              refine K_finL [] rfl (?_)
              exact Told.mk [] rfl ⟨_, G371, NN371, by omega⟩
            · refine K_reg (Wops_run rfl rfl (Wops_run rfl rfl (K_fin [(0, _), (1, _), (21, _), (154, _)] rfl (?_))))
              refine K_cond rfl (fun hc => ?_) (fun hc => ?_)
              · refine K_reg (Wops_run rfl rfl (Wops_run rfl rfl (Wops_run rfl rfl (Wops_run rfl rfl (Wops_ld (v := ptr K.pp) rfl G5.m.gk rfl ?_)))))
                refine Wops_call rfl (G5.c48 (by decide)) ?_
                rintro _ h372 ⟨r372, n372, rfl, hr372, G372, hn372, hp372, hu372, hz372, x372⟩
                have rr372 := Nat.le_trans rr5 (Nat.add_le_add_right hn372 R)
                have NN372 := Nat.le_trans NN5 hn372
                refine Wops_run rfl rfl (Wops_call rfl (G372.c60 (by omega)) ?_)
                rintro _ h373 ⟨s373, G373, hn373, hp373⟩
                have rr373 := Nat.le_trans rr372 (Nat.add_le_add_right hn373 R)
                have NN373 := Nat.le_trans NN372 hn373
                refine K_fin [(0, _)] rfl (?_)
                refine K_reg (Wops_run rfl rfl (Wops_call rfl (G373.c75 (by omega)) ?_))
                rintro _ h374 ⟨s374, G374, hn374, hp374⟩
                have rr374 := Nat.le_trans rr373 (Nat.add_le_add_right hn374 R)
                have NN374 := Nat.le_trans NN373 hn374
                refine K_fin [(0, _)] rfl (?_)
                refine K_last (Wops_run rfl rfl (Wops_call rfl (G374.c63 (st' := []) (by omega) (fun w q => .plain q (by decide))) ?_))
                rintro _ h375 ⟨s375, G375, hn375, hp375⟩
                have rr375 := Nat.le_trans rr374 (Nat.add_le_add_right hn375 R)
                have NN375 := Nat.le_trans NN374 hn375
                refine K_finL [] rfl (?_)
                exact Told.mk [] rfl ⟨_, G375, NN375, by omega⟩
              · refine K_reg (Wops_run rfl rfl (Wops_run rfl rfl (K_fin [(0, _), (1, _), (21, _), (168, _)] rfl (?_))))
                refine K_cond rfl (fun hc => ?_) (fun hc => ?_)
                · refine K_last (Wops_run rfl rfl (Wops_run rfl rfl (Wops_call rfl ((H.lo _).go G5 rr5 (by omega)) ?_)))
                  rintro _ h376 ⟨s376, G376, hn376, hp376⟩
                  have rr376 := Nat.le_trans rr5 (Nat.add_le_add_right hn376 R)
                  have NN376 := Nat.le_trans NN5 hn376
                  refine K_finL [] rfl (?_)
                  exact Told.mk [] rfl ⟨_, G376, NN376, by omega⟩
                · refine K_reg (Wops_run rfl rfl (Wops_run rfl rfl (K_fin [(0, _), (1, _), (21, _), (173, _)] rfl (?_))))
                  refine K_cond rfl (fun hc => ?_) (fun hc => ?_)
                  · refine K_last (Wops_run rfl rfl (Wops_bslice (l := ints .i64 [64521, 64525]) rfl rfl fun h377 n377 x377 g377 => ?_))
                    have G377 := G5.ext0 x377
                    refine Wops_run rfl rfl (Wops_run rfl rfl (Wops_run rfl rfl (Wops_ld (v := ptr K.pp) rfl G377.m.gk rfl ?_)))
                    refine Wops_run rfl rfl (Wops_run rfl rfl (Wops_run rfl rfl (Wops_ld (v := ptr K.pp) rfl G377.m.gk rfl ?_)))
                    refine Wops_call rfl (G377.c48 (by decide)) ?_
                    rintro _ h378 ⟨r378, n378, rfl, hr378, G378, hn378, hp378, hu378, hz378, x378⟩
                    have g377x378 : At h378 h4.next (.cells (ints .i64 [64521, 64525]) 1 false) := At.ext (S := (· = K.pp)) g377 x378 (by have := G5.m.lt; omega)
                    have rr378 := Nat.le_trans rr5 (Nat.add_le_add_right hn378 R)
                    have NN378 := Nat.le_trans NN5 hn378
                    refine Wops_chk rfl rfl G378.m.gk (v := ptr K.pp) rfl (by simp [sameV, sameCell]) ?_
                    refine Wops_iaV rfl rfl ⟨by omega, by omega⟩ (Wops_ld (v := .int .i64 (([64521, 64525] : List Int).getD r378 0)) rfl g377x378 (by rw [Nat.zero_add, Nat.mul_one]; exact ints_getD (L := [64521, 64525]) (show r378 < 2 by omega)) ?_)
                    refine Wops_call rfl (G378.c48 (by decide)) ?_
                    rintro _ h379 ⟨r379, n379, rfl, hr379, G379, hn379, hp379, hu379, hz379, x379⟩
                    have g377x378x379 : At h379 h4.next (.cells (ints .i64 [64521, 64525]) 1 false) := At.ext (S := (· = K.pp)) g377x378 x379 (by have := G5.m.lt; omega)
                    have rr379 := Nat.le_trans rr378 (Nat.add_le_add_right hn379 R)
                    have NN379 := Nat.le_trans NN378 hn379
                    refine Wops_chk rfl rfl g377x378x379 (v := .int .i64 (([64521, 64525] : List Int).getD r378 0)) (by rw [Nat.zero_add, Nat.mul_one]; exact ints_getD (L := ([64521, 64525] : List Int)) (show r378 < 2 by omega)) (by simp [sameV, sameCell]) ?_
                    refine Wops_run rfl rfl (Wops_call rfl (G379.c63 (st' := []) (by omega) (fun w q => .plain q (getD_all (L := ([64521, 64525] : List Int)) (by decide) (show r378 < 2 by omega)))) ?_)
                    rintro _ h380 ⟨s380, G380, hn380, hp380⟩
                    have rr380 := Nat.le_trans rr379 (Nat.add_le_add_right hn380 R)
                    have NN380 := Nat.le_trans NN379 hn380
                    refine K_finL [] rfl (?_)
                    exact Told.mk [] rfl ⟨_, G380, NN380, by omega⟩
                  · refine K_reg (Wops_run rfl rfl (Wops_run rfl rfl (K_fin [(0, _), (1, _), (191, _)] rfl (?_))))
                    refine K_cond rfl (fun hc => ?_) (fun hc => ?_)
                    · refine K_reg (Wops_run rfl rfl (Wops_run rfl rfl (Wops_run rfl rfl (Wops_run rfl rfl (Wops_ld (v := ptr K.pp) rfl G5.m.gk rfl ?_)))))
                      refine Wops_call rfl (G5.c48 (by decide)) ?_
                      rintro _ h381 ⟨r381, n381, rfl, hr381, G381, hn381, hp381, hu381, hz381, x381⟩
                      have rr381 := Nat.le_trans rr5 (Nat.add_le_add_right hn381 R)
                      have NN381 := Nat.le_trans NN5 hn381
                      refine Wops_run rfl rfl (Wops_call rfl (G381.c60 (by omega)) ?_)
                      rintro _ h382 ⟨s382, G382, hn382, hp382⟩
                      have rr382 := Nat.le_trans rr381 (Nat.add_le_add_right hn382 R)
                      have NN382 := Nat.le_trans NN381 hn382
                      refine K_fin [(0, _)] rfl (?_)
                      refine K_reg (Wops_run rfl rfl (Wops_call rfl (G382.c75 (by omega)) ?_))
                      rintro _ h383 ⟨s383, G383, hn383, hp383⟩
                      have rr383 := Nat.le_trans rr382 (Nat.add_le_add_right hn383 R)
                      have NN383 := Nat.le_trans NN382 hn383
                      refine K_fin [(0, _)] rfl (?_)
                      refine K_reg (Wops_run rfl rfl (Wops_run rfl rfl (Wops_run rfl rfl (Wops_run rfl rfl (Wops_ld (v := ptr K.pp) rfl G383.m.gk rfl ?_)))))
                      refine Wops_call rfl (G383.c48 (by decide)) ?_
                      rintro _ h384 ⟨r384, n384, rfl, hr384, G384, hn384, hp384, hu384, hz384, x384⟩
                      have rr384 := Nat.le_trans rr383 (Nat.add_le_add_right hn384 R)
                      have NN384 := Nat.le_trans NN383 hn384
                      refine Wops_run rfl rfl (Wops_call rfl (G384.c60 (by omega)) ?_)
                      rintro _ h385 ⟨s385, G385, hn385, hp385⟩
                      have rr385 := Nat.le_trans rr384 (Nat.add_le_add_right hn385 R)
                      have NN385 := Nat.le_trans NN384 hn385
                      refine K_fin [(0, _)] rfl (?_)
                      refine K_last (Wops_run rfl rfl (Wops_call rfl (G385.c63 (st' := []) (by omega) (fun w q => .plain q (by decide))) ?_))
                      rintro _ h386 ⟨s386, G386, hn386, hp386⟩
                      have rr386 := Nat.le_trans rr385 (Nat.add_le_add_right hn386 R)
                      have NN386 := Nat.le_trans NN385 hn386
                      refine K_finL [] rfl (?_)
                      exact Told.mk [] rfl ⟨_, G386, NN386, by omega⟩
                    · refine K_last (Wops_run rfl rfl (Wops_run rfl rfl (Wops_call rfl ((H.j _).go G5 rr5 (by omega)) ?_)))
                      rintro _ h387 ⟨s387, G387, hn387, hp387⟩
                      have rr387 := Nat.le_trans rr5 (Nat.add_le_add_right hn387 R)
                      have NN387 := Nat.le_trans NN5 hn387
                      refine K_finL [] rfl (?_)
                      exact Told.mk [] rfl ⟨_, G387, NN387, by omega⟩

end
section
/- Made modules: expr, three, called, stmts; all of them. -/
set_option linter.unusedVariables false
set_option linter.unusedSimpArgs false

/-- maker.expr, behind its choice -/
theorem E50r {K : Kt} {R : Nat} (H : AllAt K R) {h h1 : Heap} {s s1 : St} {t d c : Int} {kx : Nat → Kn} {kr : Kn} (G0 : Go K h s h1 s1 []) (r0 : K.xs.length ≤ s1.n + R) (n0 : s.n ≤ s1.n) (p0 : pot K s1 ≤ 99970) (p1 : pot K s1 ≤ pot K s + (-30)) :
    W Try.prog (match F22.code with | .seq _ (.seq _ b) => b | _ => .skip) [(0, ptr K.pk), (1, .int .u8 t), (2, .int .i64 d), (6, .int .i64 c)] h1 (K3 (Told F22.res fun v h' => Adds K h s s [] [] 1 h') kx kr) := by
  refine K_reg (Wops_run rfl rfl (Wops_run rfl rfl (Wops_run rfl rfl (K_fin [(0, _), (1, _), (2, _), (6, _), (7, _)] rfl (?_)))))
  exact E50 H G0 r0 n0 p0 p1
set_option maxHeartbeats 1000000 in
/-- maker.expr, where a number is left -/
theorem E50n {K : Kt} {R : Nat} (H : AllAt K R) {h : Heap} {s : St} {t d : Int} (m : Mk K h s) (hl : s.n < K.xs.length) (r0 : K.xs.length ≤ s.n + (R + 1)) (p0 : pot K s ≤ 100000) :
    Fn Try.prog 22 [ptr K.pk, .int .u8 t, .int .i64 d] h fun v h' => Adds K h s s [] [] 1 h' := by
  have G0 := Go.refl m
  refine fnK F22.fok rfl ?_
  refine K_reg (Wops_run rfl rfl (Wops_run rfl rfl (Wops_run rfl rfl (Wops_ld (v := ptr K.pp) rfl G0.m.gk rfl (Wops_call rfl (G0.c48 (by decide)) ?_)))))
  rintro _ h1 ⟨r1, n1, rfl, hr1, G1, hn1, hp1, hu1, hz1, x1⟩
  obtain ⟨hu, hpu⟩ := hu1 hl
  refine Wops_run rfl rfl (K_fin [(0, _), (1, _), (2, _), (6, _)] rfl (?_))
  have rr : K.xs.length ≤ n1 + R := by omega
  have fin : ∀ {c : Int} {kx : Nat → Kn} {kr : Kn}, W Try.prog (match F22.code with | .seq _ (.seq _ b) => b | _ => .skip) [(0, ptr K.pk), (1, .int .u8 t), (2, .int .i64 d), (6, .int .i64 c)] h1 (K3 (Told F22.res fun v h' => Adds K h s s [] [] 1 h') kx kr) :=
    fun {c kx kr} => E50r H G1 rr hn1 (by omega) (by omega)
  have go : ∀ {b : Bool} {kx : Nat → Kn} {kr : Kn}, W Try.prog (match F22.code with | .seq _ (.seq (.seq _ c) b) => .seq c b | _ => .skip) [(0, ptr K.pk), (1, .int .u8 t), (2, .int .i64 d), (6, .int .i64 (r1 : Int)), (37, .bool b)] h1 (K3 (Told F22.res fun v h' => Adds K h s s [] [] 1 h') kx kr) := by
    intro b kx kr
    refine K_scond rfl (fun _ => ?_) (fun _ => K_sskip fin)
    refine K_reg (Wops_run rfl rfl (Wops_rem rfl rfl (by decide) (Wops_run rfl rfl (K_fin [(0, _), (1, _), (2, _), (6, _)] rfl (?_)))))
    exact fin
  refine K_ss (K_reg (Wops_run rfl rfl (Wops_run rfl rfl (Wops_run rfl rfl ?_))))
  cases hd : decide (d ≤ 0)
  case true =>
    (repeat (first | refine Wops_skip rfl ?_ | refine Wops_run rfl rfl ?_))
    refine K_fin [(0, _), (1, _), (2, _), (6, _), (37, _)] rfl (?_)
    exact go
  refine Wops_go rfl (Wops_run rfl rfl (Wops_go rfl (Wops_run rfl rfl (Wops_go rfl (Wops_run rfl rfl (Wops_go rfl (Wops_ld (v := ptr K.pp) rfl G1.m.gk rfl (Wops_go rfl (Wops_call rfl G1.c58 ?_)))))))))
  rintro _ _ ⟨rfl, rfl⟩
  refine Wops_run rfl rfl (Wops_run rfl rfl ?_)
  cases ho : decide (((({ s with n := n1 } : St).n : Nat) : Int) ≥ (K.xs.length : Int))
  case true =>
    (repeat (first | refine Wops_skip rfl ?_ | refine Wops_run rfl rfl ?_))
    refine K_fin [(0, _), (1, _), (2, _), (6, _), (37, _)] rfl (?_)
    exact go
  refine Wops_go rfl (Wops_run rfl rfl (Wops_go rfl (Wops_run rfl rfl (Wops_go rfl (Wops_run rfl rfl (Wops_go rfl (Wops_ld (v := .slice s.oa s.ops.length s.oc) rfl G1.m.gk rfl ?_)))))))
  refine Wops_go rfl (Wops_run rfl rfl (Wops_go rfl (Wops_run rfl rfl (Wops_run rfl rfl (K_fin [(0, _), (1, _), (2, _), (6, _), (37, _)] rfl (?_))))))
  exact go
set_option maxHeartbeats 1000000 in
/-- maker.expr, where none is left -/
theorem E50z {K : Kt} {h : Heap} {s : St} {t d : Int} (m : Mk K h s) (hl : s.n = K.xs.length) (p0 : pot K s ≤ 100000) :
    Fn Try.prog 22 [ptr K.pk, .int .u8 t, .int .i64 d] h fun v h' => Adds K h s s [] [] 1 h' := by
  have G0 := Go.refl m
  refine fnK F22.fok rfl ?_
  refine K_reg (Wops_run rfl rfl (Wops_run rfl rfl (Wops_run rfl rfl (Wops_ld (v := ptr K.pp) rfl G0.m.gk rfl (Wops_call rfl (G0.c48 (by decide)) ?_)))))
  rintro _ h1 ⟨r1, n1, rfl, hr1, G1, hn1, hp1, hu1, hz1, x1⟩
  obtain rfl : r1 = 0 := hz1 hl
  have hn2 : n1 = K.xs.length := by have h1 : n1 ≤ K.xs.length := G1.m.hn; omega
  refine Wops_run rfl rfl (K_fin [(0, _), (1, _), (2, _), (6, _)] rfl (?_))
  have go : ∀ {kx : Nat → Kn} {kr : Kn}, W Try.prog (match F22.code with | .seq _ (.seq (.seq _ c) b) => .seq c b | _ => .skip) [(0, ptr K.pk), (1, .int .u8 t), (2, .int .i64 d), (6, .int .i64 ((0 : Nat) : Int)), (37, .bool true)] h1 (K3 (Told F22.res fun v h' => Adds K h s s [] [] 1 h') kx kr) := by
    intro kx kr
    refine K_scond rfl (fun _ => ?_) (fun hc => by cases hc)
    refine K_reg (Wops_run rfl rfl (Wops_rem rfl rfl (by decide) (Wops_run rfl rfl (K_fin [(0, _), (1, _), (2, _), (6, .int .i64 0)] rfl (?_)))))
    refine K_reg (Wops_run rfl rfl (Wops_run rfl rfl (Wops_run rfl rfl (K_fin [(0, _), (1, _), (2, _), (6, _), (7, _)] rfl (?_)))))
    refine K_block ?_
    refine K_reg (Wops_run rfl rfl (Wops_run rfl rfl (Wops_run rfl rfl (K_fin [(0, _), (1, _), (2, _), (6, _), (7, _), (46, .bool true)] rfl (?_)))))
    refine K_cond rfl (fun _ => ?_) (fun hc => by cases hc)
    refine K_last (Wops_run rfl rfl (Wops_run rfl rfl (Wops_run rfl rfl (Wops_call rfl G1.c61 ?_))))
    rintro _ h2 ⟨N2, n2, rfl, G2, hn2, hp2⟩
    refine Wops_call rfl (G2.c60 (by omega)) ?_
    rintro _ h3 ⟨s3, G3, hn3, hp3⟩
    refine K_finL [] rfl (?_)
    exact Told.mk [] rfl ⟨_, G3, Nat.le_trans hn1 (Nat.le_trans hn2 hn3), by omega⟩
  refine K_ss (K_reg (Wops_run rfl rfl (Wops_run rfl rfl (Wops_run rfl rfl ?_))))
  cases hd : decide (d ≤ 0)
  case true =>
    (repeat (first | refine Wops_skip rfl ?_ | refine Wops_run rfl rfl ?_))
    refine K_fin [(0, _), (1, _), (2, _), (6, _), (37, _)] rfl (?_)
    exact go
  refine Wops_go rfl (Wops_run rfl rfl (Wops_go rfl (Wops_run rfl rfl (Wops_go rfl (Wops_run rfl rfl (Wops_go rfl (Wops_ld (v := ptr K.pp) rfl G1.m.gk rfl (Wops_go rfl (Wops_call rfl G1.c58 ?_)))))))))
  rintro _ _ ⟨rfl, rfl⟩
  have ho : decide (((({ s with n := n1 } : St).n : Nat) : Int) ≥ (K.xs.length : Int)) = true := decide_eq_true (by show (n1 : Int) ≥ _; omega)
  refine Wops_as (w := .bool true) rfl rfl (by rw [ho]) (Wops_run rfl rfl ?_)
  (repeat (first | refine Wops_skip rfl ?_ | refine Wops_run rfl rfl ?_))
  refine K_fin [(0, _), (1, _), (2, _), (6, _), (37, _)] rfl (?_)
  exact go
abbrev Eh (K : Kt) (R : Nat) : Prop := ∀ t d, CF K R 22 [ptr K.pk, .int .u8 t, .int .i64 d] 1 100000
set_option maxHeartbeats 1000000 in
/-- maker.three -/
theorem E74 {K : Kt} {R : Nat} (E : Eh K R) {d : Int} : CF K R 49 [ptr K.pk, .int .i64 d] 3 99975 := by
  intro h s m r0 p0
  have G0 := Go.refl m
  refine fnK F49.fok rfl ?_
  refine K_reg (Wops_run rfl rfl (K_fin [(0, _), (1, _), (4, _)] rfl (?_)))
  refine K_block ?_
  refine K_loop (fun k e h' => ∃ (i : Nat) (s1 : St), e = [(0, ptr K.pk), (1, .int .i64 d), (4, .int .i64 (i : Int))] ∧ i ≤ 3 ∧ k = 3 - i ∧ Go K h s h' s1 [] ∧ s.n ≤ s1.n ∧ pot K s1 ≤ pot K s + i) ?_ (k := 3) ⟨0, s, rfl, by omega, rfl, G0, Nat.le_refl _, by omega⟩
  rintro k e h' ⟨i, s1, rfl, hi, rfl, G1, n1, p1⟩
  have r1 := Nat.le_trans r0 (Nat.add_le_add_right n1 R)
  refine K_ss (K_reg (Wops_run rfl rfl (Wops_run rfl rfl (K_fin [(0, _), (1, _), (4, _), (6, _)] rfl (?_)))))
  refine K_scond rfl (fun hc => ?_) (fun hc => ?_)
  · have hi3 : i < 3 := by have := of_decide_eq_true hc; omega
    refine K_sskip (K_sblock ?_)
    refine K_reg (Wops_run rfl rfl (Wops_run rfl rfl (Wops_run rfl rfl (Wops_ld (v := ptr K.pp) rfl G1.m.gk rfl (Wops_call rfl (G1.c48 (by decide)) ?_)))))
    rintro _ h2 ⟨r2, n2, rfl, hr2, G2, hn2, hp2, hu2, hz2, x2⟩
    have rr2 : K.xs.length ≤ n2 + R := by omega
    refine Wops_run rfl rfl (K_fin [(0, _), (1, _), (4, _), (14, _)] rfl (?_))
    refine K_cond rfl (fun _ => ?_) (fun _ => ?_)
    · refine K_last (Wops_run rfl rfl (Wops_run rfl rfl (Wops_run rfl rfl (Wops_call rfl ((E _ _).go G2 rr2 (by omega)) ?_))))
      rintro _ h3 ⟨s3, G3, hn3, hp3⟩
      refine K_finL [(0, _), (1, _), (4, _)] rfl (?_)
      refine K_last (Wops_run rfl rfl (Wops_run rfl rfl (Wops_run rfl rfl (K_finL [(0, _), (1, _), (4, _)] rfl (?_)))))
      exact ⟨3 - (i + 1), by omega, i + 1, s3, by rw [w64s (by omega)], by omega, rfl, G3, Nat.le_trans n1 (Nat.le_trans hn2 hn3), by omega⟩
    · refine K_last (Wops_run rfl rfl (Wops_run rfl rfl (Wops_run rfl rfl (Wops_run rfl rfl (Wops_ld (v := ptr K.pp) rfl G2.m.gk rfl (Wops_call rfl (G2.c48 (by decide)) ?_))))))
      rintro _ h3 ⟨r3, n3, rfl, hr3, G3, hn3, hp3, hu3, hz3, x3⟩
      refine Wops_run rfl rfl (Wops_call rfl (G3.c60 (by omega)) ?_)
      rintro _ h4 ⟨s4, G4, hn4, hp4⟩
      refine K_finL [(0, _), (1, _), (4, _)] rfl (?_)
      refine K_last (Wops_run rfl rfl (Wops_run rfl rfl (Wops_run rfl rfl (K_finL [(0, _), (1, _), (4, _)] rfl (?_)))))
      exact ⟨3 - (i + 1), by omega, i + 1, s4, by rw [w64s (by omega)], by omega, rfl, G4, Nat.le_trans n1 (Nat.le_trans hn2 (Nat.le_trans hn3 hn4)), by omega⟩
  · refine K_sexit (bx_same ?_)
    exact Told.mk [] rfl ⟨s1, G1, n1, by omega⟩
set_option maxHeartbeats 1000000 in
/-- maker.stmts -/
theorem E49 {K : Kt} {R : Nat} (T : ∀ (h : Heap) (s : St) (d : Int), Mk K h s → s.n < K.xs.length → K.xs.length ≤ s.n + R → pot K s ≤ 100000 → Fn Try.prog 39 [ptr K.pk, .int .i64 d] h fun v h' => Adds K h s s [] [] 0 h') {n d : Int} (hn : n ≤ 1000) :
    CF K R 21 [ptr K.pk, .int .i64 n, .int .i64 d] 0 100000 := by
  intro h s m r0 p0
  have G0 := Go.refl m
  refine fnK F21.fok rfl ?_
  refine K_reg (Wops_run rfl rfl (K_fin [(0, _), (1, _), (2, _), (6, _)] rfl (?_)))
  refine K_block ?_
  refine K_loop (fun k e h' => ∃ (i : Nat) (s1 : St), e = [(0, ptr K.pk), (1, .int .i64 n), (2, .int .i64 d), (6, .int .i64 (i : Int))] ∧ k = n.toNat - i ∧ i ≤ 1000 ∧ Go K h s h' s1 [] ∧ s.n ≤ s1.n ∧ pot K s1 ≤ pot K s + 0) ?_ (k := n.toNat) ⟨0, s, rfl, rfl, by omega, G0, Nat.le_refl _, by omega⟩
  rintro k e h' ⟨i, s1, rfl, rfl, hi, G1, n1, p1⟩
  have r1 := Nat.le_trans r0 (Nat.add_le_add_right n1 R)
  have out : ∀ {e : Env} {kn : Kn} {kr : Kn}, W Try.prog (.seq (.cond (.t 25) .skip (.exit 0)) (match F21.code with | .seq _ (.block _ (.loop (.seq _ b))) => b | _ => .skip)) ((0, ptr K.pk) :: (1, .int .i64 n) :: (2, .int .i64 d) :: (6, .int .i64 (i : Int)) :: (25, .bool false) :: e) h'
      (K3 kn (bx 0 (Told F21.res fun v h' => Adds K h s s [] [] 0 h') fun _ _ _ => False) kr) := by
    intro e kn kr
    refine K_scond rfl (fun hc => by cases hc) (fun _ => ?_)
    exact K_sexit (bx_same (Told.mk [] rfl ⟨s1, G1, n1, p1⟩))
  refine K_ss (K_reg (Wops_run rfl rfl (Wops_run rfl rfl ?_)))
  by_cases h1 : (i : Int) < n
  case neg =>
    refine Wops_as (w := .bool false) rfl rfl (by rw [decide_eq_false h1]) (Wops_run rfl rfl ?_)
    (repeat (first | refine Wops_skip rfl ?_ | refine Wops_run rfl rfl ?_))
    refine K_fin [(0, _), (1, _), (2, _), (6, _), (25, _)] rfl (?_)
    exact out
  refine Wops_as (w := .bool true) rfl rfl (by rw [decide_eq_true h1]) (Wops_run rfl rfl ?_)
  refine Wops_go rfl (Wops_run rfl rfl (Wops_go rfl (Wops_run rfl rfl (Wops_go rfl (Wops_run rfl rfl (Wops_go rfl (Wops_ld (v := ptr K.pp) rfl G1.m.gk rfl (Wops_go rfl (Wops_call rfl G1.c58 ?_)))))))))
  rintro _ _ ⟨rfl, rfl⟩
  by_cases h2 : s1.n < K.xs.length
  case neg =>
    refine Wops_go rfl (Wops_as (w := .bool false) rfl rfl (by rw [decide_eq_true (by omega)]; rfl) (Wops_run rfl rfl (Wops_run rfl rfl ?_)))
    (repeat (first | refine Wops_skip rfl ?_ | refine Wops_run rfl rfl ?_))
    refine K_fin [(0, _), (1, _), (2, _), (6, _), (25, _)] rfl (?_)
    exact out
  refine Wops_go rfl (Wops_as (w := .bool true) rfl rfl (by rw [decide_eq_false (by omega)]; rfl) (Wops_run rfl rfl (Wops_run rfl rfl ?_)))
  refine Wops_go rfl (Wops_run rfl rfl (Wops_go rfl (Wops_run rfl rfl (Wops_go rfl (Wops_run rfl rfl (Wops_go rfl (Wops_ld (v := .slice s1.oa s1.ops.length s1.oc) rfl G1.m.gk rfl ?_)))))))
  refine Wops_go rfl (Wops_run rfl rfl (Wops_go rfl (Wops_run rfl rfl (Wops_run rfl rfl (K_fin [(0, _), (1, _), (2, _), (6, _), (25, _)] rfl (?_))))))
  refine K_scond rfl (fun _ => ?_) (fun _ => ?_)
  · refine K_sskip (K_sblock ?_)
    refine K_last (Wops_run rfl rfl (Wops_run rfl rfl (Wops_call rfl (T _ _ _ G1.m h2 r1 (by omega)) ?_)))
    rintro _ h3 ⟨s3, Q3, hn3, hp3⟩
    have G3 := G1.trans Q3
    refine K_finL [(0, _), (1, _), (2, _), (6, _)] rfl (?_)
    refine K_last (Wops_run rfl rfl (Wops_run rfl rfl (Wops_run rfl rfl (K_finL [(0, _), (1, _), (2, _), (6, _)] rfl (?_)))))
    exact ⟨n.toNat - (i + 1), by omega, i + 1, s3, by rw [w64s (by omega)], rfl, by omega, G3, Nat.le_trans n1 hn3, by omega⟩
  · exact K_sexit (bx_same (Told.mk [] rfl ⟨s1, G1, n1, p1⟩))

end
section
/- Made modules: called; all of a maker's functions. -/
set_option linter.unusedVariables false
set_option linter.unusedSimpArgs false

set_option maxHeartbeats 4000000 in
/-- maker.called, behind its choice -/
theorem E66r {K : Kt} {R : Nat} (E : Eh K R) {h h1 : Heap} {s s1 : St} {d : Int} {f x : Nat} {pa ra : Option Addr} {pn pc rn rc : Nat} {ps : List Int} {kx : Nat → Kn} {kn : Kn} (G1 : Go K h s h1 s1 []) (r1 : K.xs.length ≤ s1.n + R) (n1 : s.n ≤ s1.n) (p0 : pot K s1 ≤ 99975) (p1 : pot K s1 ≤ pot K s)
    (gx : At h1 x (.cells [.slice pa pn pc, .slice ra rn rc] 0 false)) (hx : ¬ K.S x ∧ x ≠ K.pk ∧ x ≠ K.pp ∧ ¬ Blk s1.oa x) (sp : SlA h1 1 pa pn pc (ints .u8 ps)) (hpS : ∀ i, Blk pa i → K.S i) (hpn : pn ≤ 2) (hf : f < K.fs.length) :
    W Try.prog (match F46.code with | .seq (.seq _ (.block _ (.loop (.seq _ (.seq (.block _ (.seq _ (.seq _ b))) _))))) _ => b | _ => .skip) [(0, ptr K.pk), (2, .int .i64 d), (6, .int .i64 (f : Int)), (7, ptr x)] h1 (K3 kn kx (Told F46.res fun v h' => Adds K h s s [] [] 4 h')) := by
  have hpl : ps.length = pn := by simpa using sp.len
  refine K_ss (K_reg (Wops_run rfl rfl (K_fin [(0, _), (2, _), (6, _), (7, _), (8, _)] rfl (?_))))
  refine K_sblock ?_
  refine K_loop (fun k e h' => ∃ (i : Nat) (s2 : St), e = [(0, ptr K.pk), (2, .int .i64 d), (6, .int .i64 (f : Int)), (7, ptr x), (8, .int .i64 (i : Int))] ∧ i ≤ pn ∧ k = pn - i ∧ Go K h1 s1 h' s2 [] ∧ s1.n ≤ s2.n ∧ pot K s2 ≤ pot K s1 + i) ?_ (k := pn) ⟨0, s1, rfl, by omega, rfl, Go.refl G1.m, Nat.le_refl _, by omega⟩
  rintro k e h' ⟨i, s2, rfl, hi, rfl, Q2, n2, p2⟩
  have r2 := Nat.le_trans r1 (Nat.add_le_add_right n2 R)
  have dx : ∀ i, K.S i → ¬ (i = K.pk ∨ i = K.pp ∨ Blk s1.oa i) := fun i q r => by
    rcases r with r | r | r
    · exact G1.m.nk (by rw [← r]; exact q)
    · exact G1.m.np (by rw [← r]; exact q)
    · exact (G1.m.no i r).1 q
  have gx2 := gx.ext Q2.x fun r => by
    rcases r with r | r | r
    · exact hx.2.1 r
    · exact hx.2.2.1 r
    · exact hx.2.2.2 r
  have sp2 := sp.ext Q2.x fun i r => dx i (hpS i r)
  have G2 := G1.trans Q2
  refine K_ss (K_reg (Wops_run rfl rfl (Wops_run rfl rfl (Wops_ld (v := .slice pa pn pc) rfl gx2 rfl (Wops_run rfl rfl (Wops_run rfl rfl (K_fin [(0, _), (2, _), (6, _), (7, _), (8, _), (72, _)] rfl (?_))))))))
  refine K_scond rfl (fun hc => ?_) (fun hc => ?_)
  · have hil : i < pn := by have := of_decide_eq_true hc; omega
    have hip : i < ps.length := by omega
    refine K_sskip (K_sblock ?_)
    refine K_last (Wops_run rfl rfl (Wops_run rfl rfl (Wops_ld (v := .slice pa pn pc) rfl gx2 rfl (Wops_run rfl rfl (Wops_idx (u := .int .u8 ps[i]) rfl rfl sp2 ⟨by omega, by omega⟩ (by simp [hip]) fun _ => ?_)))))
    refine Wops_run rfl rfl (Wops_run rfl rfl (Wops_call rfl ((E _ _).go Q2 r2 (by omega)) ?_))
    rintro _ h3 ⟨s3, Q3, hn3, hp3⟩
    refine K_finL [(0, _), (2, _), (6, _), (7, _), (8, _)] rfl (?_)
    refine K_last (Wops_run rfl rfl (Wops_run rfl rfl (Wops_run rfl rfl (K_finL [(0, _), (2, _), (6, _), (7, _), (8, _)] rfl (?_)))))
    exact ⟨pn - (i + 1), by omega, i + 1, s3, by rw [w64s (by omega)], by omega, rfl, Q3, Nat.le_trans n2 hn3, by omega⟩
  · refine K_sexit (bx_same ?_)
    refine K_ss (K_reg (Wops_run rfl rfl (Wops_run rfl rfl (Wops_run rfl rfl (Wops_ld (v := ptr K.pp) rfl G2.m.gk rfl (Wops_call rfl (G2.c48 (by decide)) ?_))))))
    rintro _ h3 ⟨r3, n3, rfl, hr3, G3, hn3, hp3, hu3, hz3, x3⟩
    refine Wops_run rfl rfl (K_fin [(0, _), (6, _), (89, _)] rfl (?_))
    refine K_scond rfl (fun _ => ?_) (fun _ => ?_)
    · refine K_ss (K_reg (Wops_run rfl rfl (Wops_run rfl rfl (Wops_run rfl rfl (Wops_run rfl rfl (Wops_ld (v := ptr K.pp) rfl G3.m.gk rfl (Wops_call rfl (G3.c48 (by decide)) ?_)))))))
      rintro _ h4 ⟨r4, n4, rfl, hr4, G4, hn4, hp4, hu4, hz4, x4⟩
      refine Wops_run rfl rfl (Wops_call rfl (G4.c60 (by omega)) ?_)
      rintro _ h5 ⟨s5, G5, hn5, hp5⟩
      refine K_fin [(0, _), (6, _)] rfl (?_)
      obtain ⟨l, o, il⟩ := G5.m.o
      have hops : s5.ops.length ≤ 100100 := pot_opsB G5.m (by omega)
      refine K_reg (Wops_run rfl rfl (Wops_run rfl rfl (Wops_run rfl rfl (Wops_run rfl rfl (Wops_ld (v := .slice s5.oa s5.ops.length s5.oc) rfl G5.m.gk rfl ?_)))))
      refine Wops_run rfl rfl (Wops_run rfl rfl (Wops_run rfl rfl (Wops_ld (v := ptr K.pm) rfl G5.m.gk rfl (Wops_run rfl rfl (Wops_run rfl rfl (Wops_ld rfl G5.m.z.gm G5.m.z.hF ?_))))))
      refine Wops_run rfl rfl (Wops_idx (u := .int .u32 (K.fs[f] : Int)) rfl rfl G5.m.z.sf ⟨by omega, by omega⟩ (by simp [hf]) fun _ => ?_)
      refine Wops_run rfl rfl (Wops_bslice (l := [.int .i64 17, _, .int .u32 0, .int .u64 0, .slice none 0 0, .int .i64 0]) rfl rfl fun h6 n6 x6 g6 => ?_)
      refine Wops_app (m := 1) rfl rfl (o.ext x6) rfl (OwS.new (n := 1) (c := 1) g6 rfl).sl.first ⟨by omega, by omega⟩ rfl rfl (by decide) fun h7 a7 c7 x7 o7 b7 => ?_
      refine Wops_run rfl rfl (Wops_run rfl rfl (Wops_st (l := [.slice a7 (s5.ops.length + 1) c7]) rfl rfl rfl rfl ((G5.m.gk.ext x6).ext x7 fun r => (G5.m.no _ r).2.1 rfl) (by simp) rfl fun h8 n8 x8 g8 => ?_))
      obtain ⟨s8, G8, hn8, hp8⟩ := G5.push' (k := 1) (os := [17]) (st' := []) il x6 x7 rfl o7 b7 x8 g8 (.one rfl) fun w q => .plain q (by decide)
      refine K_fin [] rfl (?_)
      refine K_ret (Told.mk [] rfl ⟨s8, G8, Nat.le_trans n1 (Nat.le_trans n2 (Nat.le_trans hn3 (Nat.le_trans hn4 (Nat.le_trans hn5 hn8)))), by omega⟩)
    · refine K_reg (Wops_run rfl rfl (Wops_run rfl rfl (Wops_run rfl rfl (Wops_call rfl (G3.c63 (st' := []) (by omega) (fun w q => .plain q (by decide))) ?_))))
      rintro _ h4 ⟨s4, G4, hn4, hp4⟩
      refine K_fin [] rfl (?_)
      refine K_ret (Told.mk [] rfl ⟨s4, G4, Nat.le_trans n1 (Nat.le_trans n2 (Nat.le_trans hn3 hn4)), by omega⟩)
set_option maxHeartbeats 4000000 in
/-- maker.called: one of the functions -/
theorem E66c {K : Kt} {R : Nat} (E : Eh K R) {h h1 : Heap} {s s1 : St} {t d : Int} {f x : Nat} {pa ra : Option Addr} {pn pc rn rc : Nat} {ps rs : List Int} {kx : Nat → Kn} {kn : Kn} (G1 : Go K h s h1 s1 []) (r1 : K.xs.length ≤ s1.n + R) (n1 : s.n ≤ s1.n) (p0 : pot K s1 ≤ 99975) (p1 : pot K s1 ≤ pot K s)
    (gx : At h1 x (.cells [.slice pa pn pc, .slice ra rn rc] 0 false)) (hx : ¬ K.S x ∧ x ≠ K.pk ∧ x ≠ K.pp ∧ ¬ Blk s1.oa x) (sp : SlA h1 1 pa pn pc (ints .u8 ps)) (hpS : ∀ i, Blk pa i → K.S i) (hpn : pn ≤ 2) (sr : SlA h1 1 ra rn rc (ints .u8 rs)) (hf : f < K.fs.length)
    (hk : ∀ h4 s4, Go K h s h4 s4 [] → s1.n ≤ s4.n → pot K s4 ≤ pot K s1 → kx 1 [(0, ptr K.pk), (1, .int .u8 t), (2, .int .i64 d), (6, .int .i64 (f : Int)), (7, ptr x), (67, .bool true)] h4) :
    W Try.prog (match F46.code with | .seq (.seq _ (.block _ (.loop (.seq _ (.seq (.block _ (.seq _ b)) _))))) _ => b | _ => .skip) [(0, ptr K.pk), (1, .int .u8 t), (2, .int .i64 d), (6, .int .i64 (f : Int)), (7, ptr x)] h1 (K3 kn kx (Told F46.res fun v h' => Adds K h s s [] [] 4 h')) := by
  have hrl : rs.length = rn := by simpa using sr.len
  have out : ∀ {h4 : Heap} {s4 : St} {kn : Kn} {kr : Kn} {b : SCode}, Go K h s h4 s4 [] → s1.n ≤ s4.n → pot K s4 ≤ pot K s1 → W Try.prog (.seq (.cond (.t 67) (.exit 1) .skip) b) [(0, ptr K.pk), (1, .int .u8 t), (2, .int .i64 d), (6, .int .i64 (f : Int)), (7, ptr x), (67, .bool true)] h4 (K3 kn kx kr) := by
    intro h4 s4 kn kr b g n p
    refine K_scond rfl (fun _ => ?_) (fun hc => by cases hc)
    exact K_sexit (hk _ _ g n p)
  refine K_ss (K_reg (Wops_run rfl rfl (Wops_ld (v := .slice ra rn rc) rfl gx rfl (Wops_run rfl rfl ?_))))
  by_cases h1n : rn = 1
  case neg =>
    refine Wops_neq (v := true) rfl rfl (by simp; omega) (Wops_run rfl rfl ?_)
    (repeat (first | refine Wops_skip rfl ?_ | refine Wops_run rfl rfl ?_))
    refine K_fin [(0, _), (1, _), (2, _), (6, _), (7, _), (67, _)] rfl (?_)
    exact out G1 (Nat.le_refl _) (Int.le_refl _)
  refine Wops_neq (v := false) rfl rfl (by simp; omega) (Wops_run rfl rfl ?_)
  refine Wops_go rfl (Wops_run rfl rfl (Wops_go rfl (Wops_ld (v := .slice ra rn rc) rfl gx rfl ?_)))
  refine Wops_go rfl (Wops_idxG (u := .int .u8 (rs[0]'(by omega))) rfl rfl sr ⟨by omega, by omega⟩ (by simp) (fun _ => rfl) fun _ => ?_)
  refine Wops_go rfl (Wops_run rfl rfl (Wops_go rfl (Wops_run rfl rfl (Wops_run rfl rfl (Wops_run rfl rfl ?_)))))
  cases hq : (rs[0]'(by omega) != t)
  case true =>
    (repeat (first | refine Wops_skip rfl ?_ | refine Wops_run rfl rfl ?_))
    refine K_fin [(0, _), (1, _), (2, _), (6, _), (7, _), (67, _)] rfl (?_)
    exact out G1 (Nat.le_refl _) (Int.le_refl _)
  refine Wops_go rfl (Wops_run rfl rfl (Wops_go rfl (Wops_run rfl rfl (Wops_go rfl (Wops_run rfl rfl (Wops_go rfl (Wops_run rfl rfl (Wops_go rfl (Wops_ld (v := .int .i64 K.self) rfl G1.m.gk rfl ?_)))))))))
  refine Wops_go rfl (Wops_run rfl rfl (Wops_go rfl (Wops_run rfl rfl ?_)))
  cases hg : decide ((f : Int) ≥ K.self)
  case false =>
    refine Wops_skip rfl (Wops_skip rfl (Wops_skip rfl (Wops_skip rfl (Wops_skip rfl (Wops_skip rfl (Wops_go rfl (Wops_run rfl rfl (Wops_run rfl rfl (K_fin [(0, _), (1, _), (2, _), (6, _), (7, _), (67, _)] rfl (?_))))))))))
    refine K_scond rfl (fun hc => by cases hc) (fun _ => K_sskip ?_)
    exact E66r E G1 r1 n1 p0 p1 gx hx sp hpS hpn hf
  refine Wops_go rfl (Wops_run rfl rfl (Wops_go rfl (Wops_run rfl rfl (Wops_go rfl (Wops_run rfl rfl (Wops_go rfl (Wops_ld (v := ptr K.pp) rfl G1.m.gk rfl (Wops_go rfl (Wops_call rfl (G1.c48 (by decide)) ?_)))))))))
  rintro _ h2 ⟨r2, n2, rfl, hr2, G2, hn2, hp2, hu2, hz2, x2⟩
  refine Wops_go rfl (Wops_run rfl rfl (Wops_go rfl (Wops_run rfl rfl (Wops_run rfl rfl (K_fin [(0, _), (1, _), (2, _), (6, _), (7, _), (67, .bool (decide ((r2 : Int) > 0)))] rfl (?_))))))
  refine K_scond rfl (fun hc => ?_) (fun hc => ?_)
  · have := out (kn := kn) (kr := Told F46.res fun v h' => Adds K h s s [] [] 4 h') (b := .skip) G2 hn2 hp2
    rw [hc]
    exact K_sexit (hk _ _ G2 hn2 hp2)
  · refine K_sskip ?_
    have x2' : ∀ i, K.S i → ¬ (i = K.pp) := fun i q r => G1.m.np (by rw [← r]; exact q)
    rw [hc]
    exact E66r E G2 (by show _ ≤ n2 + R; omega) (Nat.le_trans n1 hn2) (by omega) (by omega) (gx.ext x2 hx.2.2.1) hx (sp.ext x2 fun i r => x2' i (hpS i r)) hpS hpn hf
set_option maxHeartbeats 4000000 in
/-- maker.called -/
theorem E66 {K : Kt} {R : Nat} (E : Eh K R) {t d : Int} : CF K R 46 [ptr K.pk, .int .u8 t, .int .i64 d] 4 99975 := by
  intro h s m r0 p0
  have G0 := Go.refl m
  refine fnK F46.fok rfl ?_
  refine K_ss (K_reg (Wops_run rfl rfl (K_fin [(0, _), (1, _), (2, _), (6, _)] rfl (?_))))
  refine K_sblock ?_
  refine K_loop (fun k e h' => ∃ (f : Nat) (s1 : St), e = [(0, ptr K.pk), (1, .int .u8 t), (2, .int .i64 d), (6, .int .i64 (f : Int))] ∧ f ≤ K.fs.length ∧ k = K.fs.length - f ∧ Go K h s h' s1 [] ∧ s.n ≤ s1.n ∧ pot K s1 ≤ pot K s) ?_ (k := K.fs.length) ⟨0, s, rfl, by omega, rfl, G0, Nat.le_refl _, by omega⟩
  rintro k e h' ⟨f, s1, rfl, hi, rfl, G1, n1, p1⟩
  have f3 := G1.m.z.f3
  refine K_ss (K_reg (Wops_run rfl rfl (Wops_run rfl rfl (Wops_run rfl rfl (Wops_run rfl rfl (Wops_ld (v := ptr K.pm) rfl G1.m.gk rfl (Wops_run rfl rfl (Wops_run rfl rfl (Wops_ld rfl G1.m.z.gm G1.m.z.hF (Wops_run rfl rfl (Wops_run rfl rfl (K_fin [(0, _), (1, _), (2, _), (6, _), (18, _)] rfl (?_)))))))))))))
  refine K_scond rfl (fun hc => ?_) (fun hc => ?_)
  · have hf : f < K.fs.length := by have := of_decide_eq_true hc; omega
    have hj : K.fs[f] < 6 := G1.m.z.fr _ (List.getElem_mem hf)
    obtain ⟨pa, pn, pc, ps, ra, rn, rc, rs, ht, sp, sr, pS, rS, hpn, hrn⟩ := G1.m.z.tys _ hj
    obtain ⟨idt, offt, vst, ezt, rot, hta, gt, hlt, hlt2, hgt⟩ := G1.m.z.st.at (by omega)
    have wt : (vst.drop (offt + ((K.fs[f] : Nat) : Int).toNat * 2)).take 2 = [.slice pa pn pc, .slice ra rn rc] := by
      rw [Int.toNat_natCast, ← ht]
      apply List.ext_getElem?
      intro q
      by_cases hq : q < 2
      · rw [List.getElem?_take_of_lt hq, List.getElem?_drop, List.getElem?_take_of_lt hq, List.getElem?_drop, Nat.add_assoc, hgt _ (by omega)]
      · rw [List.getElem?_eq_none (by simp; omega), List.getElem?_eq_none (by simp; omega)]
    have hT := G1.m.z.hT
    rw [hta] at hT
    have hrl : rs.length = rn := by simpa using sr.len
    refine K_sskip (K_sblock ?_)
    refine K_reg (Wops_run rfl rfl (Wops_run rfl rfl (Wops_run rfl rfl (Wops_ld (v := ptr K.pm) rfl G1.m.gk rfl (Wops_run rfl rfl (Wops_run rfl rfl (Wops_ld rfl G1.m.z.gm hT ?_)))))))
    refine Wops_run rfl rfl (Wops_run rfl rfl (Wops_run rfl rfl (Wops_ld (v := ptr K.pm) rfl G1.m.gk rfl (Wops_run rfl rfl (Wops_run rfl rfl (Wops_ld rfl G1.m.z.gm G1.m.z.hF ?_))))))
    refine Wops_run rfl rfl (Wops_idx (u := .int .u32 (K.fs[f] : Int)) rfl rfl G1.m.z.sf ⟨by omega, by omega⟩ (by simp [hf]) fun _ => ?_)
    refine Wops_iaV rfl rfl ⟨by omega, by omega⟩ (Wops_ldA rfl gt (by rw [Int.toNat_natCast]; omega) wt (Wops_new fun h2 n2 x2 g2 => ?_))
    refine Wops_st (l := [.slice pa pn pc, .slice ra rn rc]) rfl rfl rfl rfl g2 (by simp) rfl fun h3 n3 x3 g3 => ?_
    refine K_fin [(0, _), (1, _), (2, _), (6, _), (7, _)] rfl (?_)
    replace g3 : At h3 h'.next (.cells [.slice pa pn pc, .slice ra rn rc] 0 false) := g3
    have x23 : Ext0 h' h3 := x2.then x3 fun i r => .inr (by omega)
    have G3 := G1.ext0 x23
    have hx : ¬ K.S h'.next ∧ h'.next ≠ K.pk ∧ h'.next ≠ K.pp ∧ ¬ Blk s1.oa h'.next := by
      obtain ⟨l, o, il⟩ := G1.m.o
      have := G1.m.lt
      exact ⟨fun q => by have := G1.m.z.lt _ q; omega, by omega, by omega, fun q => by have := o.lt q; omega⟩
    have r1 := Nat.le_trans r0 (Nat.add_le_add_right n1 R)
    have sp3 := sp.ext x23
    have sr3 := sr.ext x23
    refine E66c E G3 r1 n1 (by omega) p1 g3 hx sp3 pS hpn sr3 hf fun h4 s4 G4 n4 p4 => bx_same ?_
    refine K_last (Wops_run rfl rfl (Wops_run rfl rfl (Wops_run rfl rfl (K_finL [(0, _), (1, _), (2, _), (6, _)] rfl (?_)))))
    exact ⟨K.fs.length - (f + 1), by omega, f + 1, s4, by rw [w64s (by omega)], by omega, rfl, G4, Nat.le_trans n1 n4, by omega⟩
  · refine K_sexit (bx_same ?_)
    refine K_last (Wops_run rfl rfl (Wops_run rfl rfl (Wops_call rfl (G1.c60 (by omega)) ?_)))
    rintro _ h2 ⟨s2, G2, hn2, hp2⟩
    refine K_finL [] rfl (?_)
    exact Told.mk [] rfl ⟨s2, G2, Nat.le_trans n1 hn2, by omega⟩
/-- All of them, of one of expr and of stmt. -/
theorem all_of {K : Kt} {R : Nat} (E : Eh K R) (T : ∀ (h : Heap) (s : St) (d : Int), Mk K h s → s.n < K.xs.length → K.xs.length ≤ s.n + R → pot K s ≤ 100000 → Fn Try.prog 39 [ptr K.pk, .int .i64 d] h fun v h' => Adds K h s s [] [] 0 h') : AllAt K R := by
  have S : ∀ (n d : Int), n ≤ 1000 → CF K R 21 [ptr K.pk, .int .i64 n, .int .i64 d] 0 100000 := fun n d hn => E49 T hn
  refine ⟨E, fun op t d ho => ?_, fun t d => E66 E, fun t d => E67 E, fun d => E74 E, S, fun d => E76 S, fun d => E77 E S⟩
  rcases ho with rfl | rfl
  · exact E65a E S
  · exact E65b E S
theorem all_at (K : Kt) : ∀ R, AllAt K R
  | 0 => all_of (fun t d h s m r0 p0 => E50z m (by have := m.hn; omega) p0) fun h s d m hl r0 p0 => by omega
  | R + 1 => all_of (fun t d h s m r0 p0 => by
      by_cases hl : s.n < K.xs.length
      · exact E50n (all_at K R) m hl r0 p0
      · exact E50z m (by have := m.hn; omega) p0) fun h s d m hl r0 p0 => E59 (all_at K R) m hl r0 p0
/-- expr, stmts: from anywhere. -/
theorem Go.c50 {K : Kt} {h h1 : Heap} {s s1 : St} {st : List Bool} {t d : Int} (g : Go K h s h1 s1 st) (hp : pot K s1 ≤ 100000) : Fn Try.prog 22 [ptr K.pk, .int .u8 t, .int .i64 d] h1 fun v h2 => Adds K h s s1 st st 1 h2 :=
  ((all_at K K.xs.length).e t d).go g (Nat.le_add_left _ _) hp
theorem Go.c49 {K : Kt} {h h1 : Heap} {s s1 : St} {st : List Bool} {n d : Int} (g : Go K h s h1 s1 st) (hn : n ≤ 1000) (hp : pot K s1 ≤ 100000) : Fn Try.prog 21 [ptr K.pk, .int .i64 n, .int .i64 d] h1 fun v h2 => Adds K h s s1 st st 0 h2 :=
  ((all_at K K.xs.length).s n d hn).go g (Nat.le_add_left _ _) hp

end
section
/- Made modules: what was laid by one who works; types, Made. -/
set_option linter.unusedVariables false
set_option linter.unusedSimpArgs false

/-- Blocks of one's own. -/
def Mem (h0 h : Heap) : List (Nat × List Value × Nat) → Prop
  | [] => True
  | (b, cs, e) :: r => (h0.next ≤ b ∧ At h b (.cells cs e false)) ∧ Mem h0 h r
theorem Mem.ext {h0 h h' : Heap} {T : Nat → Prop} (x : Ext T h h') (d : ∀ i, h0.next ≤ i → ¬ T i) : ∀ {L : List (Nat × List Value × Nat)}, Mem h0 h L → Mem h0 h' L
  | [], _ => trivial
  | (b, cs, e) :: r, m => ⟨⟨m.1.1, m.1.2.ext x (d _ m.1.1)⟩, Mem.ext x d m.2⟩
theorem Mem.ext0 {h0 h h' : Heap} (x : Ext0 h h') {L : List (Nat × List Value × Nat)} (m : Mem h0 h L) : Mem h0 h' L := m.ext x fun i _ r => r
theorem Mem.put {h0 h h' : Heap} {T : Nat → Prop} (x : Ext T h h') : ∀ {L : List (Nat × List Value × Nat)}, Mem h0 h L → (∀ p ∈ L, ¬ T p.1) → Mem h0 h' L
  | [], _, _ => trivial
  | (b, cs, e) :: r, m, d => ⟨⟨m.1.1, m.1.2.ext x (d (b, cs, e) (by simp))⟩, Mem.put x m.2 fun p hp => d p (by simp [hp])⟩

set_option maxHeartbeats 1000000 in
/-- types -/
theorem C19 {h : Heap} : Fn Try.prog 19 [] h fun v h' => ∃ ta tc ty, v = .slice ta 6 tc ∧ SlA h' 2 ta 6 tc ty ∧ (∀ i, Blk ta i → h.next ≤ i ∧ i < h'.next) ∧ Tys h' (fun i => h.next ≤ i ∧ i < h'.next) ty ∧ Ext0 h h' := by
  refine fnK F19.fok rfl ?_
  refine K_reg (Wops_run rfl rfl (K_fin [] rfl (?_)))
  refine K_reg (Wops_run rfl rfl (Wops_run rfl rfl (K_fin [(1, _), (2, _)] rfl (?_))))
  refine K_reg (Wops_run rfl rfl (Wops_run rfl rfl (Wops_bslice (l := ints .u8 [127]) rfl rfl fun h1 n1 x1 g1 => ?_)))
  refine Wops_run rfl rfl (Wops_bslice (l := ints .u8 [127]) rfl rfl fun h2 n2 x2 g2 => ?_)
  refine Wops_run rfl rfl (Wops_run rfl rfl (Wops_run rfl rfl (Wops_bslice (l := ints .u8 [127, 127]) rfl rfl fun h3 n3 x3 g3 => ?_)))
  refine Wops_run rfl rfl (Wops_bslice (l := ints .u8 [127]) rfl rfl fun h4 n4 x4 g4 => ?_)
  refine Wops_run rfl rfl (Wops_run rfl rfl (Wops_bslice (l := ints .u8 [126]) rfl rfl fun h5 n5 x5 g5 => ?_))
  refine Wops_run rfl rfl (Wops_bslice (l := ints .u8 [126]) rfl rfl fun h6 n6 x6 g6 => ?_)
  refine Wops_run rfl rfl (Wops_run rfl rfl (Wops_bslice (l := ints .u8 [127]) rfl rfl fun h7 n7 x7 g7 => ?_))
  refine Wops_run rfl rfl (Wops_run rfl rfl (Wops_bslice (l := ints .u8 [127]) rfl rfl fun h8 n8 x8 g8 => ?_))
  refine Wops_run rfl rfl (Wops_run rfl rfl (Wops_bslice (l := ints .u8 [127, 127]) rfl rfl fun h9 n9 x9 g9 => ?_))
  refine Wops_run rfl rfl (Wops_bslice (l := [.slice none 0 0, .slice none 0 0, .slice (some ⟨h.next, 0, none⟩) 1 1, .slice (some ⟨h1.next, 0, none⟩) 1 1, .slice (some ⟨h2.next, 0, none⟩) 2 1, .slice (some ⟨h3.next, 0, none⟩) 1 1, .slice (some ⟨h4.next, 0, none⟩) 1 1, .slice (some ⟨h5.next, 0, none⟩) 1 1, .slice none 0 0, .slice (some ⟨h6.next, 0, none⟩) 1 1, .slice (some ⟨h7.next, 0, none⟩) 1 1, .slice (some ⟨h8.next, 0, none⟩) 2 1]) rfl rfl fun h10 n10 x10 g10 => ?_)
  refine Wops_run rfl rfl (K_fin [(0, _)] rfl (?_))
  have e9 := x10
  have e8 := x9.trans e9
  have e7 := x8.trans e8
  have e6 := x7.trans e7
  have e5 := x6.trans e6
  have e4 := x5.trans e5
  have e3 := x4.trans e4
  have e2 := x3.trans e3
  have e1 := x2.trans e2
  have s1 : SlA h10 1 (some ⟨h.next, 0, none⟩) 1 1 (ints .u8 [127]) := (OwS.new (n := 1) (c := 1) g1 rfl).sl.ext e1
  have b1 : ∀ i, Blk (some ⟨h.next, 0, none⟩) i → h.next ≤ i ∧ i < h10.next := fun i r => by rw [Blk.at] at r; omega
  have s2 : SlA h10 1 (some ⟨h1.next, 0, none⟩) 1 1 (ints .u8 [127]) := (OwS.new (n := 1) (c := 1) g2 rfl).sl.ext e2
  have b2 : ∀ i, Blk (some ⟨h1.next, 0, none⟩) i → h.next ≤ i ∧ i < h10.next := fun i r => by rw [Blk.at] at r; omega
  have s3 : SlA h10 1 (some ⟨h2.next, 0, none⟩) 2 1 (ints .u8 [127, 127]) := (OwS.new (n := 2) (c := 1) g3 rfl).sl.ext e3
  have b3 : ∀ i, Blk (some ⟨h2.next, 0, none⟩) i → h.next ≤ i ∧ i < h10.next := fun i r => by rw [Blk.at] at r; omega
  have s4 : SlA h10 1 (some ⟨h3.next, 0, none⟩) 1 1 (ints .u8 [127]) := (OwS.new (n := 1) (c := 1) g4 rfl).sl.ext e4
  have b4 : ∀ i, Blk (some ⟨h3.next, 0, none⟩) i → h.next ≤ i ∧ i < h10.next := fun i r => by rw [Blk.at] at r; omega
  have s5 : SlA h10 1 (some ⟨h4.next, 0, none⟩) 1 1 (ints .u8 [126]) := (OwS.new (n := 1) (c := 1) g5 rfl).sl.ext e5
  have b5 : ∀ i, Blk (some ⟨h4.next, 0, none⟩) i → h.next ≤ i ∧ i < h10.next := fun i r => by rw [Blk.at] at r; omega
  have s6 : SlA h10 1 (some ⟨h5.next, 0, none⟩) 1 1 (ints .u8 [126]) := (OwS.new (n := 1) (c := 1) g6 rfl).sl.ext e6
  have b6 : ∀ i, Blk (some ⟨h5.next, 0, none⟩) i → h.next ≤ i ∧ i < h10.next := fun i r => by rw [Blk.at] at r; omega
  have s7 : SlA h10 1 (some ⟨h6.next, 0, none⟩) 1 1 (ints .u8 [127]) := (OwS.new (n := 1) (c := 1) g7 rfl).sl.ext e7
  have b7 : ∀ i, Blk (some ⟨h6.next, 0, none⟩) i → h.next ≤ i ∧ i < h10.next := fun i r => by rw [Blk.at] at r; omega
  have s8 : SlA h10 1 (some ⟨h7.next, 0, none⟩) 1 1 (ints .u8 [127]) := (OwS.new (n := 1) (c := 1) g8 rfl).sl.ext e8
  have b8 : ∀ i, Blk (some ⟨h7.next, 0, none⟩) i → h.next ≤ i ∧ i < h10.next := fun i r => by rw [Blk.at] at r; omega
  have s9 : SlA h10 1 (some ⟨h8.next, 0, none⟩) 2 1 (ints .u8 [127, 127]) := (OwS.new (n := 2) (c := 1) g9 rfl).sl.ext e9
  have b9 : ∀ i, Blk (some ⟨h8.next, 0, none⟩) i → h.next ≤ i ∧ i < h10.next := fun i r => by rw [Blk.at] at r; omega
  have s10 := (OwS.new (sz := 2) (n := 6) (c := 1) g10 rfl).sl
  refine K_ret (Told.mk _ rfl ⟨_, 1, _, rfl, s10, fun i r => by rw [Blk.at] at r; omega, fun j hj => ?_, x1.trans e1⟩)
  have bn : ∀ i, Blk (none : Option Addr) i → h.next ≤ i ∧ i < h10.next := fun i r => absurd r Blk.none
  match j, hj with
  | 0, _ => exact ⟨none, 0, 0, [], none, 0, 0, [], rfl, SlA.none, SlA.none, bn, bn, by decide, by decide⟩
  | 1, _ => exact ⟨_, 1, 1, _, _, 1, 1, _, rfl, s1, s2, b1, b2, by decide, by decide⟩
  | 2, _ => exact ⟨_, 2, 1, _, _, 1, 1, _, rfl, s3, s4, b3, b4, by decide, by decide⟩
  | 3, _ => exact ⟨_, 1, 1, _, _, 1, 1, _, rfl, s5, s6, b5, b6, by decide, by decide⟩
  | 4, _ => exact ⟨none, 0, 0, [], _, 1, 1, _, rfl, SlA.none, s7, bn, b7, by decide, by decide⟩
  | 5, _ => exact ⟨_, 1, 1, _, _, 2, 1, _, rfl, s8, s9, b8, b9, by decide, by decide⟩
/-- Made -/
theorem C7 {h : Heap} {a : Option Addr} {n c : Nat} : Fn Try.prog 7 [.slice a n c] h fun v h' => v = ptr h.next ∧ At h' h.next (.cells [.slice a n c, .int .i64 0] 0 false) ∧ Ext0 h h' := by
  refine fnK F7.fok rfl ?_
  refine K_reg (Wops_run rfl rfl (K_fin [(0, _)] rfl (?_)))
  refine K_reg (Wops_run rfl rfl (Wops_run rfl rfl (Wops_box (cs := [.slice a n c, .int .i64 0]) rfl rfl fun h1 n1 x1 g1 => Wops_run rfl rfl (K_fin [(2, _)] rfl (?_)))))
  exact K_ret (Told.mk _ rfl ⟨rfl, g1, x1⟩)

end
section
/- Made modules: plain law: blocks of what is shut lie within blocks, or apart. -/
set_option linter.unusedVariables false
set_option linter.unusedSimpArgs false

/-- Instructions whose blocks are all shut. -/
inductive Bal : List Int → Prop
  | nil : Bal []
  | app {u v : List Int} : Bal u → Bal v → Bal (u ++ v)
  | plain {x : Int} : Plain x → Bal [x]
  | blk {x : Int} {u : List Int} : x = 2 ∨ x = 3 ∨ x = 4 → Bal u → Bal ([x] ++ u ++ [11])
  | iff {u v : List Int} : Bal u → Bal v → Bal ([4] ++ u ++ [5] ++ v ++ [11])
/-- Taken apart at what is open. -/
def Dec : List Bool → List Int → Prop
  | [], w => Bal w
  | true :: st, w => ∃ u v, w = u ++ [4] ++ v ∧ Dec st u ∧ Bal v
  | false :: st, w => ∃ u v x, w = u ++ x ++ v ∧ Dec st u ∧ Bal v ∧ ∀ z, Bal z → Bal (x ++ z ++ [11])
theorem Dec.app : ∀ {st : List Bool} {w z : List Int}, Dec st w → Bal z → Dec st (w ++ z)
  | [], w, z, h, b => Bal.app h b
  | true :: st, w, z, ⟨u, v, e, d, c⟩, b => ⟨u, v ++ z, by rw [e]; simp, d, .app c b⟩
  | false :: st, w, z, ⟨u, v, x, e, d, c, f⟩, b => ⟨u, v ++ z, x, by rw [e]; simp, d, .app c b, f⟩
theorem dec_of {st : List Bool} {w : List Int} (h : Opn st w) : Dec st w := by
  induction h with
  | nil => exact .nil
  | plain _ hx ih => exact ih.app (.plain hx)
  | @blk st w x _ hx ih =>
    exact ⟨w, [], [x], by simp, ih, .nil, fun z hz => .blk (hx.elim .inl fun h => .inr (.inl h)) hz⟩
  | @iff st w _ ih => exact ⟨w, [], by simp, ih, .nil⟩
  | @els st w _ ih =>
    obtain ⟨u, v, e, d, c⟩ := ih
    exact ⟨u, [], [4] ++ v ++ [5], by rw [e]; simp, d, .nil, fun z hz => by have := Bal.iff c hz; simpa using this⟩
  | @shut b st w _ ih =>
    cases b with
    | true =>
      obtain ⟨u, v, e, d, c⟩ := ih
      have := d.app (Bal.blk (x := 4) (.inr (.inr rfl)) c)
      rw [e]; simpa using this
    | false =>
      obtain ⟨u, v, x, e, d, c, f⟩ := ih
      have := d.app (f v c)
      rw [e]; simpa using this
  | app _ _ ih1 ih2 => exact ih1.app ih2

theorem getM_put {k k' : Nat} {v : Int × Int} : ∀ {es : Bl}, getM k (putM k' v es) = if k = k' then some v else getM k es
  | [] => by
    show (if k = k' then some v else none) = _
    rfl
  | (j, w) :: r => by
    rw [putM_cons]
    by_cases h : k' = j
    · subst h
      rw [if_pos rfl, getM_cons, getM_cons]
      by_cases hk : k = k'
      · rw [if_pos hk, if_pos hk]
      · rw [if_neg hk, if_neg hk, if_neg hk]
    · rw [if_neg h, getM_cons, getM_cons, getM_put]
      by_cases hj : k = j
      · rw [if_pos hj, if_pos hj, if_neg (fun e => h (by rw [← e, hj]))]
      · rw [if_neg hj, if_neg hj]
theorem putM_len_new {k : Nat} {v : Int × Int} : ∀ {es : Bl}, getM k es = none → (putM k v es).length = es.length + 1
  | [], _ => rfl
  | (j, w) :: r, h => by
    rw [getM_cons] at h
    rw [putM_cons]
    by_cases hk : k = j
    · rw [if_pos hk] at h; cases h
    · rw [if_neg hk] at h ⊢
      simp only [List.length_cons, putM_len_new h]
theorem putM_len_old {k : Nat} {v b : Int × Int} : ∀ {es : Bl}, getM k es = some b → (putM k v es).length = es.length
  | [], h => by cases h
  | (j, w) :: r, h => by
    rw [getM_cons] at h
    rw [putM_cons]
    by_cases hk : k = j
    · rw [if_pos hk]; rfl
    · rw [if_neg hk] at h ⊢
      simp only [List.length_cons, putM_len_old h]

def opens (x : Int) : Bool := decide (2 ≤ x ∧ x ≤ 4)
/-- Blocks that lie in a stretch: each within it, with what lies in it within it. -/
def Nst (ops : List Int) (es : Bl) (a b : Nat) : Prop :=
  ∀ i, a ≤ i → i < b → ((getM i es).isSome = opens (ops.getD i 0)) ∧ ∀ el en, getM i es = some (el, en) → (i : Int) < en ∧ en < (b : Int) ∧ ops.getD en.toNat 0 = 11 ∧
    (0 ≤ el → (i : Int) < el ∧ el < en ∧ ops.getD el.toNat 0 = 5 ∧ ops.getD i 0 = 4) ∧ ∀ (k : Nat) el' en', i < k → (k : Int) < en → getM k es = some (el', en') → en' < en
theorem Nst.cong {ops : List Int} {es es' : Bl} {a b : Nat} (n : Nst ops es a b) (h : ∀ k, a ≤ k → k < b → getM k es' = getM k es) : Nst ops es' a b := fun i hi hb => by
  obtain ⟨h1, h2⟩ := n i hi hb
  rw [h i hi hb]
  refine ⟨h1, fun el en he => ?_⟩
  obtain ⟨q1, q2, q3, q4, q5⟩ := h2 el en he
  exact ⟨q1, q2, q3, q4, fun k el' en' hk hke hg => q5 k el' en' hk hke (by rw [← h k (by omega) (by omega)]; exact hg)⟩
theorem Nst.join {ops : List Int} {es : Bl} {a b c : Nat} (n : Nst ops es a b) (m : Nst ops es b c) (hbc : b ≤ c) : Nst ops es a c := fun i hi hc => by
  by_cases hb : i < b
  · obtain ⟨h1, h2⟩ := n i hi hb
    exact ⟨h1, fun el en he => by obtain ⟨q1, q2, q3⟩ := h2 el en he; exact ⟨q1, by omega, q3⟩⟩
  · exact m i (by omega) hc
theorem Nst.nil {ops : List Int} {es : Bl} {a : Nat} : Nst ops es a a := fun i h1 h2 => by omega
theorem Nst.one {ops : List Int} {es : Bl} {a : Nat} (h : getM a es = none) (ho : opens (ops.getD a 0) = false) : Nst ops es a (a + 1) := fun i h1 h2 => by
  obtain rfl : i = a := by omega
  exact ⟨by rw [h, ho]; rfl, fun el en he => by rw [h] at he; cases he⟩
/-- Words stand there. -/
def Sits (ops : List Int) (i : Nat) (w : List Int) : Prop := ∀ j, j < w.length → ops.getD (i + j) 0 = w.getD j 0
theorem Sits.left {ops : List Int} {i : Nat} {u v : List Int} (h : Sits ops i (u ++ v)) : Sits ops i u := fun j hj => by
  rw [h j (by rw [List.length_append]; omega)]
  simp only [List.getD_eq_getElem?_getD]; rw [List.getElem?_append_left hj]
theorem Sits.right {ops : List Int} {i : Nat} {u v : List Int} (h : Sits ops i (u ++ v)) : Sits ops (i + u.length) v := fun j hj => by
  have := h (u.length + j) (by rw [List.length_append]; omega)
  rw [Nat.add_assoc, this]
  simp only [List.getD_eq_getElem?_getD]; rw [List.getElem?_append_right (by omega), show u.length + j - u.length = j by omega]
theorem Sits.one {ops : List Int} {i : Nat} {x : Int} (h : Sits ops i [x]) : ops.getD i 0 = x := h 0 (by simp)
def cnt (w : List Int) : Nat := w.countP opens

/-- What comes of shut instructions. -/
theorem bal_run {w : List Int} (hw : Bal w) : ∀ (ops : List Int) (i : Nat) (st : List Nat) (es : Bl), Sits ops i w → i + w.length < ops.length → rfS ops i = .inl (st, es) → (∀ k, i ≤ k → getM k es = none) →
    ∃ es', rfS ops (i + w.length) = .inl (st, es') ∧ (∀ k, k < i → getM k es' = getM k es) ∧ (∀ k, i + w.length ≤ k → getM k es' = none) ∧ Nst ops es' i (i + w.length) ∧ es'.length = es.length + cnt w := by
  have plainOp : ∀ {x : Int}, Plain x → opens x = false := fun {x} h => by
    unfold opens; unfold Plain at h
    exact decide_eq_false (by omega)
  have stepP : ∀ {ops : List Int} {i : Nat} {st : List Nat} {es : Bl} {x : Int}, ops.getD i 0 = x → Plain x → rfS ops i = .inl (st, es) → rfS ops (i + 1) = .inl (st, es) := by
    intro ops i st es x hx hp hr
    unfold Plain at hp
    simp only [rfS, hr]
    unfold refOne
    rw [hx, if_neg (by omega), if_neg (by omega), if_neg (by omega)]
  have stepO : ∀ {ops : List Int} {i : Nat} {st : List Nat} {es : Bl} {x : Int}, ops.getD i 0 = x → (x = 2 ∨ x = 3 ∨ x = 4) → rfS ops i = .inl (st, es) → rfS ops (i + 1) = .inl (st ++ [i], putM i (-1, -1) es) := by
    intro ops i st es x hx hp hr
    simp only [rfS, hr]
    unfold refOne
    rw [hx, if_pos hp]
  have stepE : ∀ {ops : List Int} {i k : Nat} {st : List Nat} {es : Bl} {z : Int}, ops.getD i 0 = 5 → ops.getD k 0 = 4 → getM k es = some (-1, z) → rfS ops i = .inl (st ++ [k], es) → rfS ops (i + 1) = .inl (st ++ [k], putM k ((i : Int), z) es) := by
    intro ops i k st es z hx hk hg hr
    simp only [rfS, hr]
    unfold refOne
    rw [hx, if_neg (by omega), if_pos rfl, List.getLast?_append]
    rw [List.getD_eq_getElem?_getD] at hk
    simp [hk, hg]
  have stepC : ∀ {ops : List Int} {i k : Nat} {st : List Nat} {es : Bl} {y z : Int}, ops.getD i 0 = 11 → getM k es = some (y, z) → rfS ops i = .inl (st ++ [k], es) → rfS ops (i + 1) = .inl (st, putM k (y, (i : Int)) es) := by
    intro ops i k st es y z hx hg hr
    simp only [rfS, hr]
    unfold refOne
    rw [hx, if_neg (by omega), if_neg (by omega), if_pos rfl, List.getLast?_append]
    simp [hg]
  induction hw with
  | nil => exact fun ops i st es _ _ hr hn => ⟨es, hr, fun k _ => rfl, fun k hk => hn k hk, Nst.nil, rfl⟩
  | @app u v _ _ ih1 ih2 =>
    intro ops i st es hs hl hr hn
    rw [List.length_append] at hl ⊢
    obtain ⟨e1, r1, a1, b1, n1, c1⟩ := ih1 ops i st es hs.left (by omega) hr hn
    obtain ⟨e2, r2, a2, b2, n2, c2⟩ := ih2 ops (i + u.length) st e1 hs.right (by omega) r1 b1
    refine ⟨e2, by rw [← Nat.add_assoc]; exact r2, fun k hk => by rw [a2 k (by omega), a1 k hk], fun k hk => b2 k (by omega), ?_, by unfold cnt at c1 c2 ⊢; rw [List.countP_append]; omega⟩
    rw [← Nat.add_assoc]
    exact (n1.cong fun k _ hk => a2 k hk).join n2 (by omega)
  | @plain x hx =>
    intro ops i st es hs hl hr hn
    have hx' := hs.one
    refine ⟨es, stepP hx' hx hr, fun k _ => rfl, fun k hk => hn k (by omega), Nst.one (hn i (Nat.le_refl _)) (by rw [hx']; exact plainOp hx), ?_⟩
    unfold cnt; simp [plainOp hx]
  | @blk x u hx _ ih =>
    intro ops i st es hs hl hr hn
    have hlen : ([x] ++ u ++ [11]).length = u.length + 2 := by simp
    rw [hlen] at hl ⊢
    have hx' := hs.left.left.one
    have hsu : Sits ops (i + 1) u := hs.left.right
    have h11 : ops.getD (i + 1 + u.length) 0 = 11 := by have := hs.right.one; simpa [Nat.add_assoc, Nat.add_comm 1] using this
    have r1 := stepO hx' hx hr
    obtain ⟨e2, r2, a2, b2, n2, c2⟩ := ih ops (i + 1) (st ++ [i]) _ hsu (by omega) r1 (fun k hk => by rw [getM_put, if_neg (by omega)]; exact hn k (by omega))
    have gi : getM i e2 = some (-1, -1) := by rw [a2 i (by omega), getM_put, if_pos rfl]
    have r3 := stepC h11 gi r2
    have ho : opens x = true := by unfold opens; exact decide_eq_true (by omega)
    refine ⟨_, by rw [show i + (u.length + 2) = i + 1 + u.length + 1 by omega]; exact r3, fun k hk => by rw [getM_put, if_neg (by omega), a2 k (by omega), getM_put, if_neg (by omega)], fun k hk => by rw [getM_put, if_neg (by omega)]; exact b2 k (by omega), ?_, ?_⟩
    · intro j hj1 hj2
      rcases Nat.eq_or_lt_of_le hj1 with rfl | hj1
      · rw [getM_put, if_pos rfl, hx', ho]
        refine ⟨rfl, fun el en he => ?_⟩
        simp only [Option.some.injEq, Prod.mk.injEq] at he
        obtain ⟨rfl, rfl⟩ := he
        refine ⟨by omega, by omega, by rw [Int.toNat_natCast]; exact h11, fun h => by omega, fun k el' en' hk hke hg => ?_⟩
        rw [getM_put, if_neg (by omega)] at hg
        have := (n2 k (by omega) (by omega)).2 el' en' hg
        omega
      · have hje : getM j (putM i (-1, ((i + 1 + u.length : Nat) : Int)) e2) = getM j e2 := by rw [getM_put, if_neg (by omega)]
        rw [hje]
        by_cases hj : j < i + 1 + u.length
        · obtain ⟨q1, q2⟩ := n2 j (by omega) hj
          refine ⟨q1, fun el en he => ?_⟩
          obtain ⟨p1, p2, p3, p4, p5⟩ := q2 el en he
          exact ⟨p1, by omega, p3, p4, fun k el' en' hk hke hg => p5 k el' en' hk hke (by rw [getM_put, if_neg (by omega)] at hg; exact hg)⟩
        · obtain rfl : j = i + 1 + u.length := by omega
          rw [b2 _ (Nat.le_refl _), h11]
          exact ⟨rfl, fun el en he => by cases he⟩
    · rw [putM_len_old gi, c2, putM_len_new (hn i (Nat.le_refl _))]
      unfold cnt
      simp only [List.countP_append, List.countP_cons, List.countP_nil, ho]
      simp [opens]; omega
  | @iff u v _ _ ih1 ih2 =>
    intro ops i st es hs hl hr hn
    have hlen : ([4] ++ u ++ [5] ++ v ++ [11]).length = u.length + v.length + 3 := by simp; omega
    rw [hlen] at hl ⊢
    have hx' := hs.left.left.left.left.one
    have hsu : Sits ops (i + 1) u := hs.left.left.left.right
    have h5 : ops.getD (i + 1 + u.length) 0 = 5 := by have := hs.left.left.right.one; simpa [Nat.add_assoc, Nat.add_comm 1] using this
    have hsv : Sits ops (i + 1 + u.length + 1) v := by have := hs.left.right; simpa [Nat.add_assoc, Nat.add_comm 1] using this
    have h11 : ops.getD (i + 1 + u.length + 1 + v.length) 0 = 11 := by
      have := hs.right.one
      have e : i + ([4] ++ u ++ [5] ++ v).length = i + 1 + u.length + 1 + v.length := by simp; omega
      rw [e] at this
      exact this
    have r1 := stepO hx' (.inr (.inr rfl)) hr
    obtain ⟨e2, r2, a2, b2, n2, c2⟩ := ih1 ops (i + 1) (st ++ [i]) _ hsu (by omega) r1 (fun k hk => by rw [getM_put, if_neg (by omega)]; exact hn k (by omega))
    have gi : getM i e2 = some (-1, -1) := by rw [a2 i (by omega), getM_put, if_pos rfl]
    have r3 := stepE h5 hx' gi r2
    obtain ⟨e4, r4, a4, b4, n4, c4⟩ := ih2 ops (i + 1 + u.length + 1) (st ++ [i]) _ hsv (by omega) r3 (fun k hk => by rw [getM_put, if_neg (by omega)]; exact b2 k (by omega))
    have gi4 : getM i e4 = some (((i + 1 + u.length : Nat) : Int), -1) := by rw [a4 i (by omega), getM_put, if_pos rfl]
    have r5 := stepC h11 gi4 r4
    refine ⟨_, by rw [show i + (u.length + v.length + 3) = i + 1 + u.length + 1 + v.length + 1 by omega]; exact r5, fun k hk => by rw [getM_put, if_neg (by omega), a4 k (by omega), getM_put, if_neg (by omega), a2 k (by omega), getM_put, if_neg (by omega)], fun k hk => by rw [getM_put, if_neg (by omega)]; exact b4 k (by omega), ?_, ?_⟩
    · have n2' : Nst ops e4 (i + 1) (i + 1 + u.length) := n2.cong fun k h1 h2 => by rw [a4 k (by omega), getM_put, if_neg (by omega)]
      have g5 : getM (i + 1 + u.length) e4 = none := by rw [a4 _ (by omega), getM_put, if_neg (by omega)]; exact b2 _ (Nat.le_refl _)
      have n5 : Nst ops e4 (i + 1 + u.length) (i + 1 + u.length + 1) := Nst.one g5 (by rw [h5]; rfl)
      have nin : Nst ops e4 (i + 1) (i + 1 + u.length + 1 + v.length) := (n2'.join n5 (by omega)).join n4 (by omega)
      intro j hj1 hj2
      rcases Nat.eq_or_lt_of_le hj1 with rfl | hj1
      · rw [getM_put, if_pos rfl, hx']
        refine ⟨rfl, fun el en he => ?_⟩
        simp only [Option.some.injEq, Prod.mk.injEq] at he
        obtain ⟨rfl, rfl⟩ := he
        refine ⟨by omega, by omega, by rw [Int.toNat_natCast]; exact h11, fun h => ⟨by omega, by omega, by rw [Int.toNat_natCast]; exact h5, rfl⟩, fun k el' en' hk hke hg => ?_⟩
        rw [getM_put, if_neg (by omega)] at hg
        have := (nin k (by omega) (by omega)).2 el' en' hg
        omega
      · rw [getM_put, if_neg (by omega)]
        by_cases hj : j < i + 1 + u.length + 1 + v.length
        · obtain ⟨q1, q2⟩ := nin j (by omega) hj
          refine ⟨q1, fun el en he => ?_⟩
          obtain ⟨p1, p2, p3, p4, p5⟩ := q2 el en he
          exact ⟨p1, by omega, p3, p4, fun k el' en' hk hke hg => p5 k el' en' hk hke (by rw [getM_put, if_neg (by omega)] at hg; exact hg)⟩
        · obtain rfl : j = i + 1 + u.length + 1 + v.length := by omega
          rw [b4 _ (Nat.le_refl _), h11]
          exact ⟨rfl, fun el en he => by cases he⟩
    · rw [putM_len_old gi4, c4, putM_len_old gi, c2, putM_len_new (hn i (Nat.le_refl _))]
      unfold cnt
      simp only [List.countP_append, List.countP_cons, List.countP_nil]
      simp [opens]; omega

/-- A body's blocks. -/
theorem body_run {w : List Int} (h : Opn [] w) : ∃ es, refB (w ++ [11]) = some es ∧ Nst (w ++ [11]) es 0 w.length ∧ (∀ k, w.length ≤ k → getM k es = none) ∧ es.length = cnt w := by
  have hb : Bal w := dec_of h
  have hs : Sits (w ++ [11]) 0 w := fun j hj => by
    simp only [List.getD_eq_getElem?_getD, Nat.zero_add]; rw [List.getElem?_append_left hj]
  obtain ⟨es, r, a, b, n, c⟩ := bal_run hb (w ++ [11]) 0 [] [] hs (by simp) rfl fun k _ => rfl
  rw [Nat.zero_add] at r b n
  refine ⟨es, ?_, n, b, by simpa using c⟩
  have h11 : (w ++ [11]).getD w.length 0 = 11 := by simp
  have hr : rfS (w ++ [11]) (w ++ [11]).length = .inr (some es) := by
    have e : (w ++ [11]).length = w.length + 1 := by simp
    rw [e]
    simp only [rfS, r]
    unfold refOne
    rw [h11, if_neg (by omega), if_neg (by omega), if_pos rfl]
    simp
  unfold refB
  rw [hr]

end
end Go.Dx.SYtpogcjdenefhlaa
