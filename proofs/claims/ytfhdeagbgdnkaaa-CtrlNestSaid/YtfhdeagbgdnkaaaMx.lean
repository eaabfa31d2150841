/- Texts merged: YtfhdeagbgdnkaaaMd0.lean, YtfhdeagbgdnkaaaMd1.lean, YtfhdeagbgdnkaaaMd2.lean, YtfhdeagbgdnkaaaMd3.lean. -/
import Derived.Test.YtfhdeagbgdnkaaaCt7
namespace Go.Dx.SYtfhdeagbgdnkaaa
open Go.Proofs
section
/- Made modules: how a maker goes on: what it holds, what it adds. -/
set_option linter.unusedVariables false
set_option linter.unusedSimpArgs false

/-- Instructions that open and shut nothing. -/
def Plain (x : Int) : Prop := (x < 2 ∨ 4 < x) ∧ x ≠ 5 ∧ x ≠ 11
/-- Instructions, and the blocks that are open behind them (the last first; true: an if without its else). -/
inductive Opn : List Bool → List Int → Prop
  | nil : Opn [] []
  | plain {st : List Bool} {w : List Int} {x : Int} : Opn st w → Plain x → Opn st (w ++ [x])
  | blk {st : List Bool} {w : List Int} {x : Int} : Opn st w → x = 2 ∨ x = 3 → Opn (false :: st) (w ++ [x])
  | iff {st : List Bool} {w : List Int} : Opn st w → Opn (true :: st) (w ++ [4])
  | els {st : List Bool} {w : List Int} : Opn (true :: st) w → Opn (false :: st) (w ++ [5])
  | shut {b : Bool} {st : List Bool} {w : List Int} : Opn (b :: st) w → Opn st (w ++ [11])
  | app {st : List Bool} {w v : List Int} : Opn st w → Opn [] v → Opn st (w ++ v)

/-- What a maker has. -/
structure St where
  oa : Option Addr
  oc : Nat
  ops : List Int
  deep : Int
  n : Nat
/-- What does not turn while it works. -/
structure Kt where
  pk : Nat
  pp : Nat
  pm : Nat
  la : Option Addr
  lc : Nat
  ls : List Int
  self : Int
  xa : Option Addr
  xc : Nat
  xs : List Int
  mc : List Value
  fa : Option Addr
  fc : Nat
  fs : List Nat
  ta : Option Addr
  tc : Nat
  ty : List Value
  S : Nat → Prop
/-- A type's parameters and results. -/
def Tys (h : Heap) (S : Nat → Prop) (ty : List Value) : Prop :=
  ∀ j, j < 6 → ∃ (pa : Option Addr) (pn pc : Nat) (ps : List Int) (ra : Option Addr) (rn rc : Nat) (rs : List Int), (ty.drop (j * 2)).take 2 = [.slice pa pn pc, .slice ra rn rc] ∧ SlA h 1 pa pn pc (ints .u8 ps) ∧ SlA h 1 ra rn rc (ints .u8 rs) ∧
    (∀ i, Blk pa i → S i) ∧ (∀ i, Blk ra i → S i) ∧ pn ≤ 2 ∧ rn ≤ 2
/-- What lies still. -/
structure Sx (K : Kt) (h : Heap) : Prop where
  lt : ∀ i, K.S i → i < h.next
  gm : At h K.pm (.cells K.mc 0 false)
  mS : K.S K.pm
  hF : K.mc[1]? = some (.slice K.fa K.fs.length K.fc)
  hT : K.mc[0]? = some (.slice K.ta 6 K.tc)
  sf : SlA h 1 K.fa K.fs.length K.fc (K.fs.map fun (x : Nat) => Value.int .u32 (x : Int))
  fS : ∀ i, Blk K.fa i → K.S i
  fr : ∀ f ∈ K.fs, f < 6
  f0 : 0 < K.fs.length
  f3 : K.fs.length ≤ 3
  st : SlA h 2 K.ta 6 K.tc K.ty
  tS : ∀ i, Blk K.ta i → K.S i
  tys : Tys h K.S K.ty
  sx : SlA h 1 K.xa K.xs.length K.xc (ints .u8 K.xs)
  xS : ∀ i, Blk K.xa i → K.S i
  xw : ∀ x ∈ K.xs, 0 ≤ x ∧ x ≤ 255
  xl : K.xs.length ≤ 1000
  sl : SlA h 1 K.la K.ls.length K.lc (ints .u8 K.ls)
  lS : ∀ i, Blk K.la i → K.S i
  ll : K.ls.length ≤ 10
theorem Sx.ext {K : Kt} {h h' : Heap} {T : Nat → Prop} (q : Sx K h) (x : Ext T h h') (d : ∀ i, K.S i → ¬ T i) : Sx K h' :=
  ⟨fun i r => Nat.lt_of_lt_of_le (q.lt i r) x.next, q.gm.ext x (d _ q.mS), q.mS, q.hF, q.hT, q.sf.ext x fun i r => d i (q.fS i r), q.fS, q.fr, q.f0, q.f3, q.st.ext x fun i r => d i (q.tS i r), q.tS,
   fun j hj => by
    obtain ⟨pa, pn, pc, ps, ra, rn, rc, rs, h1, h2, h3, h4, h5, h6⟩ := q.tys j hj
    exact ⟨pa, pn, pc, ps, ra, rn, rc, rs, h1, h2.ext x fun i r => d i (h4 i r), h3.ext x fun i r => d i (h5 i r), h4, h5, h6⟩,
   q.sx.ext x fun i r => d i (q.xS i r), q.xS, q.xw, q.xl, q.sl.ext x fun i r => d i (q.lS i r), q.lS, q.ll⟩
/-- Cells of instructions. -/
structure InL (l : List Value) (ops : List Int) : Prop where
  len : l.length = ops.length * 6
  cell : l.all isCell = true
  op : ∀ i (hi : i < ops.length), l[i * 6 + 0]? = some (.int .i64 ops[i])
theorem InL.nil : InL [] [] := ⟨rfl, rfl, fun i hi => by cases hi⟩
theorem InL.app {l nl : List Value} {ops os : List Int} (a : InL l ops) (b : InL nl os) : InL (l ++ nl) (ops ++ os) := by
  refine ⟨by rw [List.length_append, List.length_append, a.len, b.len]; omega, by rw [List.all_append, a.cell, b.cell]; rfl, fun i hi => ?_⟩
  rw [List.length_append] at hi
  by_cases h : i < ops.length
  · rw [List.getElem?_append_left (by rw [a.len]; omega), List.getElem_append_left h]; exact a.op i h
  · rw [List.getElem?_append_right (by rw [a.len]; omega), List.getElem_append_right (by omega), a.len, show i * 6 + 0 - ops.length * 6 = (i - ops.length) * 6 + 0 by omega]
    exact b.op _ (by omega)
theorem InL.one {o : Int} {a b c d e : Value} (h : [Value.int .i64 o, a, b, c, d, e].all isCell = true) : InL [.int .i64 o, a, b, c, d, e] [o] :=
  ⟨rfl, h, fun i hi => by
    have : i = 0 := by simpa using hi
    subst this; rfl⟩
/-- A maker's cells. -/
abbrev pkC (K : Kt) (s : St) : List Value := [ptr K.pp, ptr K.pm, .slice K.la K.ls.length K.lc, .slice s.oa s.ops.length s.oc, .int .i64 s.deep, .int .i64 K.self]
/-- A maker. -/
structure Mk (K : Kt) (h : Heap) (s : St) : Prop where
  z : Sx K h
  gk : At h K.pk (.cells (pkC K s) 0 false)
  gp : At h K.pp (.cells [.slice K.xa K.xs.length K.xc, .int .i64 (s.n : Int)] 0 false)
  hn : s.n ≤ K.xs.length
  o : ∃ l, OwS h 6 s.oa s.ops.length s.oc l ∧ InL l s.ops
  nk : ¬ K.S K.pk
  np : ¬ K.S K.pp
  kp : K.pk ≠ K.pp
  no : ∀ i, Blk s.oa i → ¬ K.S i ∧ i ≠ K.pk ∧ i ≠ K.pp
def pot (K : Kt) (s : St) : Int := (s.ops.length : Int) + 30 * ((K.xs.length : Int) - (s.n : Int))
/-- How a maker went on: what may have turned, what was added. -/
structure Go (K : Kt) (h : Heap) (s : St) (h' : Heap) (s' : St) (st : List Bool) : Prop where
  m : Mk K h' s'
  x : Ext (fun i => i = K.pk ∨ i = K.pp ∨ Blk s.oa i) h h'
  b : ∀ i, Blk s'.oa i → Blk s.oa i ∨ h.next ≤ i
  w : ∃ w, s'.ops = s.ops ++ w ∧ Opn st w
theorem Go.refl {K : Kt} {h : Heap} {s : St} (m : Mk K h s) : Go K h s h s [] := ⟨m, Ext.refl _ _, fun i q => .inl q, [], by simp, .nil⟩
theorem Go.trans {K : Kt} {h h1 h2 : Heap} {s s1 s2 : St} {st : List Bool} (g : Go K h s h1 s1 st) (q : Go K h1 s1 h2 s2 []) : Go K h s h2 s2 st := by
  obtain ⟨w, hw, ow⟩ := g.w
  obtain ⟨v, hv, ov⟩ := q.w
  have z := g.x.next
  refine ⟨q.m, g.x.then q.x fun i r => ?_, fun i r => ?_, w ++ v, by rw [hv, hw, List.append_assoc], .app ow ov⟩
  · rcases r with r | r | r
    · exact .inl (.inl r)
    · exact .inl (.inr (.inl r))
    · exact (g.b i r).imp (fun r => .inr (.inr r)) id
  · rcases q.b i r with r | r
    · exact g.b i r
    · exact .inr (by omega)
/-- Nothing but new cells. -/
theorem Go.ext0 {K : Kt} {h h1 h2 : Heap} {s s1 : St} {st : List Bool} (g : Go K h s h1 s1 st) (x : Ext0 h1 h2) : Go K h s h2 s1 st := by
  obtain ⟨l, o, il⟩ := g.m.o
  exact ⟨⟨g.m.z.ext x fun i _ r => r, g.m.gk.ext x, g.m.gp.ext x, g.m.hn, ⟨l, o.ext x, il⟩, g.m.nk, g.m.np, g.m.kp, g.m.no⟩, g.x.then0 x, g.b, g.w⟩
theorem Mk.lt {K : Kt} {h : Heap} {s : St} (m : Mk K h s) : K.pk < h.next ∧ K.pp < h.next := ⟨m.gk.lt, m.gp.lt⟩
/-- Instructions added. -/
theorem Go.push {K : Kt} {h h1 h2 h3 h4 : Heap} {s s1 : St} {st st' : List Bool} {l nl : List Value} {os : List Int} {a3 : Option Addr} {c3 k : Nat} (g : Go K h s h1 s1 st) (il : InL l s1.ops) (x2 : Ext0 h1 h2) (x3 : Ext (Blk s1.oa) h2 h3) (hk : os.length = k) (o3 : OwS h3 6 a3 (s1.ops.length + k) c3 (l ++ nl)) (b3 : ∀ i, Blk a3 i → Blk s1.oa i ∨ h2.next ≤ i)
    (x4 : Ext (· = K.pk) h3 h4) (g4 : h4.get K.pk = some (.cells (putL (pkC K s1) 3 [.slice a3 (s1.ops.length + k) c3]) 0 false)) (hi : InL nl os) (ho : ∀ w, Opn st w → Opn st' (w ++ os)) : Go K h s h4 ⟨a3, c3, s1.ops ++ os, s1.deep, s1.n⟩ st' := by
  obtain ⟨w, hw, ow⟩ := g.w
  have z1 := g.x.next
  have z2 := x2.next
  have z3 := x3.next
  have hl : (s1.ops ++ os).length = s1.ops.length + k := by rw [List.length_append, hk]
  have nb : ∀ i, Blk a3 i → ¬ K.S i ∧ i ≠ K.pk ∧ i ≠ K.pp := fun i r => by
    rcases b3 i r with r | r
    · exact g.m.no i r
    · have := g.m.lt
      exact ⟨fun q => by have := g.m.z.lt i q; omega, by omega, by omega⟩
  have npo : ¬ Blk s1.oa K.pp := fun r => (g.m.no _ r).2.2 rfl
  refine ⟨⟨((g.m.z.ext x2 fun i _ r => r).ext x3 fun i q r => (g.m.no i r).1 q).ext x4 fun i q r => g.m.nk (by rw [← r]; exact q), ?_, ((g.m.gp.ext x2).ext x3 npo).ext x4 fun r => g.m.kp r.symm, g.m.hn, ⟨l ++ nl, ?_, il.app hi⟩, g.m.nk, g.m.np, g.m.kp, nb⟩,
    ((g.x.then0 x2).then x3 fun i r => ?_).then x4 fun i r => .inl (.inl r), fun i r => ?_, w ++ os, by rw [hw, List.append_assoc], ho w ow⟩
  · show h4.get K.pk = some (.cells [ptr K.pp, ptr K.pm, .slice K.la K.ls.length K.lc, .slice a3 (s1.ops ++ os).length c3, .int .i64 s1.deep, .int .i64 K.self] 0 false)
    rw [hl]; exact g4
  · show OwS h4 6 a3 (s1.ops ++ os).length c3 (l ++ nl)
    rw [hl]; exact o3.ext x4 fun i r e => (nb i r).2.1 e
  · rcases g.b i r with r | r
    · exact .inl (.inr (.inr r))
    · exact .inr r
  · rcases b3 i r with r | r
    · exact g.b i r
    · exact .inr (by omega)
/-- How deep it is. -/
theorem Go.deep {K : Kt} {h h1 h2 : Heap} {s s1 : St} {st : List Bool} {dp : Int} (g : Go K h s h1 s1 st) (x : Ext (· = K.pk) h1 h2) (g2 : h2.get K.pk = some (.cells (putL (pkC K s1) 4 [.int .i64 dp]) 0 false)) : Go K h s h2 { s1 with deep := dp } st := by
  obtain ⟨l, o, il⟩ := g.m.o
  exact ⟨⟨g.m.z.ext x fun i q r => g.m.nk (by rw [← r]; exact q), g2, g.m.gp.ext x fun r => g.m.kp r.symm, g.m.hn, ⟨l, o.ext x fun i q r => (g.m.no i q).2.1 r, il⟩, g.m.nk, g.m.np, g.m.kp, g.m.no⟩, g.x.then x fun i r => .inl (.inl r), g.b, g.w⟩
theorem Go.num {K : Kt} {h h1 h2 : Heap} {s s1 : St} {st : List Bool} {n' : Nat} (g : Go K h s h1 s1 st) (x : Ext (· = K.pp) h1 h2) (g2 : At h2 K.pp (.cells [.slice K.xa K.xs.length K.xc, .int .i64 (n' : Int)] 0 false)) (hn : n' ≤ K.xs.length) : Go K h s h2 { s1 with n := n' } st := by
  obtain ⟨l, o, il⟩ := g.m.o
  exact ⟨⟨g.m.z.ext x fun i q r => g.m.np (by rw [← r]; exact q), g.m.gk.ext x g.m.kp, g2, hn, ⟨l, o.ext x fun i q r => (g.m.no i q).2.2 r, il⟩, g.m.nk, g.m.np, g.m.kp, g.m.no⟩, g.x.then x fun i r => .inl (.inr (.inl r)), g.b, g.w⟩

theorem InL.two {o o' : Int} {a b c d e a' b' c' d' e' : Value} (h : [Value.int .i64 o, a, b, c, d, e].all isCell = true) (h' : [Value.int .i64 o', a', b', c', d', e'].all isCell = true) : InL [.int .i64 o, a, b, c, d, e, .int .i64 o', a', b', c', d', e'] [o, o'] := InL.app (InL.one h) (InL.one h')
theorem Go.push' {K : Kt} {h h1 h2 h3 h4 : Heap} {s s1 : St} {st st' : List Bool} {l nl : List Value} {os : List Int} {a3 : Option Addr} {c3 k : Nat} (g : Go K h s h1 s1 st) (il : InL l s1.ops) (x2 : Ext0 h1 h2) (x3 : Ext (Blk s1.oa) h2 h3) (hk : os.length = k) (o3 : OwS h3 6 a3 (s1.ops.length + k) c3 (l ++ nl)) (b3 : ∀ i, Blk a3 i → Blk s1.oa i ∨ h2.next ≤ i)
    (x4 : Ext (· = K.pk) h3 h4) (g4 : h4.get K.pk = some (.cells (putL (pkC K s1) 3 [.slice a3 (s1.ops.length + k) c3]) 0 false)) (hi : InL nl os) (ho : ∀ w, Opn st w → Opn st' (w ++ os)) : ∃ s2, Go K h s h4 s2 st' ∧ s1.n ≤ s2.n ∧ pot K s2 ≤ pot K s1 + k :=
  ⟨_, g.push il x2 x3 hk o3 b3 x4 g4 hi ho, Nat.le_refl _, by unfold pot; simp only [List.length_append, hk]; omega⟩
theorem Go.deep' {K : Kt} {h h1 h2 : Heap} {s s1 : St} {st : List Bool} {dp : Int} (g : Go K h s h1 s1 st) (x : Ext (· = K.pk) h1 h2) (g2 : h2.get K.pk = some (.cells (putL (pkC K s1) 4 [.int .i64 dp]) 0 false)) : ∃ s2, Go K h s h2 s2 st ∧ s1.n ≤ s2.n ∧ pot K s2 ≤ pot K s1 + 0 :=
  ⟨_, g.deep x g2, Nat.le_refl _, by unfold pot; simp only []; omega⟩
theorem pot_opsB {K : Kt} {h : Heap} {s : St} (m : Mk K h s) (hp : pot K s ≤ 100050) : s.ops.length ≤ 100100 := by
  have := m.hn
  unfold pot at hp; omega

/-! ### The small ones -/
/-- Picks.Num: only its own cells. -/
theorem C48 {h : Heap} {pp xc n : Nat} {xa : Option Addr} {xs : List Int} {m : Int} (gp : At h pp (.cells [.slice xa xs.length xc, .int .i64 (n : Int)] 0 false)) (hn : n ≤ xs.length) (sx : SlA h 1 xa xs.length xc (ints .u8 xs)) (xw : ∀ x ∈ xs, 0 ≤ x ∧ x ≤ 255) (xl : xs.length ≤ 1000) (ns : ¬ Blk xa pp) (hm : 0 < m) :
    Fn Try.prog 48 [ptr pp, .int .i64 m] h fun v h' => ∃ (r n' : Nat), v = .int .i64 (r : Int) ∧ (r : Int) < m ∧ Ext (· = pp) h h' ∧ At h' pp (.cells [.slice xa xs.length xc, .int .i64 (n' : Int)] 0 false) ∧ n ≤ n' ∧ n' ≤ xs.length ∧ (n < xs.length → n' = n + 1) ∧ (n = xs.length → r = 0) := by
  refine fnK F48.fok rfl ?_
  refine K_reg (Wops_run rfl rfl (K_fin [(0, _), (1, _)] rfl (?_)))
  refine K_ss (K_reg (Wops_run rfl rfl (Wops_run rfl rfl (Wops_run rfl rfl (Wops_ld (v := .int .i64 (n : Int)) rfl gp rfl (Wops_run rfl rfl (Wops_run rfl rfl (Wops_run rfl rfl (Wops_ld (v := .slice xa xs.length xc) rfl gp rfl (Wops_run rfl rfl (Wops_run rfl rfl (K_fin [(0, _), (1, _), (14, _)] rfl (?_)))))))))))))
  refine K_scond rfl (fun hc => ?_) (fun hc => ?_)
  · have h1 : n = xs.length := by have := of_decide_eq_true hc; omega
    refine K_ss (K_reg (Wops_run rfl rfl (K_fin [(4, _)] rfl (?_))))
    exact K_sret (Told.mk _ rfl ⟨0, n, rfl, hm, Ext.refl _ _, gp, Nat.le_refl _, hn, fun q => by omega, fun _ => rfl⟩)
  · have hlx : n < xs.length := by have := of_decide_eq_false hc; omega
    refine K_sskip (K_reg (Wops_run rfl rfl (Wops_run rfl rfl (Wops_run rfl rfl (Wops_ld (v := .int .i64 (n : Int)) rfl gp rfl (Wops_as (w := .int .i64 ((n + 1 : Nat) : Int)) rfl rfl (by rw [w64s (by omega)]) ?_))))))
    refine Wops_run rfl rfl (Wops_run rfl rfl (Wops_st (l := [.int .i64 ((n + 1 : Nat) : Int)]) rfl rfl rfl rfl gp (by simp) rfl fun h1 n1 x1 g1 => ?_))
    replace g1 : At h1 pp (.cells [.slice xa xs.length xc, .int .i64 ((n + 1 : Nat) : Int)] 0 false) := g1
    refine K_fin [(0, _), (1, _)] rfl (?_)
    have sx1 := sx.ext x1 fun i r e => ns (by rw [← e]; exact r)
    obtain ⟨r, hr, hre⟩ : ∃ r : Nat, (r : Int) < m ∧ xs[n].tmod m = r := by
      have h1 := Int.tmod_nonneg m (xw xs[n] (List.getElem_mem _)).1
      have h2 := Int.tmod_lt_of_pos xs[n] hm
      exact ⟨(xs[n].tmod m).toNat, by omega, by omega⟩
    have hw := xw xs[n] (List.getElem_mem _)
    refine K_reg (Wops_run rfl rfl (Wops_run rfl rfl (Wops_run rfl rfl (Wops_ld (v := .slice xa xs.length xc) rfl g1 rfl (Wops_run rfl rfl (Wops_run rfl rfl (Wops_run rfl rfl (Wops_ld (v := .int .i64 ((n + 1 : Nat) : Int)) rfl g1 rfl (Wops_as (w := .int .i64 (n : Int)) rfl rfl (by rw [w64 (by omega)]; congr 1; omega) ?_)))))))))
    refine Wops_idx (u := .int .u8 xs[n]) rfl rfl sx1 ⟨by omega, by omega⟩ (by simp [hlx]) fun _ => ?_
    refine Wops_as (w := .int .i64 xs[n]) rfl rfl (by rw [w64 (by omega)]) (Wops_run rfl rfl (Wops_rem rfl rfl (by omega) (Wops_run rfl rfl (K_fin [(4, .int .i64 (r : Int))] (by rw [← hre]; rfl) (?_)))))
    exact K_ret (Told.mk _ rfl ⟨r, n + 1, rfl, hr, x1, g1, by omega, by omega, fun _ => rfl, fun q => by omega⟩)
/-- Picks.Over -/
theorem C58 {h : Heap} {pp xc n : Nat} {xa : Option Addr} {xs : List Int} (gp : At h pp (.cells [.slice xa xs.length xc, .int .i64 (n : Int)] 0 false)) :
    Fn Try.prog 58 [ptr pp] h fun v h' => v = .bool (decide ((n : Int) ≥ (xs.length : Int))) ∧ h = h' := by
  refine fnK F58.fok rfl ?_
  refine K_reg (Wops_run rfl rfl (K_fin [(0, _)] rfl (?_)))
  refine K_reg (Wops_run rfl rfl (Wops_run rfl rfl (Wops_run rfl rfl (Wops_ld (v := .int .i64 (n : Int)) rfl gp rfl (Wops_run rfl rfl (Wops_run rfl rfl (Wops_run rfl rfl (Wops_ld (v := .slice xa xs.length xc) rfl gp rfl (Wops_run rfl rfl (Wops_run rfl rfl (Wops_run rfl rfl (K_fin [(2, _)] rfl (?_)))))))))))))
  exact K_ret (Told.mk _ rfl ⟨rfl, rfl⟩)

section
variable {K : Kt} {h h1 : Heap} {s s1 : St} {st : List Bool}
/-- A pick. -/
theorem Go.c48 {m : Int} (g : Go K h s h1 s1 st) (hm : 0 < m) : Fn Try.prog 48 [ptr K.pp, .int .i64 m] h1 fun v h2 => ∃ (r n' : Nat), v = .int .i64 (r : Int) ∧ (r : Int) < m ∧ Go K h s h2 { s1 with n := n' } st ∧ s1.n ≤ n' ∧ pot K { s1 with n := n' } ≤ pot K s1 ∧ (s1.n < K.xs.length → n' = s1.n + 1 ∧ pot K { s1 with n := n' } ≤ pot K s1 - 30) ∧ (s1.n = K.xs.length → r = 0) ∧ Ext (· = K.pp) h1 h2 :=
  (C48 g.m.gp g.m.hn g.m.z.sx g.m.z.xw g.m.z.xl (fun r => g.m.np (g.m.z.xS _ r)) hm).mono fun v h2 ⟨r, n', hv, hr, x, gp, h1, h2, h3, h4⟩ => ⟨r, n', hv, hr, g.num x gp h2, h1, by unfold pot; simp only []; omega, fun q => ⟨h3 q, by have := h3 q; unfold pot; simp only []; omega⟩, h4, x⟩
theorem Go.c58 (g : Go K h s h1 s1 st) : Fn Try.prog 58 [ptr K.pp] h1 fun v h2 => v = .bool (decide ((s1.n : Int) ≥ (K.xs.length : Int))) ∧ h1 = h2 := C58 g.m.gp
theorem pot_ops {K : Kt} {h : Heap} {s : St} (m : Mk K h s) (hp : pot K s ≤ 100000) : s.ops.length ≤ 100000 := by
  have := m.hn
  unfold pot at hp; omega
/-- What is added by the small ones. -/
def Adds (K : Kt) (h : Heap) (s : St) (s1 : St) (st st' : List Bool) (c : Int) (h2 : Heap) : Prop := ∃ s2, Go K h s h2 s2 st' ∧ s1.n ≤ s2.n ∧ pot K s2 ≤ pot K s1 + c
theorem pot_push {a : Option Addr} {c : Nat} {os : List Int} : pot K ⟨a, c, s1.ops ++ os, s1.deep, s1.n⟩ = pot K s1 + os.length := by
  unfold pot; simp only [List.length_append]; omega

set_option maxHeartbeats 1000000 in
/-- maker.op -/
theorem Go.c64 {op : Int} {st' : List Bool} (g : Go K h s h1 s1 st) (hp : pot K s1 ≤ 100050) (ho : ∀ w, Opn st w → Opn st' (w ++ [op])) : Fn Try.prog 64 [ptr K.pk, .int .i64 op] h1 fun v h2 => Adds K h s s1 st st' 1 h2 := by
  have hops : s1.ops.length ≤ 100100 := by have := g.m.hn; unfold pot at hp; omega
  obtain ⟨l, o, il⟩ := g.m.o
  refine fnK F64.fok rfl ?_
  refine K_last (Wops_run rfl rfl (Wops_run rfl rfl (Wops_run rfl rfl (Wops_run rfl rfl (Wops_ld (v := .slice s1.oa s1.ops.length s1.oc) rfl g.m.gk rfl ?_)))))
  refine Wops_run rfl rfl (Wops_run rfl rfl (Wops_bslice (l := [.int .i64 op, .int .u32 0, .int .u32 0, .int .u64 0, .slice none 0 0, .int .i64 0]) rfl rfl fun h2 n2 x2 g2 => ?_))
  refine Wops_app (m := 1) rfl rfl (o.ext x2) rfl (OwS.new (n := 1) (c := 1) g2 rfl).sl.first ⟨by omega, by omega⟩ rfl rfl (by decide) fun h3 a3 c3 x3 o3 b3 => ?_
  refine Wops_run rfl rfl (Wops_run rfl rfl (Wops_st (l := [.slice a3 (s1.ops.length + 1) c3]) rfl rfl rfl rfl ((g.m.gk.ext x2).ext x3 fun r => (g.m.no _ r).2.1 rfl) (by simp) rfl fun h4 n4 x4 g4 => ?_))
  refine K_finL [] rfl (?_)
  exact Told.mk [] rfl ⟨_, g.push (k := 1) (os := [_]) il x2 x3 rfl o3 b3 x4 g4 (.one rfl) ho, Nat.le_refl _, by rw [pot_push]; simp⟩
set_option maxHeartbeats 1000000 in
/-- maker.a -/
theorem Go.c63 {op a : Int} {st' : List Bool} (g : Go K h s h1 s1 st) (hp : pot K s1 ≤ 100050) (ho : ∀ w, Opn st w → Opn st' (w ++ [op])) : Fn Try.prog 63 [ptr K.pk, .int .i64 op, .int .u32 a] h1 fun v h2 => Adds K h s s1 st st' 1 h2 := by
  have hops : s1.ops.length ≤ 100100 := by have := g.m.hn; unfold pot at hp; omega
  obtain ⟨l, o, il⟩ := g.m.o
  refine fnK F63.fok rfl ?_
  refine K_last (Wops_run rfl rfl (Wops_run rfl rfl (Wops_run rfl rfl (Wops_run rfl rfl (Wops_ld (v := .slice s1.oa s1.ops.length s1.oc) rfl g.m.gk rfl ?_)))))
  refine Wops_run rfl rfl (Wops_run rfl rfl (Wops_run rfl rfl (Wops_bslice (l := [.int .i64 op, .int .u32 a, .int .u32 0, .int .u64 0, .slice none 0 0, .int .i64 0]) rfl rfl fun h2 n2 x2 g2 => ?_)))
  refine Wops_app (m := 1) rfl rfl (o.ext x2) rfl (OwS.new (n := 1) (c := 1) g2 rfl).sl.first ⟨by omega, by omega⟩ rfl rfl (by decide) fun h3 a3 c3 x3 o3 b3 => ?_
  refine Wops_run rfl rfl (Wops_run rfl rfl (Wops_st (l := [.slice a3 (s1.ops.length + 1) c3]) rfl rfl rfl rfl ((g.m.gk.ext x2).ext x3 fun r => (g.m.no _ r).2.1 rfl) (by simp) rfl fun h4 n4 x4 g4 => ?_))
  refine K_finL [] rfl (?_)
  exact Told.mk [] rfl ⟨_, g.push (k := 1) (os := [_]) il x2 x3 rfl o3 b3 x4 g4 (.one rfl) ho, Nat.le_refl _, by rw [pot_push]; simp⟩
theorem plain65 : Plain 65 := ⟨.inr (by decide), by decide, by decide⟩
theorem plain66 : Plain 66 := ⟨.inr (by decide), by decide, by decide⟩
set_option maxHeartbeats 1000000 in
/-- maker.num -/
theorem Go.c60 {t N : Int} (g : Go K h s h1 s1 st) (hp : pot K s1 ≤ 100050) : Fn Try.prog 60 [ptr K.pk, .int .u8 t, .int .u64 N] h1 fun v h2 => Adds K h s s1 st st 1 h2 := by
  have hops : s1.ops.length ≤ 100100 := by have := g.m.hn; unfold pot at hp; omega
  obtain ⟨l, o, il⟩ := g.m.o
  refine fnK F60.fok rfl ?_
  refine K_reg (Wops_run rfl rfl (Wops_run rfl rfl (K_fin [(0, _), (2, _), (7, _)] rfl (?_))))
  refine K_cond rfl (fun hc => ?_) (fun hc => ?_)
  · refine K_last (Wops_run rfl rfl (Wops_run rfl rfl (Wops_run rfl rfl (Wops_run rfl rfl (Wops_ld (v := .slice s1.oa s1.ops.length s1.oc) rfl g.m.gk rfl ?_)))))
    refine Wops_run rfl rfl (Wops_run rfl rfl (Wops_run rfl rfl (Wops_bslice (l := [.int .i64 65, .int .u32 0, .int .u32 0, _, .slice none 0 0, .int .i64 0]) rfl rfl fun h2 n2 x2 g2 => ?_)))
    refine Wops_app (m := 1) rfl rfl (o.ext x2) rfl (OwS.new (n := 1) (c := 1) g2 rfl).sl.first ⟨by omega, by omega⟩ rfl rfl (by decide) fun h3 a3 c3 x3 o3 b3 => ?_
    refine Wops_run rfl rfl (Wops_run rfl rfl (Wops_st (l := [.slice a3 (s1.ops.length + 1) c3]) rfl rfl rfl rfl ((g.m.gk.ext x2).ext x3 fun r => (g.m.no _ r).2.1 rfl) (by simp) rfl fun h4 n4 x4 g4 => ?_))
    refine K_finL [] rfl (?_)
    exact Told.mk [] rfl ⟨_, g.push (k := 1) (os := [_]) il x2 x3 rfl o3 b3 x4 g4 (.one rfl) fun w q => .plain q plain65, Nat.le_refl _, by rw [pot_push]; simp⟩
  · refine K_last (Wops_run rfl rfl (Wops_run rfl rfl (Wops_run rfl rfl (Wops_run rfl rfl (Wops_ld (v := .slice s1.oa s1.ops.length s1.oc) rfl g.m.gk rfl ?_)))))
    refine Wops_run rfl rfl (Wops_run rfl rfl (Wops_bslice (l := [.int .i64 66, .int .u32 0, .int .u32 0, _, .slice none 0 0, .int .i64 0]) rfl rfl fun h2 n2 x2 g2 => ?_))
    refine Wops_app (m := 1) rfl rfl (o.ext x2) rfl (OwS.new (n := 1) (c := 1) g2 rfl).sl.first ⟨by omega, by omega⟩ rfl rfl (by decide) fun h3 a3 c3 x3 o3 b3 => ?_
    refine Wops_run rfl rfl (Wops_run rfl rfl (Wops_st (l := [.slice a3 (s1.ops.length + 1) c3]) rfl rfl rfl rfl ((g.m.gk.ext x2).ext x3 fun r => (g.m.no _ r).2.1 rfl) (by simp) rfl fun h4 n4 x4 g4 => ?_))
    refine K_finL [] rfl (?_)
    exact Told.mk [] rfl ⟨_, g.push (k := 1) (os := [_]) il x2 x3 rfl o3 b3 x4 g4 (.one rfl) fun w q => .plain q plain66, Nat.le_refl _, by rw [pot_push]; simp⟩
end

end
section
/- Made modules: value, local, ref. -/
set_option linter.unusedVariables false
set_option linter.unusedSimpArgs false

theorem ints_getD {k : IntKind} {L : List Int} {r : Nat} (h : r < L.length) : (ints k L)[((r : Nat) : Int).toNat]? = some (.int k (L.getD r 0)) := by
  rw [Int.toNat_natCast, List.getElem?_map, List.getD_eq_getElem?_getD, List.getElem?_eq_getElem h]; rfl
theorem getD_all {P : Int → Prop} {L : List Int} {r : Nat} (h : ∀ x ∈ L, P x) (hr : r < L.length) : P (L.getD r 0) := by
  rw [List.getD_eq_getElem?_getD, List.getElem?_eq_getElem hr]; exact h _ (List.getElem_mem _)
instance (x : Int) : Decidable (Plain x) := by unfold Plain; infer_instance

section
variable {K : Kt} {h h1 : Heap} {s s1 : St} {st : List Bool}
abbrev valL : List Int := [0, 1, 2, 3, 7, 65535, 65536, 2147483647, 2147483648, 4294967295, 9223372036854775808, 18446744073709551615, 40, 100]
/-- maker.value -/
theorem Go.c61 (g : Go K h s h1 s1 st) : Fn Try.prog 61 [ptr K.pk] h1 fun v h2 => ∃ (N : Int) (n' : Nat), v = .int .u64 N ∧ Go K h s h2 { s1 with n := n' } st ∧ s1.n ≤ n' ∧ pot K { s1 with n := n' } ≤ pot K s1 := by
  refine fnK F61.fok rfl ?_
  refine K_reg (Wops_run rfl rfl (K_fin [(0, _)] rfl (?_)))
  refine K_reg (Wops_bslice (l := ints .u64 valL) rfl rfl fun h2 n2 x2 g2 => ?_)
  have G2 := g.ext0 x2
  refine Wops_run rfl rfl (Wops_run rfl rfl (Wops_run rfl rfl (Wops_ld (v := ptr K.pp) rfl G2.m.gk rfl ?_)))
  refine Wops_call rfl (G2.c48 (by decide)) ?_
  rintro _ h3 ⟨r, n', rfl, hr, G3, hn, hp, _, _, x3⟩
  have g3 : At h3 h1.next (.cells (ints .u64 valL) 1 false) := At.ext g2 x3 (by have := g.m.lt; omega)
  refine Wops_idx (u := .int .u64 (valL.getD r 0)) rfl rfl (OwS.new (n := 14) (c := 1) g3 rfl).sl ⟨by omega, by omega⟩ (ints_getD (show r < 14 by omega)) fun _ => ?_
  refine Wops_run rfl rfl (K_fin [(2, _)] rfl (?_))
  exact K_ret (Told.mk _ rfl ⟨_, n', rfl, G3, hn, hp⟩)
set_option maxHeartbeats 1000000 in
/-- maker.local -/
theorem Go.c62 {t : Int} (g : Go K h s h1 s1 st) : Fn Try.prog 62 [ptr K.pk, .int .u8 t] h1 fun v h2 => ∃ (a : Int) (b : Bool) (n' : Nat), v = .tuple ⟨[.int .u32 a, .bool b]⟩ ∧ Go K h s h2 { s1 with n := n' } st ∧ s1.n ≤ n' ∧ pot K { s1 with n := n' } ≤ pot K s1 := by
  have hll := g.m.z.ll
  refine fnK F62.fok rfl ?_
  refine K_reg (Wops_run rfl rfl (Wops_run rfl rfl (K_fin [(0, _), (1, _)] rfl (?_))))
  refine K_reg (Wops_run rfl rfl (Wops_run rfl rfl (Wops_run rfl rfl (Wops_ld (v := ptr K.pp) rfl g.m.gk rfl (Wops_call rfl (g.c48 (by decide)) ?_)))))
  rintro _ h3 ⟨r, n', rfl, hr, G3, hn, hp, _, _, x3⟩
  refine Wops_run rfl rfl (K_fin [(0, _), (1, _), (6, _)] rfl (?_))
  refine K_ss (K_reg (Wops_run rfl rfl (K_fin [(0, _), (1, _), (6, _), (7, _)] rfl (?_))))
  refine K_sblock ?_
  refine K_loop (fun k e h' => ∃ i : Nat, e = [(0, ptr K.pk), (1, .int .u8 t), (6, .int .i64 (r : Int)), (7, .int .i64 (i : Int))] ∧ i ≤ K.ls.length ∧ k = K.ls.length - i ∧ h' = h3) ?_ (k := K.ls.length) ⟨0, rfl, by omega, rfl, rfl⟩
  rintro k e h' ⟨i, rfl, hi, rfl, rfl⟩
  refine K_ss (K_reg (Wops_run rfl rfl (Wops_run rfl rfl (Wops_run rfl rfl (Wops_run rfl rfl (Wops_ld (v := .slice K.la K.ls.length K.lc) rfl G3.m.gk rfl (Wops_run rfl rfl (Wops_run rfl rfl (K_fin [(0, _), (1, _), (6, _), (7, _), (20, _)] rfl (?_))))))))))
  refine K_scond rfl (fun hc => ?_) (fun hc => ?_)
  · have hil : i < K.ls.length := by have := of_decide_eq_true hc; omega
    obtain ⟨j, hj, hje⟩ : ∃ j : Nat, j < K.ls.length ∧ ((i : Int) + (r : Int)).tmod (K.ls.length : Int) = j := by
      have h1 := Int.tmod_nonneg (K.ls.length : Int) (show (0 : Int) ≤ (i : Int) + r by omega)
      have h2 := Int.tmod_lt_of_pos ((i : Int) + r) (show (0 : Int) < (K.ls.length : Int) by omega)
      exact ⟨(((i : Int) + r).tmod K.ls.length).toNat, by omega, by omega⟩
    refine K_sskip (K_sblock ?_)
    refine K_reg (Wops_run rfl rfl (Wops_run rfl rfl (Wops_as (w := .int .i64 ((i : Int) + r)) rfl rfl (by rw [w64 (by omega)]) ?_)))
    refine Wops_run rfl rfl (Wops_run rfl rfl (Wops_run rfl rfl (Wops_ld (v := .slice K.la K.ls.length K.lc) rfl G3.m.gk rfl (Wops_run rfl rfl (Wops_rem rfl rfl (by omega) (Wops_run rfl rfl (K_fin [(0, _), (1, _), (6, _), (7, _), (8, .int .i64 (j : Int))] (by rw [← hje]; rfl) (?_))))))))
    refine K_reg (Wops_run rfl rfl (Wops_run rfl rfl (Wops_run rfl rfl (Wops_ld (v := .slice K.la K.ls.length K.lc) rfl G3.m.gk rfl (Wops_run rfl rfl ?_)))))
    refine Wops_idx (u := .int .u8 K.ls[j]) rfl rfl G3.m.z.sl ⟨by omega, by omega⟩ (by simp [hj]) fun _ => ?_
    refine Wops_run rfl rfl (Wops_run rfl rfl (Wops_run rfl rfl ?_))
    cases hq : (K.ls[j] == t)
    · (repeat (first | refine Wops_skip rfl ?_ | refine Wops_run rfl rfl ?_))
      refine K_fin [(0, _), (1, _), (6, _), (7, _), (8, _), (50, _)] rfl (?_)
      refine K_cond rfl (fun hc => by cases hc) (fun _ => K_skip ?_)
      refine K_last (Wops_run rfl rfl (Wops_run rfl rfl (Wops_run rfl rfl (K_finL [(0, _), (1, _), (6, _), (7, _)] rfl (?_)))))
      exact ⟨K.ls.length - (i + 1), by omega, i + 1, by rw [w64s (by omega)], by omega, rfl, rfl⟩
    · refine Wops_go rfl (Wops_run rfl rfl (Wops_go rfl (Wops_run rfl rfl (Wops_go rfl (Wops_run rfl rfl (Wops_go rfl (Wops_run rfl rfl (Wops_go rfl (Wops_ld (v := .slice K.la K.ls.length K.lc) rfl G3.m.gk rfl ?_)))))))))
      refine Wops_go rfl (Wops_run rfl rfl (Wops_go rfl (Wops_run rfl rfl (Wops_go rfl (Wops_run rfl rfl (Wops_run rfl rfl (K_fin [(0, _), (1, _), (6, _), (7, _), (8, _), (50, _)] rfl (?_))))))))
      refine K_cond rfl (fun _ => ?_) (fun _ => K_skip ?_)
      · refine K_reg (Wops_run rfl rfl (Wops_run rfl rfl (Wops_run rfl rfl (Wops_run rfl rfl (K_fin [(4, _), (5, _)] rfl (?_))))))
        exact K_ret (Told.mk _ rfl ⟨_, _, n', rfl, G3, hn, hp⟩)
      · refine K_last (Wops_run rfl rfl (Wops_run rfl rfl (Wops_run rfl rfl (K_finL [(0, _), (1, _), (6, _), (7, _)] rfl (?_)))))
        exact ⟨K.ls.length - (i + 1), by omega, i + 1, by rw [w64s (by omega)], by omega, rfl, rfl⟩
  · refine K_sexit (bx_same ?_)
    refine K_reg (Wops_run rfl rfl (Wops_run rfl rfl (K_fin [(4, _), (5, _)] rfl (?_))))
    exact K_ret (Told.mk _ rfl ⟨_, _, n', rfl, G3, hn, hp⟩)

theorem plain208 : Plain 208 := by decide
theorem plain210 : Plain 210 := by decide
/-- maker.ref -/
theorem Go.c75 (g : Go K h s h1 s1 st) (hp : pot K s1 ≤ 100050) : Fn Try.prog 75 [ptr K.pk] h1 fun v h2 => Adds K h s s1 st st 1 h2 := by
  have hf0 := g.m.z.f0
  refine fnK F75.fok rfl ?_
  refine K_reg (Wops_run rfl rfl (Wops_run rfl rfl (Wops_run rfl rfl (Wops_ld (v := ptr K.pp) rfl g.m.gk rfl (Wops_call rfl (g.c48 (by decide)) ?_)))))
  rintro _ h2 ⟨r, n2, rfl, hr, G2, hn2, hp2, _, _, x2⟩
  refine Wops_run rfl rfl (K_fin [(0, _), (7, _)] rfl (?_))
  refine K_cond rfl (fun _ => ?_) (fun _ => ?_)
  · refine K_last (Wops_run rfl rfl (Wops_call rfl (G2.c63 (by omega) fun w q => .plain q plain208) ?_))
    rintro _ h3 ⟨s3, G3, hn3, hp3⟩
    exact K_finL [] rfl (Told.mk [] rfl ⟨s3, G3, Nat.le_trans hn2 hn3, by omega⟩)
  · refine K_last (Wops_run rfl rfl (Wops_run rfl rfl (Wops_run rfl rfl (Wops_run rfl rfl (Wops_ld (v := ptr K.pp) rfl G2.m.gk rfl ?_)))))
    refine Wops_run rfl rfl (Wops_run rfl rfl (Wops_run rfl rfl (Wops_ld (v := ptr K.pm) rfl G2.m.gk rfl (Wops_run rfl rfl (Wops_run rfl rfl (Wops_ld rfl G2.m.z.gm G2.m.z.hF (Wops_run rfl rfl (Wops_call rfl (G2.c48 (m := (K.fs.length : Int)) (by omega)) ?_))))))))
    rintro _ h3 ⟨r3, n3, rfl, hr3, G3, hn3, hp3, _, _, x3⟩
    refine Wops_run rfl rfl (Wops_call rfl (G3.c63 (by omega) fun w q => .plain q plain210) ?_)
    rintro _ h4 ⟨s4, G4, hn4, hp4⟩
    exact K_finL [] rfl (Told.mk [] rfl ⟨s4, G4, Nat.le_trans hn2 (Nat.le_trans hn3 hn4), by omega⟩)
end

end
section
/- Made modules: what a maker's greater functions keep. -/
set_option linter.unusedVariables false
set_option linter.unusedSimpArgs false

/-- A function of a maker's, where so many numbers are left at most. -/
def CF (K : Kt) (R f : Nat) (av : List Value) (c : Int) (B : Int) : Prop :=
  ∀ (h : Heap) (s : St), Mk K h s → K.xs.length ≤ s.n + R → pot K s ≤ B → Fn Try.prog f av h fun v h' => Adds K h s s [] [] c h'
theorem CF.go {K : Kt} {R f : Nat} {av : List Value} {c B : Int} {h h1 : Heap} {s s1 : St} {st : List Bool} (H : CF K R f av c B) (g : Go K h s h1 s1 st) (hr : K.xs.length ≤ s1.n + R) (hp : pot K s1 ≤ B) : Fn Try.prog f av h1 fun v h2 => Adds K h s s1 st st c h2 :=
  (H h1 s1 g.m hr hp).mono fun v h2 ⟨s2, q, hn, hq⟩ => ⟨s2, g.trans q, hn, hq⟩
/-- All of them. -/
structure AllAt (K : Kt) (R : Nat) : Prop where
  e : ∀ t d, CF K R 50 [ptr K.pk, .int .u8 t, .int .i64 d] 1 100000
  b : ∀ op t d, op = 2 ∨ op = 4 → CF K R 65 [ptr K.pk, .int .i64 op, .int .u8 t, .int .i64 d] 8 99975
  l : ∀ t d, CF K R 66 [ptr K.pk, .int .u8 t, .int .i64 d] 4 99975
  z : ∀ t d, CF K R 67 [ptr K.pk, .int .u8 t, .int .i64 d] 3 99975
  t : ∀ d, CF K R 74 [ptr K.pk, .int .i64 d] 3 99975
  s : ∀ n d, n ≤ 1000 → CF K R 49 [ptr K.pk, .int .i64 n, .int .i64 d] 0 100000
  lo : ∀ d, CF K R 76 [ptr K.pk, .int .i64 d] 14 99975
  j : ∀ d, CF K R 77 [ptr K.pk, .int .i64 d] 6 99975

end
section
/- Made modules: expr's cases, sizes, stmt, block, loop, jumps (printed by gmd.py). -/
set_option linter.unusedVariables false
set_option linter.unusedSimpArgs false

set_option maxHeartbeats 4000000 in
/-- maker.expr: the cases -/
theorem E50 {K : Kt} {R : Nat} (H : AllAt K R) {h h1 : Heap} {s s1 : St} {t d c : Int} {b : Bool} {kx : Nat → Kn} {kr : Kn} (G0 : Go K h s h1 s1 []) (r0 : K.xs.length ≤ s1.n + R) (n0 : s.n ≤ s1.n) (p0 : pot K s1 ≤ 99970) (p1 : pot K s1 ≤ pot K s + (-30)) :
    W Try.prog (match F50.code with | .seq _ (.seq _ (.seq _ b)) => b | _ => .skip) [(0, ptr K.pk), (1, .int .u8 t), (2, .int .i64 d), (6, .int .i64 c), (7, .bool b)] h1 (K3 (Told F50.res fun v h' => Adds K h s s [] [] 1 h') kx kr) := by
  refine K_block ?_
  refine K_reg (Wops_run rfl rfl (Wops_run rfl rfl (Wops_run rfl rfl (K_fin [(0, _), (1, _), (2, _), (6, _), (7, _), (46, _)] rfl (?_)))))
  refine K_cond rfl (fun hc => ?_) (fun hc => ?_)
  · refine K_last (Wops_run rfl rfl (Wops_run rfl rfl (Wops_run rfl rfl (Wops_call rfl G0.c61 ?_))))
    rintro _ h1 ⟨v1, n1, rfl, G1, hn1, hp1⟩
    have rr1 := Nat.le_trans r0 (Nat.add_le_add_right hn1 R)
    have NN1 := Nat.le_trans n0 hn1
    refine Wops_call rfl (G1.c60 (by omega)) ?_
    rintro _ h2 ⟨s2, G2, hn2, hp2⟩
    have rr2 := Nat.le_trans rr1 (Nat.add_le_add_right hn2 R)
    have NN2 := Nat.le_trans NN1 hn2
    refine K_finL [] rfl (?_)
    exact Told.mk [] rfl ⟨_, G2, NN2, by omega⟩
  · refine K_reg (Wops_run rfl rfl (Wops_run rfl rfl (Wops_run rfl rfl (K_fin [(0, _), (1, _), (2, _), (6, _), (7, _), (54, _)] rfl (?_)))))
    refine K_cond rfl (fun hc => ?_) (fun hc => ?_)
    · refine K_reg (Wops_run rfl rfl (Wops_run rfl rfl (Wops_call rfl G0.c62 ?_)))
      rintro _ h3 ⟨v3, w3, n3, rfl, G3, hn3, hp3⟩
      have rr3 := Nat.le_trans r0 (Nat.add_le_add_right hn3 R)
      have NN3 := Nat.le_trans n0 hn3
      refine Wops_run rfl rfl (Wops_run rfl rfl (Wops_run rfl rfl (Wops_run rfl rfl (Wops_run rfl rfl (K_fin [(0, _), (1, _), (8, _), (9, _)] rfl (?_))))))
      obtain ⟨s4, G4, hn4, hp4⟩ : ∃ q, Go K h s h3 q [] ∧ ({ s1 with n := n3 } : St).n ≤ q.n ∧ pot K q ≤ pot K ({ s1 with n := n3 } : St) := ⟨_, G3, Nat.le_refl _, Int.le_refl _⟩
      have rr4 := Nat.le_trans rr3 (Nat.add_le_add_right hn4 R)
      have NN4 := Nat.le_trans NN3 hn4
      refine K_reg (Wops_run rfl rfl (K_fin [(0, _), (1, _), (8, _), (63, _)] rfl (?_)))
      refine K_cond rfl (fun hc => ?_) (fun hc => ?_)
      · refine K_last (Wops_run rfl rfl (Wops_run rfl rfl (Wops_call rfl (G4.c63 (st' := []) (by omega) (fun w q => .plain q (by decide))) ?_)))
        rintro _ h5 ⟨s5, G5, hn5, hp5⟩
        have rr5 := Nat.le_trans rr4 (Nat.add_le_add_right hn5 R)
        have NN5 := Nat.le_trans NN4 hn5
        refine K_finL [] rfl (?_)
        exact Told.mk [] rfl ⟨_, G5, NN5, by omega⟩
      · refine K_last (Wops_run rfl rfl (Wops_run rfl rfl (Wops_call rfl (G4.c60 (by omega)) ?_)))
        rintro _ h6 ⟨s6, G6, hn6, hp6⟩
        have rr6 := Nat.le_trans rr4 (Nat.add_le_add_right hn6 R)
        have NN6 := Nat.le_trans NN4 hn6
        refine K_finL [] rfl (?_)
        exact Told.mk [] rfl ⟨_, G6, NN6, by omega⟩
    · refine K_reg (Wops_run rfl rfl (Wops_run rfl rfl (Wops_run rfl rfl (K_fin [(0, _), (1, _), (2, _), (6, _), (7, _), (70, _)] rfl (?_)))))
      refine K_cond rfl (fun hc => ?_) (fun hc => ?_)
      · refine K_reg (Wops_run rfl rfl (K_fin [(0, _), (7, _), (10, _)] rfl (?_)))
        refine K_ss (K_reg (Wops_run rfl rfl (Wops_run rfl rfl (K_fin [(0, _), (10, _), (74, _)] rfl (?_)))))
        refine K_scond rfl (fun hc => ?_) (fun hc => ?_)
        · refine K_reg (Wops_run rfl rfl (K_fin [(0, _), (10, _)] rfl (?_)))
          refine K_last (Wops_run rfl rfl (Wops_run rfl rfl (Wops_call rfl (G0.c63 (st' := []) (by omega) (fun w q => .plain q (by decide))) ?_)))
          rintro _ h7 ⟨s7, G7, hn7, hp7⟩
          have rr7 := Nat.le_trans r0 (Nat.add_le_add_right hn7 R)
          have NN7 := Nat.le_trans n0 hn7
          refine K_finL [] rfl (?_)
          exact Told.mk [] rfl ⟨_, G7, NN7, by omega⟩
        · refine K_sskip (K_last (Wops_run rfl rfl (Wops_run rfl rfl (Wops_call rfl (G0.c63 (st' := []) (by omega) (fun w q => .plain q (by decide))) ?_))))
          rintro _ h8 ⟨s8, G8, hn8, hp8⟩
          have rr8 := Nat.le_trans r0 (Nat.add_le_add_right hn8 R)
          have NN8 := Nat.le_trans n0 hn8
          refine K_finL [] rfl (?_)
          exact Told.mk [] rfl ⟨_, G8, NN8, by omega⟩
      · refine K_reg (Wops_run rfl rfl (Wops_run rfl rfl (Wops_run rfl rfl (K_fin [(0, _), (1, _), (2, _), (6, _), (7, _), (78, _)] rfl (?_)))))
        refine K_cond rfl (fun hc => ?_) (fun hc => ?_)
        · refine K_reg (Wops_run rfl rfl (Wops_run rfl rfl (Wops_run rfl rfl (Wops_run rfl rfl (Wops_call rfl ((H.e _ _).go G0 r0 (by omega)) ?_)))))
          rintro _ h9 ⟨s9, G9, hn9, hp9⟩
          have rr9 := Nat.le_trans r0 (Nat.add_le_add_right hn9 R)
          have NN9 := Nat.le_trans n0 hn9
          refine K_fin [(0, _), (1, _), (2, _), (7, _)] rfl (?_)
          refine K_reg (Wops_run rfl rfl (Wops_run rfl rfl (Wops_run rfl rfl (Wops_run rfl rfl (Wops_call rfl ((H.e _ _).go G9 rr9 (by omega)) ?_)))))
          rintro _ h10 ⟨s10, G10, hn10, hp10⟩
          have rr10 := Nat.le_trans rr9 (Nat.add_le_add_right hn10 R)
          have NN10 := Nat.le_trans NN9 hn10
          refine K_fin [(0, _), (7, _)] rfl (?_)
          refine K_reg (Wops_run rfl rfl (Wops_run rfl rfl (Wops_run rfl rfl (Wops_ld (v := ptr K.pp) rfl G10.m.gk rfl ?_))))
          refine Wops_call rfl (G10.c48 (by decide)) ?_
          rintro _ h11 ⟨r11, n11, rfl, hr11, G11, hn11, hp11, hu11, hz11, x11⟩
          have rr11 := Nat.le_trans rr10 (Nat.add_le_add_right hn11 R)
          have NN11 := Nat.le_trans NN10 hn11
          refine Wops_as (w := .int .i64 (106 + (r11 : Int))) rfl rfl (by rw [w64 (by omega)]) (Wops_run rfl rfl (K_fin [(0, _), (7, _), (11, _)] rfl (?_)))
          obtain ⟨s12, G12, hn12, hp12⟩ : ∃ q, Go K h s h11 q [] ∧ ({ s10 with n := n11 } : St).n ≤ q.n ∧ pot K q ≤ pot K ({ s10 with n := n11 } : St) := ⟨_, G11, Nat.le_refl _, Int.le_refl _⟩
          have rr12 := Nat.le_trans rr11 (Nat.add_le_add_right hn12 R)
          have NN12 := Nat.le_trans NN11 hn12
          refine K_ss (K_reg (Wops_run rfl rfl (Wops_run rfl rfl (K_fin [(0, _), (11, _), (98, _)] rfl (?_)))))
          refine K_scond rfl (fun hc => ?_) (fun hc => ?_)
          · refine K_reg (Wops_run rfl rfl (Wops_as (w := .int .i64 ((106 + (r11 : Int)) + 18)) rfl rfl (by rw [w64 (by omega)]) (Wops_run rfl rfl (K_fin [(0, _), (11, _)] rfl (?_)))))
            refine K_last (Wops_run rfl rfl (Wops_run rfl rfl (Wops_call rfl (G12.c64 (st' := []) (by omega) (fun w q => .plain q (by unfold Plain; omega))) ?_)))
            rintro _ h13 ⟨s13, G13, hn13, hp13⟩
            have rr13 := Nat.le_trans rr12 (Nat.add_le_add_right hn13 R)
            have NN13 := Nat.le_trans NN12 hn13
            refine K_finL [] rfl (?_)
            exact Told.mk [] rfl ⟨_, G13, NN13, by omega⟩
          · refine K_sskip (K_last (Wops_run rfl rfl (Wops_run rfl rfl (Wops_call rfl (G12.c64 (st' := []) (by omega) (fun w q => .plain q (by unfold Plain; omega))) ?_))))
            rintro _ h14 ⟨s14, G14, hn14, hp14⟩
            have rr14 := Nat.le_trans rr12 (Nat.add_le_add_right hn14 R)
            have NN14 := Nat.le_trans NN12 hn14
            refine K_finL [] rfl (?_)
            exact Told.mk [] rfl ⟨_, G14, NN14, by omega⟩
        · refine K_reg (Wops_run rfl rfl (Wops_run rfl rfl (Wops_run rfl rfl (K_fin [(0, _), (1, _), (2, _), (6, _), (7, _), (104, _)] rfl (?_)))))
          refine K_cond rfl (fun hc => ?_) (fun hc => ?_)
          · refine K_reg (Wops_run rfl rfl (Wops_run rfl rfl (Wops_run rfl rfl (Wops_run rfl rfl (Wops_call rfl ((H.e _ _).go G0 r0 (by omega)) ?_)))))
            rintro _ h15 ⟨s15, G15, hn15, hp15⟩
            have rr15 := Nat.le_trans r0 (Nat.add_le_add_right hn15 R)
            have NN15 := Nat.le_trans n0 hn15
            refine K_fin [(0, _), (7, _)] rfl (?_)
            refine K_reg (Wops_bslice (l := ints .i64 [103, 104, 105, 192, 193]) rfl rfl fun h16 n16 x16 g16 => ?_)
            have G16 := G15.ext0 x16
            refine Wops_run rfl rfl (Wops_run rfl rfl (Wops_run rfl rfl (Wops_ld (v := ptr K.pp) rfl G16.m.gk rfl ?_)))
            refine Wops_call rfl (G16.c48 (by decide)) ?_
            rintro _ h17 ⟨r17, n17, rfl, hr17, G17, hn17, hp17, hu17, hz17, x17⟩
            have g16x17 : At h17 h15.next (.cells (ints .i64 [103, 104, 105, 192, 193]) 1 false) := At.ext (S := (· = K.pp)) g16 x17 (by have := G15.m.lt; omega)
            have rr17 := Nat.le_trans rr15 (Nat.add_le_add_right hn17 R)
            have NN17 := Nat.le_trans NN15 hn17
            refine Wops_iaV rfl rfl ⟨by omega, by omega⟩ (Wops_ld (v := .int .i64 (([103, 104, 105, 192, 193] : List Int).getD r17 0)) rfl g16x17 (by rw [Nat.zero_add, Nat.mul_one]; exact ints_getD (L := [103, 104, 105, 192, 193]) (show r17 < 5 by omega)) ?_)
            refine Wops_run rfl rfl (K_fin [(0, _), (7, _), (12, _)] rfl (?_))
            obtain ⟨s18, G18, hn18, hp18⟩ : ∃ q, Go K h s h17 q [] ∧ ({ s15 with n := n17 } : St).n ≤ q.n ∧ pot K q ≤ pot K ({ s15 with n := n17 } : St) := ⟨_, G17, Nat.le_refl _, Int.le_refl _⟩
            have rr18 := Nat.le_trans rr17 (Nat.add_le_add_right hn18 R)
            have NN18 := Nat.le_trans NN17 hn18
            refine K_ss (K_reg (Wops_run rfl rfl (Wops_run rfl rfl (K_fin [(0, _), (12, _), (121, _)] rfl (?_)))))
            refine K_scond rfl (fun hc => ?_) (fun hc => ?_)
            · refine K_reg (Wops_bslice (l := ints .i64 [121, 122, 123, 194, 196]) rfl rfl fun h19 n19 x19 g19 => ?_)
              have G19 := G18.ext0 x19
              refine Wops_run rfl rfl (Wops_run rfl rfl (Wops_run rfl rfl (Wops_ld (v := ptr K.pp) rfl G19.m.gk rfl ?_)))
              refine Wops_call rfl (G19.c48 (by decide)) ?_
              rintro _ h20 ⟨r20, n20, rfl, hr20, G20, hn20, hp20, hu20, hz20, x20⟩
              have g19x20 : At h20 h17.next (.cells (ints .i64 [121, 122, 123, 194, 196]) 1 false) := At.ext (S := (· = K.pp)) g19 x20 (by have := G18.m.lt; omega)
              have rr20 := Nat.le_trans rr18 (Nat.add_le_add_right hn20 R)
              have NN20 := Nat.le_trans NN18 hn20
              refine Wops_iaV rfl rfl ⟨by omega, by omega⟩ (Wops_ld (v := .int .i64 (([121, 122, 123, 194, 196] : List Int).getD r20 0)) rfl g19x20 (by rw [Nat.zero_add, Nat.mul_one]; exact ints_getD (L := [121, 122, 123, 194, 196]) (show r20 < 5 by omega)) ?_)
              refine Wops_run rfl rfl (K_fin [(0, _), (12, _)] rfl (?_))
              obtain ⟨s21, G21, hn21, hp21⟩ : ∃ q, Go K h s h20 q [] ∧ ({ s18 with n := n20 } : St).n ≤ q.n ∧ pot K q ≤ pot K ({ s18 with n := n20 } : St) := ⟨_, G20, Nat.le_refl _, Int.le_refl _⟩
              have rr21 := Nat.le_trans rr20 (Nat.add_le_add_right hn21 R)
              have NN21 := Nat.le_trans NN20 hn21
              refine K_last (Wops_run rfl rfl (Wops_run rfl rfl (Wops_call rfl (G21.c64 (st' := []) (by omega) (fun w q => .plain q (getD_all (L := ([121, 122, 123, 194, 196] : List Int)) (by decide) (show r20 < 5 by omega)))) ?_)))
              rintro _ h22 ⟨s22, G22, hn22, hp22⟩
              have rr22 := Nat.le_trans rr21 (Nat.add_le_add_right hn22 R)
              have NN22 := Nat.le_trans NN21 hn22
              refine K_finL [] rfl (?_)
              exact Told.mk [] rfl ⟨_, G22, NN22, by omega⟩
            · refine K_sskip (K_last (Wops_run rfl rfl (Wops_run rfl rfl (Wops_call rfl (G18.c64 (st' := []) (by omega) (fun w q => .plain q (getD_all (L := ([103, 104, 105, 192, 193] : List Int)) (by decide) (show r17 < 5 by omega)))) ?_))))
              rintro _ h23 ⟨s23, G23, hn23, hp23⟩
              have rr23 := Nat.le_trans rr18 (Nat.add_le_add_right hn23 R)
              have NN23 := Nat.le_trans NN18 hn23
              refine K_finL [] rfl (?_)
              exact Told.mk [] rfl ⟨_, G23, NN23, by omega⟩
          · refine K_reg (Wops_run rfl rfl (Wops_run rfl rfl (Wops_run rfl rfl (K_fin [(0, _), (1, _), (2, _), (6, _), (7, _), (133, _)] rfl (?_)))))
            refine K_cond rfl (fun hc => ?_) (fun hc => ?_)
            · refine K_reg (Wops_run rfl rfl (K_fin [(0, _), (2, _), (136, _)] rfl (?_)))
              refine K_cond rfl (fun hc => ?_) (fun hc => ?_)
              · refine K_reg (Wops_bslice (l := ints .u8 [127, 126]) rfl rfl fun h24 n24 x24 g24 => ?_)
                have G24 := G0.ext0 x24
                refine Wops_run rfl rfl (Wops_run rfl rfl (Wops_run rfl rfl (Wops_ld (v := ptr K.pp) rfl G24.m.gk rfl ?_)))
                refine Wops_call rfl (G24.c48 (by decide)) ?_
                rintro _ h25 ⟨r25, n25, rfl, hr25, G25, hn25, hp25, hu25, hz25, x25⟩
                have g24x25 : At h25 h1.next (.cells (ints .u8 [127, 126]) 1 false) := At.ext (S := (· = K.pp)) g24 x25 (by have := G0.m.lt; omega)
                have rr25 := Nat.le_trans r0 (Nat.add_le_add_right hn25 R)
                have NN25 := Nat.le_trans n0 hn25
                refine Wops_iaV rfl rfl ⟨by omega, by omega⟩ (Wops_ld (v := .int .u8 (([127, 126] : List Int).getD r25 0)) rfl g24x25 (by rw [Nat.zero_add, Nat.mul_one]; exact ints_getD (L := [127, 126]) (show r25 < 2 by omega)) ?_)
                refine Wops_run rfl rfl (K_fin [(0, _), (2, _), (13, _)] rfl (?_))
                obtain ⟨s26, G26, hn26, hp26⟩ : ∃ q, Go K h s h25 q [] ∧ ({ s1 with n := n25 } : St).n ≤ q.n ∧ pot K q ≤ pot K ({ s1 with n := n25 } : St) := ⟨_, G25, Nat.le_refl _, Int.le_refl _⟩
                have rr26 := Nat.le_trans rr25 (Nat.add_le_add_right hn26 R)
                have NN26 := Nat.le_trans NN25 hn26
                refine K_reg (Wops_run rfl rfl (Wops_run rfl rfl (Wops_run rfl rfl (Wops_run rfl rfl (Wops_call rfl ((H.e _ _).go G26 rr26 (by omega)) ?_)))))
                rintro _ h27 ⟨s27, G27, hn27, hp27⟩
                have rr27 := Nat.le_trans rr26 (Nat.add_le_add_right hn27 R)
                have NN27 := Nat.le_trans NN26 hn27
                refine K_fin [(0, _), (2, _), (13, _)] rfl (?_)
                refine K_reg (Wops_run rfl rfl (Wops_run rfl rfl (Wops_run rfl rfl (Wops_run rfl rfl (Wops_call rfl ((H.e _ _).go G27 rr27 (by omega)) ?_)))))
                rintro _ h28 ⟨s28, G28, hn28, hp28⟩
                have rr28 := Nat.le_trans rr27 (Nat.add_le_add_right hn28 R)
                have NN28 := Nat.le_trans NN27 hn28
                refine K_fin [(0, _), (13, _)] rfl (?_)
                refine K_reg (Wops_run rfl rfl (Wops_run rfl rfl (Wops_run rfl rfl (Wops_ld (v := ptr K.pp) rfl G28.m.gk rfl ?_))))
                refine Wops_call rfl (G28.c48 (by decide)) ?_
                rintro _ h29 ⟨r29, n29, rfl, hr29, G29, hn29, hp29, hu29, hz29, x29⟩
                have rr29 := Nat.le_trans rr28 (Nat.add_le_add_right hn29 R)
                have NN29 := Nat.le_trans NN28 hn29
                refine Wops_as (w := .int .i64 (70 + (r29 : Int))) rfl rfl (by rw [w64 (by omega)]) (Wops_run rfl rfl (K_fin [(0, _), (13, _), (14, _)] rfl (?_)))
                obtain ⟨s30, G30, hn30, hp30⟩ : ∃ q, Go K h s h29 q [] ∧ ({ s28 with n := n29 } : St).n ≤ q.n ∧ pot K q ≤ pot K ({ s28 with n := n29 } : St) := ⟨_, G29, Nat.le_refl _, Int.le_refl _⟩
                have rr30 := Nat.le_trans rr29 (Nat.add_le_add_right hn30 R)
                have NN30 := Nat.le_trans NN29 hn30
                refine K_ss (K_reg (Wops_run rfl rfl (Wops_run rfl rfl (K_fin [(0, _), (14, _), (162, _)] rfl (?_)))))
                refine K_scond rfl (fun hc => ?_) (fun hc => ?_)
                · refine K_reg (Wops_run rfl rfl (Wops_as (w := .int .i64 ((70 + (r29 : Int)) + 11)) rfl rfl (by rw [w64 (by omega)]) (Wops_run rfl rfl (K_fin [(0, _), (14, _)] rfl (?_)))))
                  refine K_last (Wops_run rfl rfl (Wops_run rfl rfl (Wops_call rfl (G30.c64 (st' := []) (by omega) (fun w q => .plain q (by unfold Plain; omega))) ?_)))
                  rintro _ h31 ⟨s31, G31, hn31, hp31⟩
                  have rr31 := Nat.le_trans rr30 (Nat.add_le_add_right hn31 R)
                  have NN31 := Nat.le_trans NN30 hn31
                  refine K_finL [] rfl (?_)
                  exact Told.mk [] rfl ⟨_, G31, NN31, by omega⟩
                · refine K_sskip (K_last (Wops_run rfl rfl (Wops_run rfl rfl (Wops_call rfl (G30.c64 (st' := []) (by omega) (fun w q => .plain q (by unfold Plain; omega))) ?_))))
                  rintro _ h32 ⟨s32, G32, hn32, hp32⟩
                  have rr32 := Nat.le_trans rr30 (Nat.add_le_add_right hn32 R)
                  have NN32 := Nat.le_trans NN30 hn32
                  refine K_finL [] rfl (?_)
                  exact Told.mk [] rfl ⟨_, G32, NN32, by omega⟩
              · refine K_reg (Wops_run rfl rfl (Wops_run rfl rfl (Wops_run rfl rfl (Wops_call rfl ((H.e _ _).go G0 r0 (by omega)) ?_))))
                rintro _ h33 ⟨s33, G33, hn33, hp33⟩
                have rr33 := Nat.le_trans r0 (Nat.add_le_add_right hn33 R)
                have NN33 := Nat.le_trans n0 hn33
                refine K_fin [(0, _)] rfl (?_)
                refine K_last (Wops_run rfl rfl (Wops_run rfl rfl (Wops_run rfl rfl (Wops_run rfl rfl (Wops_ld (v := ptr K.pp) rfl G33.m.gk rfl ?_)))))
                refine Wops_call rfl (G33.c48 (by decide)) ?_
                rintro _ h34 ⟨r34, n34, rfl, hr34, G34, hn34, hp34, hu34, hz34, x34⟩
                have rr34 := Nat.le_trans rr33 (Nat.add_le_add_right hn34 R)
                have NN34 := Nat.le_trans NN33 hn34
                refine Wops_as (w := .int .i64 (172 + (r34 : Int))) rfl rfl (by rw [w64 (by omega)]) (Wops_call rfl (G34.c64 (st' := []) (by omega) (fun w q => .plain q (by unfold Plain; omega))) ?_)
                rintro _ h35 ⟨s35, G35, hn35, hp35⟩
                have rr35 := Nat.le_trans rr34 (Nat.add_le_add_right hn35 R)
                have NN35 := Nat.le_trans NN34 hn35
                refine K_finL [] rfl (?_)
                exact Told.mk [] rfl ⟨_, G35, NN35, by omega⟩
            · refine K_reg (Wops_run rfl rfl (Wops_run rfl rfl (Wops_run rfl rfl (K_fin [(0, _), (1, _), (2, _), (6, _), (7, _), (180, _)] rfl (?_)))))
              refine K_cond rfl (fun hc => ?_) (fun hc => ?_)
              · refine K_reg (Wops_run rfl rfl (Wops_run rfl rfl (Wops_run rfl rfl (Wops_call rfl ((H.e _ _).go G0 r0 (by omega)) ?_))))
                rintro _ h36 ⟨s36, G36, hn36, hp36⟩
                have rr36 := Nat.le_trans r0 (Nat.add_le_add_right hn36 R)
                have NN36 := Nat.le_trans n0 hn36
                refine K_fin [(0, _), (7, _)] rfl (?_)
                refine K_reg (Wops_bslice (l := ints .i64 [40, 44, 45, 46, 47]) rfl rfl fun h37 n37 x37 g37 => ?_)
                have G37 := G36.ext0 x37
                refine Wops_run rfl rfl (Wops_run rfl rfl (Wops_run rfl rfl (Wops_ld (v := ptr K.pp) rfl G37.m.gk rfl ?_)))
                refine Wops_call rfl (G37.c48 (by decide)) ?_
                rintro _ h38 ⟨r38, n38, rfl, hr38, G38, hn38, hp38, hu38, hz38, x38⟩
                have g37x38 : At h38 h36.next (.cells (ints .i64 [40, 44, 45, 46, 47]) 1 false) := At.ext (S := (· = K.pp)) g37 x38 (by have := G36.m.lt; omega)
                have rr38 := Nat.le_trans rr36 (Nat.add_le_add_right hn38 R)
                have NN38 := Nat.le_trans NN36 hn38
                refine Wops_iaV rfl rfl ⟨by omega, by omega⟩ (Wops_ld (v := .int .i64 (([40, 44, 45, 46, 47] : List Int).getD r38 0)) rfl g37x38 (by rw [Nat.zero_add, Nat.mul_one]; exact ints_getD (L := [40, 44, 45, 46, 47]) (show r38 < 5 by omega)) ?_)
                refine Wops_run rfl rfl (K_fin [(0, _), (7, _), (15, _)] rfl (?_))
                obtain ⟨s39, G39, hn39, hp39⟩ : ∃ q, Go K h s h38 q [] ∧ ({ s36 with n := n38 } : St).n ≤ q.n ∧ pot K q ≤ pot K ({ s36 with n := n38 } : St) := ⟨_, G38, Nat.le_refl _, Int.le_refl _⟩
                have rr39 := Nat.le_trans rr38 (Nat.add_le_add_right hn39 R)
                have NN39 := Nat.le_trans NN38 hn39
                refine K_ss (K_reg (Wops_run rfl rfl (Wops_run rfl rfl (K_fin [(0, _), (15, _), (196, _)] rfl (?_)))))
                refine K_scond rfl (fun hc => ?_) (fun hc => ?_)
                · refine K_reg (Wops_bslice (l := ints .i64 [41, 48, 49, 50, 52]) rfl rfl fun h40 n40 x40 g40 => ?_)
                  have G40 := G39.ext0 x40
                  refine Wops_run rfl rfl (Wops_run rfl rfl (Wops_run rfl rfl (Wops_ld (v := ptr K.pp) rfl G40.m.gk rfl ?_)))
                  refine Wops_call rfl (G40.c48 (by decide)) ?_
                  rintro _ h41 ⟨r41, n41, rfl, hr41, G41, hn41, hp41, hu41, hz41, x41⟩
                  have g40x41 : At h41 h38.next (.cells (ints .i64 [41, 48, 49, 50, 52]) 1 false) := At.ext (S := (· = K.pp)) g40 x41 (by have := G39.m.lt; omega)
                  have rr41 := Nat.le_trans rr39 (Nat.add_le_add_right hn41 R)
                  have NN41 := Nat.le_trans NN39 hn41
                  refine Wops_iaV rfl rfl ⟨by omega, by omega⟩ (Wops_ld (v := .int .i64 (([41, 48, 49, 50, 52] : List Int).getD r41 0)) rfl g40x41 (by rw [Nat.zero_add, Nat.mul_one]; exact ints_getD (L := [41, 48, 49, 50, 52]) (show r41 < 5 by omega)) ?_)
                  refine Wops_run rfl rfl (K_fin [(0, _), (15, _)] rfl (?_))
                  obtain ⟨s42, G42, hn42, hp42⟩ : ∃ q, Go K h s h41 q [] ∧ ({ s39 with n := n41 } : St).n ≤ q.n ∧ pot K q ≤ pot K ({ s39 with n := n41 } : St) := ⟨_, G41, Nat.le_refl _, Int.le_refl _⟩
                  have rr42 := Nat.le_trans rr41 (Nat.add_le_add_right hn42 R)
                  have NN42 := Nat.le_trans NN41 hn42
                  refine K_last (Wops_run rfl rfl (Wops_run rfl rfl (Wops_run rfl rfl (Wops_run rfl rfl (Wops_ld (v := .slice s42.oa s42.ops.length s42.oc) rfl G42.m.gk rfl ?_)))))
                  refine Wops_run rfl rfl (Wops_run rfl rfl (Wops_run rfl rfl (Wops_run rfl rfl (Wops_ld (v := ptr K.pp) rfl G42.m.gk rfl ?_))))
                  refine Wops_call rfl (G42.c48 (by decide)) ?_
                  rintro _ h43 ⟨r43, n43, rfl, hr43, G43, hn43, hp43, hu43, hz43, x43⟩
                  have rr43 := Nat.le_trans rr42 (Nat.add_le_add_right hn43 R)
                  have NN43 := Nat.le_trans NN42 hn43
                  obtain ⟨lq44, oq44, _⟩ := G43.m.o
                  refine Wops_chk rfl rfl G43.m.gk (v := .slice s42.oa s42.ops.length s42.oc) rfl oq44.sl.same ?_
                  refine Wops_run rfl rfl (Wops_run rfl rfl (?_))
                  obtain ⟨l45, o45, il45⟩ := G43.m.o
                  have hops45 : s42.ops.length ≤ 100100 := pot_opsB (K := K) (s := ({ s42 with n := n43 } : St)) G43.m (by omega)
                  refine Wops_bslice (l := [.int .i64 (([41, 48, 49, 50, 52] : List Int).getD r41 0), .int .u32 0, _, .int .u64 0, .slice none 0 0, .int .i64 0]) rfl rfl fun h45 n45 x45 g45 => ?_
                  refine Wops_app (m := 1) rfl rfl (o45.ext x45) rfl (OwS.new (n := 1) (c := 1) g45 rfl).sl.first ⟨by omega, by omega⟩ rfl rfl (by decide) fun hh45 a45 c45 xx45 oo45 b45 => ?_
                  refine Wops_run rfl rfl (Wops_run rfl rfl (Wops_st (l := [.slice a45 (({ s42 with n := n43 } : St).ops.length + 1) c45]) rfl rfl rfl rfl ((G43.m.gk.ext x45).ext xx45 fun r => (G43.m.no _ r).2.1 rfl) (by simp) rfl fun h46 nn46 x46 g46 => ?_))
                  obtain ⟨s46, G46, hn46, hp46⟩ := G43.push' (k := 1) (os := [(([41, 48, 49, 50, 52] : List Int).getD r41 0)]) (st' := []) il45 x45 xx45 rfl oo45 b45 x46 g46 (.one rfl) (fun w q => .plain q (getD_all (L := ([41, 48, 49, 50, 52] : List Int)) (by decide) (show r41 < 5 by omega)))
                  have rr46 := Nat.le_trans rr43 (Nat.add_le_add_right hn46 R)
                  have NN46 := Nat.le_trans NN43 hn46
                  refine K_finL [] rfl (?_)
                  exact Told.mk [] rfl ⟨_, G46, NN46, by omega⟩
                · refine K_sskip (K_last (Wops_run rfl rfl (Wops_run rfl rfl (Wops_run rfl rfl (Wops_run rfl rfl (Wops_ld (v := .slice s39.oa s39.ops.length s39.oc) rfl G39.m.gk rfl ?_))))))
                  refine Wops_run rfl rfl (Wops_run rfl rfl (Wops_run rfl rfl (Wops_run rfl rfl (Wops_ld (v := ptr K.pp) rfl G39.m.gk rfl ?_))))
                  refine Wops_call rfl (G39.c48 (by decide)) ?_
                  rintro _ h47 ⟨r47, n47, rfl, hr47, G47, hn47, hp47, hu47, hz47, x47⟩
                  have rr47 := Nat.le_trans rr39 (Nat.add_le_add_right hn47 R)
                  have NN47 := Nat.le_trans NN39 hn47
                  obtain ⟨lq48, oq48, _⟩ := G47.m.o
                  refine Wops_chk rfl rfl G47.m.gk (v := .slice s39.oa s39.ops.length s39.oc) rfl oq48.sl.same ?_
                  refine Wops_run rfl rfl (Wops_run rfl rfl (?_))
                  obtain ⟨l49, o49, il49⟩ := G47.m.o
                  have hops49 : s39.ops.length ≤ 100100 := pot_opsB (K := K) (s := ({ s39 with n := n47 } : St)) G47.m (by omega)
                  refine Wops_bslice (l := [.int .i64 (([40, 44, 45, 46, 47] : List Int).getD r38 0), .int .u32 0, _, .int .u64 0, .slice none 0 0, .int .i64 0]) rfl rfl fun h49 n49 x49 g49 => ?_
                  refine Wops_app (m := 1) rfl rfl (o49.ext x49) rfl (OwS.new (n := 1) (c := 1) g49 rfl).sl.first ⟨by omega, by omega⟩ rfl rfl (by decide) fun hh49 a49 c49 xx49 oo49 b49 => ?_
                  refine Wops_run rfl rfl (Wops_run rfl rfl (Wops_st (l := [.slice a49 (({ s39 with n := n47 } : St).ops.length + 1) c49]) rfl rfl rfl rfl ((G47.m.gk.ext x49).ext xx49 fun r => (G47.m.no _ r).2.1 rfl) (by simp) rfl fun h50 nn50 x50 g50 => ?_))
                  obtain ⟨s50, G50, hn50, hp50⟩ := G47.push' (k := 1) (os := [(([40, 44, 45, 46, 47] : List Int).getD r38 0)]) (st' := []) il49 x49 xx49 rfl oo49 b49 x50 g50 (.one rfl) (fun w q => .plain q (getD_all (L := ([40, 44, 45, 46, 47] : List Int)) (by decide) (show r38 < 5 by omega)))
                  have rr50 := Nat.le_trans rr47 (Nat.add_le_add_right hn50 R)
                  have NN50 := Nat.le_trans NN47 hn50
                  refine K_finL [] rfl (?_)
                  exact Told.mk [] rfl ⟨_, G50, NN50, by omega⟩
              · refine K_reg (Wops_run rfl rfl (Wops_run rfl rfl (Wops_run rfl rfl (K_fin [(0, _), (1, _), (2, _), (6, _), (7, _), (222, _)] rfl (?_)))))
                refine K_cond rfl (fun hc => ?_) (fun hc => ?_)
                · refine K_reg (Wops_run rfl rfl (Wops_run rfl rfl (Wops_run rfl rfl (Wops_run rfl rfl (Wops_call rfl ((H.e _ _).go G0 r0 (by omega)) ?_)))))
                  rintro _ h51 ⟨s51, G51, hn51, hp51⟩
                  have rr51 := Nat.le_trans r0 (Nat.add_le_add_right hn51 R)
                  have NN51 := Nat.le_trans n0 hn51
                  refine K_fin [(0, _), (1, _), (2, _)] rfl (?_)
                  refine K_reg (Wops_run rfl rfl (Wops_run rfl rfl (Wops_run rfl rfl (Wops_run rfl rfl (Wops_call rfl ((H.e _ _).go G51 rr51 (by omega)) ?_)))))
                  rintro _ h52 ⟨s52, G52, hn52, hp52⟩
                  have rr52 := Nat.le_trans rr51 (Nat.add_le_add_right hn52 R)
                  have NN52 := Nat.le_trans NN51 hn52
                  refine K_fin [(0, _), (2, _)] rfl (?_)
                  refine K_reg (Wops_run rfl rfl (Wops_run rfl rfl (Wops_run rfl rfl (Wops_call rfl ((H.e _ _).go G52 rr52 (by omega)) ?_))))
                  rintro _ h53 ⟨s53, G53, hn53, hp53⟩
                  have rr53 := Nat.le_trans rr52 (Nat.add_le_add_right hn53 R)
                  have NN53 := Nat.le_trans NN52 hn53
                  refine K_fin [(0, _)] rfl (?_)
                  refine K_last (Wops_run rfl rfl (Wops_call rfl (G53.c64 (st' := []) (by omega) (fun w q => .plain q (by decide))) ?_))
                  rintro _ h54 ⟨s54, G54, hn54, hp54⟩
                  have rr54 := Nat.le_trans rr53 (Nat.add_le_add_right hn54 R)
                  have NN54 := Nat.le_trans NN53 hn54
                  refine K_finL [] rfl (?_)
                  exact Told.mk [] rfl ⟨_, G54, NN54, by omega⟩
                · refine K_reg (Wops_run rfl rfl (Wops_run rfl rfl (Wops_run rfl rfl (K_fin [(0, _), (1, _), (2, _), (6, _), (7, _), (241, _)] rfl (?_)))))
                  refine K_cond rfl (fun hc => ?_) (fun hc => ?_)
                  · refine K_last (Wops_run rfl rfl (Wops_run rfl rfl (Wops_run rfl rfl (Wops_call rfl ((H.b _ _ _ (.inl rfl)).go G0 r0 (by omega)) ?_))))
                    rintro _ h55 ⟨s55, G55, hn55, hp55⟩
                    have rr55 := Nat.le_trans r0 (Nat.add_le_add_right hn55 R)
                    have NN55 := Nat.le_trans n0 hn55
                    refine K_finL [] rfl (?_)
                    exact Told.mk [] rfl ⟨_, G55, NN55, by omega⟩
                  · refine K_reg (Wops_run rfl rfl (Wops_run rfl rfl (Wops_run rfl rfl (K_fin [(0, _), (1, _), (2, _), (6, _), (7, _), (248, _)] rfl (?_)))))
                    refine K_cond rfl (fun hc => ?_) (fun hc => ?_)
                    · refine K_reg (Wops_run rfl rfl (Wops_run rfl rfl (Wops_run rfl rfl (Wops_call rfl ((H.e _ _).go G0 r0 (by omega)) ?_))))
                      rintro _ h56 ⟨s56, G56, hn56, hp56⟩
                      have rr56 := Nat.le_trans r0 (Nat.add_le_add_right hn56 R)
                      have NN56 := Nat.le_trans n0 hn56
                      refine K_fin [(0, _), (1, _), (2, _)] rfl (?_)
                      refine K_last (Wops_run rfl rfl (Wops_run rfl rfl (Wops_run rfl rfl (Wops_call rfl ((H.b _ _ _ (.inr rfl)).go G56 rr56 (by omega)) ?_))))
                      rintro _ h57 ⟨s57, G57, hn57, hp57⟩
                      have rr57 := Nat.le_trans rr56 (Nat.add_le_add_right hn57 R)
                      have NN57 := Nat.le_trans NN56 hn57
                      refine K_finL [] rfl (?_)
                      exact Told.mk [] rfl ⟨_, G57, NN57, by omega⟩
                    · refine K_reg (Wops_run rfl rfl (Wops_run rfl rfl (Wops_run rfl rfl (K_fin [(0, _), (1, _), (2, _), (6, _), (7, _), (259, _)] rfl (?_)))))
                      refine K_cond rfl (fun hc => ?_) (fun hc => ?_)
                      · refine K_reg (Wops_run rfl rfl (K_fin [(0, _), (1, _), (2, _), (262, _)] rfl (?_)))
                        refine K_cond rfl (fun hc => ?_) (fun hc => ?_)
                        · refine K_reg (Wops_run rfl rfl (Wops_run rfl rfl (Wops_run rfl rfl (Wops_call rfl ((H.e _ _).go G0 r0 (by omega)) ?_))))
                          rintro _ h58 ⟨s58, G58, hn58, hp58⟩
                          have rr58 := Nat.le_trans r0 (Nat.add_le_add_right hn58 R)
                          have NN58 := Nat.le_trans n0 hn58
                          refine K_fin [(0, _)] rfl (?_)
                          refine K_last (Wops_run rfl rfl (Wops_call rfl (G58.c64 (st' := []) (by omega) (fun w q => .plain q (by decide))) ?_))
                          rintro _ h59 ⟨s59, G59, hn59, hp59⟩
                          have rr59 := Nat.le_trans rr58 (Nat.add_le_add_right hn59 R)
                          have NN59 := Nat.le_trans NN58 hn59
                          refine K_finL [] rfl (?_)
                          exact Told.mk [] rfl ⟨_, G59, NN59, by omega⟩
                        · refine K_last (Wops_run rfl rfl (Wops_run rfl rfl (Wops_call rfl (G0.c60 (by omega)) ?_)))
                          rintro _ h60 ⟨s60, G60, hn60, hp60⟩
                          have rr60 := Nat.le_trans r0 (Nat.add_le_add_right hn60 R)
                          have NN60 := Nat.le_trans n0 hn60
                          refine K_finL [] rfl (?_)
                          exact Told.mk [] rfl ⟨_, G60, NN60, by omega⟩
                      · refine K_reg (Wops_run rfl rfl (Wops_run rfl rfl (Wops_run rfl rfl (K_fin [(0, _), (1, _), (2, _), (272, _)] rfl (?_)))))
                        refine K_cond rfl (fun hc => ?_) (fun hc => ?_)
                        · refine K_last (Wops_run rfl rfl (Wops_run rfl rfl (Wops_run rfl rfl (Wops_call rfl ((H.l _ _).go G0 r0 (by omega)) ?_))))
                          rintro _ h61 ⟨s61, G61, hn61, hp61⟩
                          have rr61 := Nat.le_trans r0 (Nat.add_le_add_right hn61 R)
                          have NN61 := Nat.le_trans n0 hn61
                          refine K_finL [] rfl (?_)
                          exact Told.mk [] rfl ⟨_, G61, NN61, by omega⟩
                        · refine K_last (Wops_run rfl rfl (Wops_run rfl rfl (Wops_run rfl rfl (Wops_call rfl ((H.z _ _).go G0 r0 (by omega)) ?_))))
                          rintro _ h62 ⟨s62, G62, hn62, hp62⟩
                          have rr62 := Nat.le_trans r0 (Nat.add_le_add_right hn62 R)
                          have NN62 := Nat.le_trans n0 hn62
                          refine K_finL [] rfl (?_)
                          exact Told.mk [] rfl ⟨_, G62, NN62, by omega⟩

set_option maxHeartbeats 4000000 in
/-- (*cloakroom/cloakroomplay.maker).sizes -/
theorem E67 {K : Kt} {R : Nat} (E : ∀ t d, CF K R 50 [ptr K.pk, .int .u8 t, .int .i64 d] 1 100000) {t d : Int} : CF K R 67 [ptr K.pk, .int .u8 t, .int .i64 d] 3 99975 := by
  intro h s m r0 p0
  have G0 := Go.refl m
  have n0 := Nat.le_refl s.n
  refine fnK F67.fok rfl ?_
  refine K_ss (K_reg (Wops_run rfl rfl (Wops_run rfl rfl (K_fin [(0, _), (1, _), (2, _), (7, _)] rfl (?_)))))
  refine K_scond rfl (fun hc => ?_) (fun hc => ?_)
  · refine K_ss (K_reg (Wops_run rfl rfl (Wops_run rfl rfl (Wops_call rfl (G0.c60 (by omega)) ?_))))
    rintro _ h1 ⟨s1, G1, hn1, hp1⟩
    have rr1 := Nat.le_trans r0 (Nat.add_le_add_right hn1 R)
    have NN1 := Nat.le_trans n0 hn1
    refine K_fin [] rfl (?_)
    refine K_sret ?_
    exact Told.mk [] rfl ⟨_, G1, NN1, by omega⟩
  · refine K_sskip (K_reg (Wops_run rfl rfl (Wops_run rfl rfl (Wops_run rfl rfl (Wops_ld (v := ptr K.pp) rfl G0.m.gk rfl ?_)))))
    refine Wops_call rfl (G0.c48 (by decide)) ?_
    rintro _ h2 ⟨r2, n2, rfl, hr2, G2, hn2, hp2, hu2, hz2, x2⟩
    have rr2 := Nat.le_trans r0 (Nat.add_le_add_right hn2 R)
    have NN2 := Nat.le_trans n0 hn2
    refine K_fin [(0, _), (2, _), (15, _)] rfl (?_)
    obtain ⟨s3, G3, hn3, hp3⟩ : ∃ q, Go K h s h2 q [] ∧ ({ s with n := n2 } : St).n ≤ q.n ∧ pot K q ≤ pot K ({ s with n := n2 } : St) := ⟨_, G2, Nat.le_refl _, Int.le_refl _⟩
    have rr3 := Nat.le_trans rr2 (Nat.add_le_add_right hn3 R)
    have NN3 := Nat.le_trans NN2 hn3
    refine K_block ?_
    refine K_reg (Wops_run rfl rfl (Wops_run rfl rfl (K_fin [(0, _), (2, _), (15, _), (28, _)] rfl (?_))))
    refine K_cond rfl (fun hc => ?_) (fun hc => ?_)
    · refine K_last (Wops_run rfl rfl (Wops_call rfl (G3.c64 (st' := []) (by omega) (fun w q => .plain q (by decide))) ?_))
      rintro _ h4 ⟨s4, G4, hn4, hp4⟩
      have rr4 := Nat.le_trans rr3 (Nat.add_le_add_right hn4 R)
      have NN4 := Nat.le_trans NN3 hn4
      refine K_finL [] rfl (?_)
      exact Told.mk [] rfl ⟨_, G4, NN4, by omega⟩
    · refine K_reg (Wops_run rfl rfl (Wops_run rfl rfl (K_fin [(0, _), (2, _), (15, _), (32, _)] rfl (?_))))
      refine K_cond rfl (fun hc => ?_) (fun hc => ?_)
      · refine K_reg (Wops_run rfl rfl (Wops_run rfl rfl (Wops_run rfl rfl (Wops_call rfl ((E _ _).go G3 rr3 (by omega)) ?_))))
        rintro _ h5 ⟨s5, G5, hn5, hp5⟩
        have rr5 := Nat.le_trans rr3 (Nat.add_le_add_right hn5 R)
        have NN5 := Nat.le_trans NN3 hn5
        refine K_fin [(0, _)] rfl (?_)
        refine K_last (Wops_run rfl rfl (Wops_call rfl (G5.c64 (st' := []) (by omega) (fun w q => .plain q (by decide))) ?_))
        rintro _ h6 ⟨s6, G6, hn6, hp6⟩
        have rr6 := Nat.le_trans rr5 (Nat.add_le_add_right hn6 R)
        have NN6 := Nat.le_trans NN5 hn6
        refine K_finL [] rfl (?_)
        exact Told.mk [] rfl ⟨_, G6, NN6, by omega⟩
      · refine K_reg (Wops_run rfl rfl (Wops_run rfl rfl (K_fin [(0, _), (2, _), (15, _), (40, _)] rfl (?_))))
        refine K_cond rfl (fun hc => ?_) (fun hc => ?_)
        · refine K_last (Wops_run rfl rfl (Wops_call rfl (G3.c63 (st' := []) (by omega) (fun w q => .plain q (by decide))) ?_))
          rintro _ h7 ⟨s7, G7, hn7, hp7⟩
          have rr7 := Nat.le_trans rr3 (Nat.add_le_add_right hn7 R)
          have NN7 := Nat.le_trans NN3 hn7
          refine K_finL [] rfl (?_)
          exact Told.mk [] rfl ⟨_, G7, NN7, by omega⟩
        · refine K_reg (Wops_run rfl rfl (Wops_run rfl rfl (K_fin [(0, _), (2, _), (44, _)] rfl (?_))))
          refine K_cond rfl (fun hc => ?_) (fun hc => ?_)
          · refine K_reg (Wops_run rfl rfl (Wops_run rfl rfl (Wops_run rfl rfl (Wops_call rfl ((E _ _).go G3 rr3 (by omega)) ?_))))
            rintro _ h8 ⟨s8, G8, hn8, hp8⟩
            have rr8 := Nat.le_trans rr3 (Nat.add_le_add_right hn8 R)
            have NN8 := Nat.le_trans NN3 hn8
            refine K_fin [(0, _)] rfl (?_)
            refine K_reg (Wops_run rfl rfl (Wops_call rfl (G8.c63 (st' := []) (by omega) (fun w q => .plain q (by decide))) ?_))
            rintro _ h9 ⟨s9, G9, hn9, hp9⟩
            have rr9 := Nat.le_trans rr8 (Nat.add_le_add_right hn9 R)
            have NN9 := Nat.le_trans NN8 hn9
            refine K_fin [(0, _)] rfl (?_)
            refine K_last (Wops_run rfl rfl (Wops_call rfl (G9.c64 (st' := []) (by omega) (fun w q => .plain q (by decide))) ?_))
            rintro _ h10 ⟨s10, G10, hn10, hp10⟩
            have rr10 := Nat.le_trans rr9 (Nat.add_le_add_right hn10 R)
            have NN10 := Nat.le_trans NN9 hn10
            refine K_finL [] rfl (?_)
            exact Told.mk [] rfl ⟨_, G10, NN10, by omega⟩
          · refine K_reg (Wops_run rfl rfl (Wops_call rfl (G3.c63 (st' := []) (by omega) (fun w q => .plain q (by decide))) ?_))
            rintro _ h11 ⟨s11, G11, hn11, hp11⟩
            have rr11 := Nat.le_trans rr3 (Nat.add_le_add_right hn11 R)
            have NN11 := Nat.le_trans NN3 hn11
            refine K_fin [(0, _)] rfl (?_)
            refine K_reg (Wops_run rfl rfl (Wops_run rfl rfl (Wops_run rfl rfl (Wops_run rfl rfl (Wops_ld (v := ptr K.pp) rfl G11.m.gk rfl ?_)))))
            refine Wops_call rfl (G11.c48 (by decide)) ?_
            rintro _ h12 ⟨r12, n12, rfl, hr12, G12, hn12, hp12, hu12, hz12, x12⟩
            have rr12 := Nat.le_trans rr11 (Nat.add_le_add_right hn12 R)
            have NN12 := Nat.le_trans NN11 hn12
            refine Wops_run rfl rfl (Wops_call rfl (G12.c60 (by omega)) ?_)
            rintro _ h13 ⟨s13, G13, hn13, hp13⟩
            have rr13 := Nat.le_trans rr12 (Nat.add_le_add_right hn13 R)
            have NN13 := Nat.le_trans NN12 hn13
            refine K_fin [(0, _)] rfl (?_)
            refine K_last (Wops_run rfl rfl (Wops_call rfl (G13.c63 (st' := []) (by omega) (fun w q => .plain q (by decide))) ?_))
            rintro _ h14 ⟨s14, G14, hn14, hp14⟩
            have rr14 := Nat.le_trans rr13 (Nat.add_le_add_right hn14 R)
            have NN14 := Nat.le_trans NN13 hn14
            refine K_finL [] rfl (?_)
            exact Told.mk [] rfl ⟨_, G14, NN14, by omega⟩

set_option maxHeartbeats 4000000 in
/-- (*cloakroom/cloakroomplay.maker).block -/
theorem E65a {K : Kt} {R : Nat} (E : ∀ t d, CF K R 50 [ptr K.pk, .int .u8 t, .int .i64 d] 1 100000) (S : ∀ n d, n ≤ 1000 → CF K R 49 [ptr K.pk, .int .i64 n, .int .i64 d] 0 100000) {t d : Int} : CF K R 65 [ptr K.pk, .int .i64 2, .int .u8 t, .int .i64 d] 8 99975 := by
  intro h s m r0 p0
  have G0 := Go.refl m
  have n0 := Nat.le_refl s.n
  refine fnK F65.fok rfl ?_
  refine K_reg (Wops_run rfl rfl (Wops_run rfl rfl (Wops_run rfl rfl (Wops_ld (v := .int .i64 s.deep) rfl G0.m.gk rfl ?_))))
  refine Wops_run rfl rfl (Wops_run rfl rfl (Wops_run rfl rfl (Wops_st (l := [.int .i64 _]) rfl rfl rfl rfl G0.m.gk (by simp) rfl fun h1 nn1 x1 g1 => ?_)))
  obtain ⟨s1, G1, hn1, hp1⟩ := G0.deep' x1 g1
  have rr1 := Nat.le_trans r0 (Nat.add_le_add_right hn1 R)
  have NN1 := Nat.le_trans n0 hn1
  refine K_fin [(0, _), (1, _), (2, _), (3, _)] rfl (?_)
  refine K_reg (Wops_run rfl rfl (Wops_run rfl rfl (Wops_run rfl rfl (Wops_run rfl rfl (Wops_ld (v := .slice s1.oa s1.ops.length s1.oc) rfl G1.m.gk rfl ?_)))))
  refine Wops_run rfl rfl (Wops_run rfl rfl (Wops_run rfl rfl (Wops_run rfl rfl (Wops_run rfl rfl (?_)))))
  obtain ⟨l2, o2, il2⟩ := G1.m.o
  have hops2 : s1.ops.length ≤ 100100 := pot_opsB (K := K) (s := s1) G1.m (by omega)
  refine Wops_bslice (l := [.int .i64 2, .int .u32 0, .int .u32 0, .int .u64 0, .slice none 0 0, _]) rfl rfl fun h2 n2 x2 g2 => ?_
  refine Wops_app (m := 1) rfl rfl (o2.ext x2) rfl (OwS.new (n := 1) (c := 1) g2 rfl).sl.first ⟨by omega, by omega⟩ rfl rfl (by decide) fun hh2 a2 c2 xx2 oo2 b2 => ?_
  refine Wops_run rfl rfl (Wops_run rfl rfl (Wops_st (l := [.slice a2 (s1.ops.length + 1) c2]) rfl rfl rfl rfl ((G1.m.gk.ext x2).ext xx2 fun r => (G1.m.no _ r).2.1 rfl) (by simp) rfl fun h3 nn3 x3 g3 => ?_))
  obtain ⟨s3, G3, hn3, hp3⟩ := G1.push' (k := 1) (os := [2]) (st' := [false]) il2 x2 xx2 rfl oo2 b2 x3 g3 (.one rfl) (fun w q => .blk q (.inl rfl))
  have rr3 := Nat.le_trans rr1 (Nat.add_le_add_right hn3 R)
  have NN3 := Nat.le_trans NN1 hn3
  refine K_fin [(0, _), (1, _), (2, _), (3, _)] rfl (?_)
  refine K_reg (Wops_run rfl rfl (Wops_run rfl rfl (Wops_run rfl rfl (Wops_call rfl ((S _ _ (by omega)).go G3 rr3 (by omega)) ?_))))
  rintro _ h4 ⟨s4, G4, hn4, hp4⟩
  have rr4 := Nat.le_trans rr3 (Nat.add_le_add_right hn4 R)
  have NN4 := Nat.le_trans NN3 hn4
  refine K_fin [(0, _), (1, _), (2, _), (3, _)] rfl (?_)
  refine K_reg (Wops_run rfl rfl (Wops_run rfl rfl (Wops_run rfl rfl (Wops_run rfl rfl (Wops_call rfl ((E _ _).go G4 rr4 (by omega)) ?_)))))
  rintro _ h5 ⟨s5, G5, hn5, hp5⟩
  have rr5 := Nat.le_trans rr4 (Nat.add_le_add_right hn5 R)
  have NN5 := Nat.le_trans NN4 hn5
  refine K_fin [(0, _), (1, _), (2, _), (3, _)] rfl (?_)
  refine K_ss (K_reg (Wops_run rfl rfl (Wops_run rfl rfl (Wops_run rfl rfl (Wops_ld (v := ptr K.pp) rfl G5.m.gk rfl ?_)))))
  refine Wops_call rfl (G5.c48 (by decide)) ?_
  rintro _ h6 ⟨r6, n6, rfl, hr6, G6, hn6, hp6, hu6, hz6, x6⟩
  have rr6 := Nat.le_trans rr5 (Nat.add_le_add_right hn6 R)
  have NN6 := Nat.le_trans NN5 hn6
  refine Wops_run rfl rfl (K_fin [(0, _), (1, _), (2, _), (3, _), (43, _)] rfl (?_))
  obtain ⟨s7, G7, hn7, hp7⟩ : ∃ q, Go K h s h6 q [false] ∧ ({ s5 with n := n6 } : St).n ≤ q.n ∧ pot K q ≤ pot K ({ s5 with n := n6 } : St) := ⟨_, G6, Nat.le_refl _, Int.le_refl _⟩
  have rr7 := Nat.le_trans rr6 (Nat.add_le_add_right hn7 R)
  have NN7 := Nat.le_trans NN6 hn7
  refine K_scond rfl (fun hc => ?_) (fun hc => ?_)
  · refine K_ss (K_reg (Wops_run rfl rfl (Wops_run rfl rfl (Wops_run rfl rfl (Wops_call rfl ((E _ _).go G7 rr7 (by omega)) ?_)))))
    rintro _ h8 ⟨s8, G8, hn8, hp8⟩
    have rr8 := Nat.le_trans rr7 (Nat.add_le_add_right hn8 R)
    have NN8 := Nat.le_trans NN7 hn8
    refine K_fin [(0, _), (1, _), (2, _), (3, _)] rfl (?_)
    refine K_reg (Wops_run rfl rfl (Wops_call rfl (G8.c63 (st' := [false]) (by omega) (fun w q => .plain q (by decide))) ?_))
    rintro _ h9 ⟨s9, G9, hn9, hp9⟩
    have rr9 := Nat.le_trans rr8 (Nat.add_le_add_right hn9 R)
    have NN9 := Nat.le_trans NN8 hn9
    refine K_fin [(0, _), (1, _), (2, _), (3, _)] rfl (?_)
    refine K_ss (K_reg (Wops_run rfl rfl (Wops_run rfl rfl (K_fin [(0, _), (2, _), (3, _), (51, _)] rfl (?_)))))
    refine K_scond rfl (fun hc => absurd hc (by decide)) (fun _ => ?_)
    refine K_sskip (K_reg (Wops_run rfl rfl (Wops_call rfl (G9.c64 (st' := []) (by omega) (fun w q => .shut q)) ?_)))
    rintro _ h10 ⟨s10, G10, hn10, hp10⟩
    have rr10 := Nat.le_trans rr9 (Nat.add_le_add_right hn10 R)
    have NN10 := Nat.le_trans NN9 hn10
    refine K_fin [(0, _)] rfl (?_)
    refine K_last (Wops_run rfl rfl (Wops_run rfl rfl (Wops_run rfl rfl (Wops_ld (v := .int .i64 s10.deep) rfl G10.m.gk rfl ?_))))
    refine Wops_run rfl rfl (Wops_run rfl rfl (Wops_run rfl rfl (Wops_st (l := [.int .i64 _]) rfl rfl rfl rfl G10.m.gk (by simp) rfl fun h11 nn11 x11 g11 => ?_)))
    obtain ⟨s11, G11, hn11, hp11⟩ := G10.deep' x11 g11
    have rr11 := Nat.le_trans rr10 (Nat.add_le_add_right hn11 R)
    have NN11 := Nat.le_trans NN10 hn11
    refine K_finL [] rfl (?_)
    exact Told.mk [] rfl ⟨_, G11, NN11, by omega⟩
  · refine K_sskip (K_ss (K_reg (Wops_run rfl rfl (Wops_run rfl rfl (K_fin [(0, _), (2, _), (3, _), (51, _)] rfl (?_))))))
    refine K_scond rfl (fun hc => absurd hc (by decide)) (fun _ => ?_)
    refine K_sskip (K_reg (Wops_run rfl rfl (Wops_call rfl (G7.c64 (st' := []) (by omega) (fun w q => .shut q)) ?_)))
    rintro _ h12 ⟨s12, G12, hn12, hp12⟩
    have rr12 := Nat.le_trans rr7 (Nat.add_le_add_right hn12 R)
    have NN12 := Nat.le_trans NN7 hn12
    refine K_fin [(0, _)] rfl (?_)
    refine K_last (Wops_run rfl rfl (Wops_run rfl rfl (Wops_run rfl rfl (Wops_ld (v := .int .i64 s12.deep) rfl G12.m.gk rfl ?_))))
    refine Wops_run rfl rfl (Wops_run rfl rfl (Wops_run rfl rfl (Wops_st (l := [.int .i64 _]) rfl rfl rfl rfl G12.m.gk (by simp) rfl fun h13 nn13 x13 g13 => ?_)))
    obtain ⟨s13, G13, hn13, hp13⟩ := G12.deep' x13 g13
    have rr13 := Nat.le_trans rr12 (Nat.add_le_add_right hn13 R)
    have NN13 := Nat.le_trans NN12 hn13
    refine K_finL [] rfl (?_)
    exact Told.mk [] rfl ⟨_, G13, NN13, by omega⟩

set_option maxHeartbeats 4000000 in
/-- (*cloakroom/cloakroomplay.maker).block -/
theorem E65b {K : Kt} {R : Nat} (E : ∀ t d, CF K R 50 [ptr K.pk, .int .u8 t, .int .i64 d] 1 100000) (S : ∀ n d, n ≤ 1000 → CF K R 49 [ptr K.pk, .int .i64 n, .int .i64 d] 0 100000) {t d : Int} : CF K R 65 [ptr K.pk, .int .i64 4, .int .u8 t, .int .i64 d] 8 99975 := by
  intro h s m r0 p0
  have G0 := Go.refl m
  have n0 := Nat.le_refl s.n
  refine fnK F65.fok rfl ?_
  refine K_reg (Wops_run rfl rfl (Wops_run rfl rfl (Wops_run rfl rfl (Wops_ld (v := .int .i64 s.deep) rfl G0.m.gk rfl ?_))))
  refine Wops_run rfl rfl (Wops_run rfl rfl (Wops_run rfl rfl (Wops_st (l := [.int .i64 _]) rfl rfl rfl rfl G0.m.gk (by simp) rfl fun h1 nn1 x1 g1 => ?_)))
  obtain ⟨s1, G1, hn1, hp1⟩ := G0.deep' x1 g1
  have rr1 := Nat.le_trans r0 (Nat.add_le_add_right hn1 R)
  have NN1 := Nat.le_trans n0 hn1
  refine K_fin [(0, _), (1, _), (2, _), (3, _)] rfl (?_)
  refine K_reg (Wops_run rfl rfl (Wops_run rfl rfl (Wops_run rfl rfl (Wops_run rfl rfl (Wops_ld (v := .slice s1.oa s1.ops.length s1.oc) rfl G1.m.gk rfl ?_)))))
  refine Wops_run rfl rfl (Wops_run rfl rfl (Wops_run rfl rfl (Wops_run rfl rfl (Wops_run rfl rfl (?_)))))
  obtain ⟨l2, o2, il2⟩ := G1.m.o
  have hops2 : s1.ops.length ≤ 100100 := pot_opsB (K := K) (s := s1) G1.m (by omega)
  refine Wops_bslice (l := [.int .i64 4, .int .u32 0, .int .u32 0, .int .u64 0, .slice none 0 0, _]) rfl rfl fun h2 n2 x2 g2 => ?_
  refine Wops_app (m := 1) rfl rfl (o2.ext x2) rfl (OwS.new (n := 1) (c := 1) g2 rfl).sl.first ⟨by omega, by omega⟩ rfl rfl (by decide) fun hh2 a2 c2 xx2 oo2 b2 => ?_
  refine Wops_run rfl rfl (Wops_run rfl rfl (Wops_st (l := [.slice a2 (s1.ops.length + 1) c2]) rfl rfl rfl rfl ((G1.m.gk.ext x2).ext xx2 fun r => (G1.m.no _ r).2.1 rfl) (by simp) rfl fun h3 nn3 x3 g3 => ?_))
  obtain ⟨s3, G3, hn3, hp3⟩ := G1.push' (k := 1) (os := [4]) (st' := [true]) il2 x2 xx2 rfl oo2 b2 x3 g3 (.one rfl) (fun w q => .iff q)
  have rr3 := Nat.le_trans rr1 (Nat.add_le_add_right hn3 R)
  have NN3 := Nat.le_trans NN1 hn3
  refine K_fin [(0, _), (1, _), (2, _), (3, _)] rfl (?_)
  refine K_reg (Wops_run rfl rfl (Wops_run rfl rfl (Wops_run rfl rfl (Wops_call rfl ((S _ _ (by omega)).go G3 rr3 (by omega)) ?_))))
  rintro _ h4 ⟨s4, G4, hn4, hp4⟩
  have rr4 := Nat.le_trans rr3 (Nat.add_le_add_right hn4 R)
  have NN4 := Nat.le_trans NN3 hn4
  refine K_fin [(0, _), (1, _), (2, _), (3, _)] rfl (?_)
  refine K_reg (Wops_run rfl rfl (Wops_run rfl rfl (Wops_run rfl rfl (Wops_run rfl rfl (Wops_call rfl ((E _ _).go G4 rr4 (by omega)) ?_)))))
  rintro _ h5 ⟨s5, G5, hn5, hp5⟩
  have rr5 := Nat.le_trans rr4 (Nat.add_le_add_right hn5 R)
  have NN5 := Nat.le_trans NN4 hn5
  refine K_fin [(0, _), (1, _), (2, _), (3, _)] rfl (?_)
  refine K_ss (K_reg (Wops_run rfl rfl (Wops_run rfl rfl (Wops_run rfl rfl (Wops_ld (v := ptr K.pp) rfl G5.m.gk rfl ?_)))))
  refine Wops_call rfl (G5.c48 (by decide)) ?_
  rintro _ h6 ⟨r6, n6, rfl, hr6, G6, hn6, hp6, hu6, hz6, x6⟩
  have rr6 := Nat.le_trans rr5 (Nat.add_le_add_right hn6 R)
  have NN6 := Nat.le_trans NN5 hn6
  refine Wops_run rfl rfl (K_fin [(0, _), (1, _), (2, _), (3, _), (43, _)] rfl (?_))
  obtain ⟨s7, G7, hn7, hp7⟩ : ∃ q, Go K h s h6 q [true] ∧ ({ s5 with n := n6 } : St).n ≤ q.n ∧ pot K q ≤ pot K ({ s5 with n := n6 } : St) := ⟨_, G6, Nat.le_refl _, Int.le_refl _⟩
  have rr7 := Nat.le_trans rr6 (Nat.add_le_add_right hn7 R)
  have NN7 := Nat.le_trans NN6 hn7
  refine K_scond rfl (fun hc => ?_) (fun hc => ?_)
  · refine K_ss (K_reg (Wops_run rfl rfl (Wops_run rfl rfl (Wops_run rfl rfl (Wops_call rfl ((E _ _).go G7 rr7 (by omega)) ?_)))))
    rintro _ h8 ⟨s8, G8, hn8, hp8⟩
    have rr8 := Nat.le_trans rr7 (Nat.add_le_add_right hn8 R)
    have NN8 := Nat.le_trans NN7 hn8
    refine K_fin [(0, _), (1, _), (2, _), (3, _)] rfl (?_)
    refine K_reg (Wops_run rfl rfl (Wops_call rfl (G8.c63 (st' := [true]) (by omega) (fun w q => .plain q (by decide))) ?_))
    rintro _ h9 ⟨s9, G9, hn9, hp9⟩
    have rr9 := Nat.le_trans rr8 (Nat.add_le_add_right hn9 R)
    have NN9 := Nat.le_trans NN8 hn9
    refine K_fin [(0, _), (1, _), (2, _), (3, _)] rfl (?_)
    refine K_ss (K_reg (Wops_run rfl rfl (Wops_run rfl rfl (K_fin [(0, _), (2, _), (3, _), (51, _)] rfl (?_)))))
    refine K_scond rfl (fun _ => ?_) (fun hc => absurd hc (by decide))
    refine K_ss (K_reg (Wops_run rfl rfl (Wops_call rfl (G9.c64 (st' := [false]) (by omega) (fun w q => .els q)) ?_)))
    rintro _ h10 ⟨s10, G10, hn10, hp10⟩
    have rr10 := Nat.le_trans rr9 (Nat.add_le_add_right hn10 R)
    have NN10 := Nat.le_trans NN9 hn10
    refine K_fin [(0, _), (2, _), (3, _)] rfl (?_)
    refine K_reg (Wops_run rfl rfl (Wops_run rfl rfl (Wops_run rfl rfl (Wops_run rfl rfl (Wops_call rfl ((E _ _).go G10 rr10 (by omega)) ?_)))))
    rintro _ h11 ⟨s11, G11, hn11, hp11⟩
    have rr11 := Nat.le_trans rr10 (Nat.add_le_add_right hn11 R)
    have NN11 := Nat.le_trans NN10 hn11
    refine K_fin [(0, _)] rfl (?_)
    refine K_reg (Wops_run rfl rfl (Wops_call rfl (G11.c64 (st' := []) (by omega) (fun w q => .shut q)) ?_))
    rintro _ h12 ⟨s12, G12, hn12, hp12⟩
    have rr12 := Nat.le_trans rr11 (Nat.add_le_add_right hn12 R)
    have NN12 := Nat.le_trans NN11 hn12
    refine K_fin [(0, _)] rfl (?_)
    refine K_last (Wops_run rfl rfl (Wops_run rfl rfl (Wops_run rfl rfl (Wops_ld (v := .int .i64 s12.deep) rfl G12.m.gk rfl ?_))))
    refine Wops_run rfl rfl (Wops_run rfl rfl (Wops_run rfl rfl (Wops_st (l := [.int .i64 _]) rfl rfl rfl rfl G12.m.gk (by simp) rfl fun h13 nn13 x13 g13 => ?_)))
    obtain ⟨s13, G13, hn13, hp13⟩ := G12.deep' x13 g13
    have rr13 := Nat.le_trans rr12 (Nat.add_le_add_right hn13 R)
    have NN13 := Nat.le_trans NN12 hn13
    refine K_finL [] rfl (?_)
    exact Told.mk [] rfl ⟨_, G13, NN13, by omega⟩
  · refine K_sskip (K_ss (K_reg (Wops_run rfl rfl (Wops_run rfl rfl (K_fin [(0, _), (2, _), (3, _), (51, _)] rfl (?_))))))
    refine K_scond rfl (fun _ => ?_) (fun hc => absurd hc (by decide))
    refine K_ss (K_reg (Wops_run rfl rfl (Wops_call rfl (G7.c64 (st' := [false]) (by omega) (fun w q => .els q)) ?_)))
    rintro _ h14 ⟨s14, G14, hn14, hp14⟩
    have rr14 := Nat.le_trans rr7 (Nat.add_le_add_right hn14 R)
    have NN14 := Nat.le_trans NN7 hn14
    refine K_fin [(0, _), (2, _), (3, _)] rfl (?_)
    refine K_reg (Wops_run rfl rfl (Wops_run rfl rfl (Wops_run rfl rfl (Wops_run rfl rfl (Wops_call rfl ((E _ _).go G14 rr14 (by omega)) ?_)))))
    rintro _ h15 ⟨s15, G15, hn15, hp15⟩
    have rr15 := Nat.le_trans rr14 (Nat.add_le_add_right hn15 R)
    have NN15 := Nat.le_trans NN14 hn15
    refine K_fin [(0, _)] rfl (?_)
    refine K_reg (Wops_run rfl rfl (Wops_call rfl (G15.c64 (st' := []) (by omega) (fun w q => .shut q)) ?_))
    rintro _ h16 ⟨s16, G16, hn16, hp16⟩
    have rr16 := Nat.le_trans rr15 (Nat.add_le_add_right hn16 R)
    have NN16 := Nat.le_trans NN15 hn16
    refine K_fin [(0, _)] rfl (?_)
    refine K_last (Wops_run rfl rfl (Wops_run rfl rfl (Wops_run rfl rfl (Wops_ld (v := .int .i64 s16.deep) rfl G16.m.gk rfl ?_))))
    refine Wops_run rfl rfl (Wops_run rfl rfl (Wops_run rfl rfl (Wops_st (l := [.int .i64 _]) rfl rfl rfl rfl G16.m.gk (by simp) rfl fun h17 nn17 x17 g17 => ?_)))
    obtain ⟨s17, G17, hn17, hp17⟩ := G16.deep' x17 g17
    have rr17 := Nat.le_trans rr16 (Nat.add_le_add_right hn17 R)
    have NN17 := Nat.le_trans NN16 hn17
    refine K_finL [] rfl (?_)
    exact Told.mk [] rfl ⟨_, G17, NN17, by omega⟩

set_option maxHeartbeats 4000000 in
/-- (*cloakroom/cloakroomplay.maker).loop -/
theorem E76 {K : Kt} {R : Nat} (S : ∀ n d, n ≤ 1000 → CF K R 49 [ptr K.pk, .int .i64 n, .int .i64 d] 0 100000) {d : Int} : CF K R 76 [ptr K.pk, .int .i64 d] 14 99975 := by
  intro h s m r0 p0
  have G0 := Go.refl m
  have n0 := Nat.le_refl s.n
  refine fnK F76.fok rfl ?_
  refine K_reg (Wops_run rfl rfl (Wops_run rfl rfl (Wops_run rfl rfl (Wops_ld (v := .slice K.la K.ls.length K.lc) rfl G0.m.gk rfl ?_))))
  refine Wops_run rfl rfl (Wops_run rfl rfl (Wops_run rfl rfl (Wops_run rfl rfl (K_fin [(0, _), (1, _), (4, _)] rfl (?_)))))
  refine K_ss (K_reg (Wops_run rfl rfl (Wops_run rfl rfl (Wops_run rfl rfl (Wops_ld (v := .int .i64 s.deep) rfl G0.m.gk rfl ?_)))))
  refine Wops_run rfl rfl (K_fin [(0, _), (1, _), (4, _), (16, _)] rfl (?_))
  refine K_scond rfl (fun hc => ?_) (fun hc => ?_)
  · refine K_ss (K_reg (Wops_run rfl rfl (Wops_call rfl (G0.c64 (st' := []) (by omega) (fun w q => .plain q (by decide))) ?_)))
    rintro _ h1 ⟨s1, G1, hn1, hp1⟩
    have rr1 := Nat.le_trans r0 (Nat.add_le_add_right hn1 R)
    have NN1 := Nat.le_trans n0 hn1
    refine K_fin [] rfl (?_)
    refine K_sret ?_
    exact Told.mk [] rfl ⟨_, G1, NN1, by omega⟩
  · refine K_sskip (K_reg (Wops_run rfl rfl (Wops_run rfl rfl (Wops_run rfl rfl (Wops_run rfl rfl (Wops_ld (v := .int .i64 s.deep) rfl G0.m.gk rfl ?_))))))
    refine Wops_run rfl rfl (Wops_run rfl rfl (Wops_run rfl rfl (Wops_st (l := [.int .i64 _]) rfl rfl rfl rfl G0.m.gk (by simp) rfl fun h2 nn2 x2 g2 => ?_)))
    obtain ⟨s2, G2, hn2, hp2⟩ := G0.deep' x2 g2
    have rr2 := Nat.le_trans r0 (Nat.add_le_add_right hn2 R)
    have NN2 := Nat.le_trans n0 hn2
    refine K_fin [(0, _), (1, _), (4, _)] rfl (?_)
    refine K_reg (Wops_run rfl rfl (Wops_run rfl rfl (Wops_run rfl rfl (Wops_run rfl rfl (Wops_ld (v := ptr K.pp) rfl G2.m.gk rfl ?_)))))
    refine Wops_call rfl (G2.c48 (by decide)) ?_
    rintro _ h3 ⟨r3, n3, rfl, hr3, G3, hn3, hp3, hu3, hz3, x3⟩
    have rr3 := Nat.le_trans rr2 (Nat.add_le_add_right hn3 R)
    have NN3 := Nat.le_trans NN2 hn3
    refine Wops_run rfl rfl (Wops_call rfl (G3.c60 (by omega)) ?_)
    rintro _ h4 ⟨s4, G4, hn4, hp4⟩
    have rr4 := Nat.le_trans rr3 (Nat.add_le_add_right hn4 R)
    have NN4 := Nat.le_trans NN3 hn4
    refine K_fin [(0, _), (1, _), (4, _)] rfl (?_)
    refine K_reg (Wops_run rfl rfl (Wops_run rfl rfl (Wops_call rfl (G4.c63 (st' := []) (by omega) (fun w q => .plain q (by decide))) ?_)))
    rintro _ h5 ⟨s5, G5, hn5, hp5⟩
    have rr5 := Nat.le_trans rr4 (Nat.add_le_add_right hn5 R)
    have NN5 := Nat.le_trans NN4 hn5
    refine K_fin [(0, _), (1, _), (4, _)] rfl (?_)
    refine K_reg (Wops_run rfl rfl (Wops_run rfl rfl (Wops_run rfl rfl (Wops_run rfl rfl (Wops_ld (v := .slice s5.oa s5.ops.length s5.oc) rfl G5.m.gk rfl ?_)))))
    refine Wops_run rfl rfl (Wops_run rfl rfl (?_))
    obtain ⟨l6, o6, il6⟩ := G5.m.o
    have hops6 : s5.ops.length ≤ 100100 := pot_opsB (K := K) (s := s5) G5.m (by omega)
    refine Wops_bslice (l := [.int .i64 2, .int .u32 0, .int .u32 0, .int .u64 0, .slice none 0 0, _, .int .i64 3, .int .u32 0, .int .u32 0, .int .u64 0, .slice none 0 0, _]) rfl rfl fun h6 n6 x6 g6 => ?_
    refine Wops_app (m := 2) rfl rfl (o6.ext x6) rfl (OwS.new (n := 2) (c := 1) g6 rfl).sl.first ⟨by omega, by omega⟩ rfl rfl (by decide) fun hh6 a6 c6 xx6 oo6 b6 => ?_
    refine Wops_run rfl rfl (Wops_run rfl rfl (Wops_st (l := [.slice a6 (s5.ops.length + 2) c6]) rfl rfl rfl rfl ((G5.m.gk.ext x6).ext xx6 fun r => (G5.m.no _ r).2.1 rfl) (by simp) rfl fun h7 nn7 x7 g7 => ?_))
    obtain ⟨s7, G7, hn7, hp7⟩ := G5.push' (k := 2) (os := [2, 3]) (st' := [false, false]) il6 x6 xx6 rfl oo6 b6 x7 g7 (.two rfl rfl) (fun w q => by have := Opn.blk (Opn.blk q (.inl rfl)) (.inr rfl); simpa using this)
    have rr7 := Nat.le_trans rr5 (Nat.add_le_add_right hn7 R)
    have NN7 := Nat.le_trans NN5 hn7
    refine K_fin [(0, _), (1, _), (4, _)] rfl (?_)
    refine K_reg (Wops_run rfl rfl (Wops_run rfl rfl (Wops_call rfl (G7.c63 (st' := [false, false]) (by omega) (fun w q => .plain q (by decide))) ?_)))
    rintro _ h8 ⟨s8, G8, hn8, hp8⟩
    have rr8 := Nat.le_trans rr7 (Nat.add_le_add_right hn8 R)
    have NN8 := Nat.le_trans NN7 hn8
    refine K_fin [(0, _), (1, _), (4, _)] rfl (?_)
    refine K_reg (Wops_run rfl rfl (Wops_call rfl (G8.c64 (st' := [false, false]) (by omega) (fun w q => .plain q (by decide))) ?_))
    rintro _ h9 ⟨s9, G9, hn9, hp9⟩
    have rr9 := Nat.le_trans rr8 (Nat.add_le_add_right hn9 R)
    have NN9 := Nat.le_trans NN8 hn9
    refine K_fin [(0, _), (1, _), (4, _)] rfl (?_)
    refine K_reg (Wops_run rfl rfl (Wops_call rfl (G9.c63 (st' := [false, false]) (by omega) (fun w q => .plain q (by decide))) ?_))
    rintro _ h10 ⟨s10, G10, hn10, hp10⟩
    have rr10 := Nat.le_trans rr9 (Nat.add_le_add_right hn10 R)
    have NN10 := Nat.le_trans NN9 hn10
    refine K_fin [(0, _), (1, _), (4, _)] rfl (?_)
    refine K_reg (Wops_run rfl rfl (Wops_run rfl rfl (Wops_call rfl (G10.c63 (st' := [false, false]) (by omega) (fun w q => .plain q (by decide))) ?_)))
    rintro _ h11 ⟨s11, G11, hn11, hp11⟩
    have rr11 := Nat.le_trans rr10 (Nat.add_le_add_right hn11 R)
    have NN11 := Nat.le_trans NN10 hn11
    refine K_fin [(0, _), (1, _), (4, _)] rfl (?_)
    refine K_reg (Wops_run rfl rfl (Wops_call rfl (G11.c60 (by omega)) ?_))
    rintro _ h12 ⟨s12, G12, hn12, hp12⟩
    have rr12 := Nat.le_trans rr11 (Nat.add_le_add_right hn12 R)
    have NN12 := Nat.le_trans NN11 hn12
    refine K_fin [(0, _), (1, _), (4, _)] rfl (?_)
    refine K_reg (Wops_run rfl rfl (Wops_call rfl (G12.c64 (st' := [false, false]) (by omega) (fun w q => .plain q (by decide))) ?_))
    rintro _ h13 ⟨s13, G13, hn13, hp13⟩
    have rr13 := Nat.le_trans rr12 (Nat.add_le_add_right hn13 R)
    have NN13 := Nat.le_trans NN12 hn13
    refine K_fin [(0, _), (1, _), (4, _)] rfl (?_)
    refine K_reg (Wops_run rfl rfl (Wops_run rfl rfl (Wops_call rfl (G13.c63 (st' := [false, false]) (by omega) (fun w q => .plain q (by decide))) ?_)))
    rintro _ h14 ⟨s14, G14, hn14, hp14⟩
    have rr14 := Nat.le_trans rr13 (Nat.add_le_add_right hn14 R)
    have NN14 := Nat.le_trans NN13 hn14
    refine K_fin [(0, _), (1, _)] rfl (?_)
    refine K_reg (Wops_run rfl rfl (Wops_run rfl rfl (Wops_run rfl rfl (Wops_run rfl rfl (Wops_ld (v := ptr K.pp) rfl G14.m.gk rfl ?_)))))
    refine Wops_call rfl (G14.c48 (by decide)) ?_
    rintro _ h15 ⟨r15, n15, rfl, hr15, G15, hn15, hp15, hu15, hz15, x15⟩
    have rr15 := Nat.le_trans rr14 (Nat.add_le_add_right hn15 R)
    have NN15 := Nat.le_trans NN14 hn15
    refine Wops_as (w := .int .i64 (1 + (r15 : Int))) rfl rfl (by rw [w64 (by omega)]) (Wops_run rfl rfl (Wops_run rfl rfl (Wops_call rfl ((S _ _ (by omega)).go G15 rr15 (by omega)) ?_)))
    rintro _ h16 ⟨s16, G16, hn16, hp16⟩
    have rr16 := Nat.le_trans rr15 (Nat.add_le_add_right hn16 R)
    have NN16 := Nat.le_trans NN15 hn16
    refine K_fin [(0, _)] rfl (?_)
    refine K_reg (Wops_run rfl rfl (Wops_call rfl (G16.c63 (st' := [false, false]) (by omega) (fun w q => .plain q (by decide))) ?_))
    rintro _ h17 ⟨s17, G17, hn17, hp17⟩
    have rr17 := Nat.le_trans rr16 (Nat.add_le_add_right hn17 R)
    have NN17 := Nat.le_trans NN16 hn17
    refine K_fin [(0, _)] rfl (?_)
    refine K_reg (Wops_run rfl rfl (Wops_call rfl (G17.c64 (st' := [false]) (by omega) (fun w q => .shut q)) ?_))
    rintro _ h18 ⟨s18, G18, hn18, hp18⟩
    have rr18 := Nat.le_trans rr17 (Nat.add_le_add_right hn18 R)
    have NN18 := Nat.le_trans NN17 hn18
    refine K_fin [(0, _)] rfl (?_)
    refine K_reg (Wops_run rfl rfl (Wops_call rfl (G18.c64 (st' := []) (by omega) (fun w q => .shut q)) ?_))
    rintro _ h19 ⟨s19, G19, hn19, hp19⟩
    have rr19 := Nat.le_trans rr18 (Nat.add_le_add_right hn19 R)
    have NN19 := Nat.le_trans NN18 hn19
    refine K_fin [(0, _)] rfl (?_)
    refine K_last (Wops_run rfl rfl (Wops_run rfl rfl (Wops_run rfl rfl (Wops_run rfl rfl (Wops_ld (v := .int .i64 s19.deep) rfl G19.m.gk rfl ?_)))))
    refine Wops_run rfl rfl (Wops_run rfl rfl (Wops_run rfl rfl (Wops_st (l := [.int .i64 _]) rfl rfl rfl rfl G19.m.gk (by simp) rfl fun h20 nn20 x20 g20 => ?_)))
    obtain ⟨s20, G20, hn20, hp20⟩ := G19.deep' x20 g20
    have rr20 := Nat.le_trans rr19 (Nat.add_le_add_right hn20 R)
    have NN20 := Nat.le_trans NN19 hn20
    refine K_finL [] rfl (?_)
    exact Told.mk [] rfl ⟨_, G20, NN20, by omega⟩

set_option maxHeartbeats 4000000 in
/-- (*cloakroom/cloakroomplay.maker).jumps -/
theorem E77 {K : Kt} {R : Nat} (E : ∀ t d, CF K R 50 [ptr K.pk, .int .u8 t, .int .i64 d] 1 100000) (S : ∀ n d, n ≤ 1000 → CF K R 49 [ptr K.pk, .int .i64 n, .int .i64 d] 0 100000) {d : Int} : CF K R 77 [ptr K.pk, .int .i64 d] 6 99975 := by
  intro h s m r0 p0
  have G0 := Go.refl m
  have n0 := Nat.le_refl s.n
  refine fnK F77.fok rfl ?_
  refine K_ss (K_reg (Wops_run rfl rfl (Wops_run rfl rfl (Wops_run rfl rfl (Wops_ld (v := .int .i64 s.deep) rfl G0.m.gk rfl ?_)))))
  refine Wops_run rfl rfl (K_fin [(0, _), (1, _), (8, _)] rfl (?_))
  refine K_scond rfl (fun hc => ?_) (fun hc => ?_)
  · refine K_ss (K_reg (Wops_run rfl rfl (Wops_call rfl (G0.c64 (st' := []) (by omega) (fun w q => .plain q (by decide))) ?_)))
    rintro _ h1 ⟨s1, G1, hn1, hp1⟩
    have rr1 := Nat.le_trans r0 (Nat.add_le_add_right hn1 R)
    have NN1 := Nat.le_trans n0 hn1
    refine K_fin [] rfl (?_)
    refine K_sret ?_
    exact Told.mk [] rfl ⟨_, G1, NN1, by omega⟩
  · refine K_sskip (K_reg (Wops_run rfl rfl (Wops_run rfl rfl (Wops_run rfl rfl (Wops_ld (v := .int .i64 s.deep) rfl G0.m.gk rfl ?_)))))
    refine Wops_run rfl rfl (Wops_run rfl rfl (Wops_run rfl rfl (Wops_st (l := [.int .i64 _]) rfl rfl rfl rfl G0.m.gk (by simp) rfl fun h2 nn2 x2 g2 => ?_)))
    obtain ⟨s2, G2, hn2, hp2⟩ := G0.deep' x2 g2
    have rr2 := Nat.le_trans r0 (Nat.add_le_add_right hn2 R)
    have NN2 := Nat.le_trans n0 hn2
    refine K_fin [(0, _), (1, _)] rfl (?_)
    refine K_reg (Wops_run rfl rfl (Wops_run rfl rfl (Wops_run rfl rfl (Wops_run rfl rfl (Wops_ld (v := .slice s2.oa s2.ops.length s2.oc) rfl G2.m.gk rfl ?_)))))
    refine Wops_run rfl rfl (?_)
    obtain ⟨l3, o3, il3⟩ := G2.m.o
    have hops3 : s2.ops.length ≤ 100100 := pot_opsB (K := K) (s := s2) G2.m (by omega)
    refine Wops_bslice (l := [.int .i64 2, .int .u32 0, .int .u32 0, .int .u64 0, .slice none 0 0, _]) rfl rfl fun h3 n3 x3 g3 => ?_
    refine Wops_app (m := 1) rfl rfl (o3.ext x3) rfl (OwS.new (n := 1) (c := 1) g3 rfl).sl.first ⟨by omega, by omega⟩ rfl rfl (by decide) fun hh3 a3 c3 xx3 oo3 b3 => ?_
    refine Wops_run rfl rfl (Wops_run rfl rfl (Wops_st (l := [.slice a3 (s2.ops.length + 1) c3]) rfl rfl rfl rfl ((G2.m.gk.ext x3).ext xx3 fun r => (G2.m.no _ r).2.1 rfl) (by simp) rfl fun h4 nn4 x4 g4 => ?_))
    obtain ⟨s4, G4, hn4, hp4⟩ := G2.push' (k := 1) (os := [2]) (st' := [false]) il3 x3 xx3 rfl oo3 b3 x4 g4 (.one rfl) (fun w q => .blk q (.inl rfl))
    have rr4 := Nat.le_trans rr2 (Nat.add_le_add_right hn4 R)
    have NN4 := Nat.le_trans NN2 hn4
    refine K_fin [(0, _), (1, _)] rfl (?_)
    refine K_ss (K_reg (Wops_run rfl rfl (Wops_run rfl rfl (Wops_run rfl rfl (Wops_ld (v := ptr K.pp) rfl G4.m.gk rfl ?_)))))
    refine Wops_call rfl (G4.c48 (by decide)) ?_
    rintro _ h5 ⟨r5, n5, rfl, hr5, G5, hn5, hp5, hu5, hz5, x5⟩
    have rr5 := Nat.le_trans rr4 (Nat.add_le_add_right hn5 R)
    have NN5 := Nat.le_trans NN4 hn5
    refine K_fin [(0, _), (1, _), (32, _)] rfl (?_)
    obtain ⟨s6, G6, hn6, hp6⟩ : ∃ q, Go K h s h5 q [false] ∧ ({ s4 with n := n5 } : St).n ≤ q.n ∧ pot K q ≤ pot K ({ s4 with n := n5 } : St) := ⟨_, G5, Nat.le_refl _, Int.le_refl _⟩
    have rr6 := Nat.le_trans rr5 (Nat.add_le_add_right hn6 R)
    have NN6 := Nat.le_trans NN5 hn6
    refine K_sblock ?_
    refine K_reg (Wops_run rfl rfl (Wops_run rfl rfl (K_fin [(0, _), (1, _), (32, _), (43, _)] rfl (?_))))
    refine K_cond rfl (fun hc => ?_) (fun hc => ?_)
    · refine K_reg (Wops_run rfl rfl (Wops_run rfl rfl (Wops_run rfl rfl (Wops_call rfl ((E _ _).go G6 rr6 (by omega)) ?_))))
      rintro _ h7 ⟨s7, G7, hn7, hp7⟩
      have rr7 := Nat.le_trans rr6 (Nat.add_le_add_right hn7 R)
      have NN7 := Nat.le_trans NN6 hn7
      refine K_fin [(0, _)] rfl (?_)
      refine K_last (Wops_run rfl rfl (Wops_run rfl rfl (Wops_run rfl rfl (Wops_run rfl rfl (Wops_ld (v := .slice s7.oa s7.ops.length s7.oc) rfl G7.m.gk rfl ?_)))))
      refine Wops_bslice (l := ints .u32 [0, 0]) rfl rfl fun h8 n8 x8 g8 => ?_
      have G8 := G7.ext0 x8
      refine Wops_run rfl rfl (?_)
      obtain ⟨l9, o9, il9⟩ := G8.m.o
      have hops9 : s7.ops.length ≤ 100100 := pot_opsB (K := K) (s := s7) G8.m (by omega)
      refine Wops_bslice (l := [.int .i64 14, _, .int .u32 0, .int .u64 0, _, .int .i64 0]) rfl rfl fun h9 n9 x9 g9 => ?_
      refine Wops_app (m := 1) rfl rfl (o9.ext x9) rfl (OwS.new (n := 1) (c := 1) g9 rfl).sl.first ⟨by omega, by omega⟩ rfl rfl (by decide) fun hh9 a9 c9 xx9 oo9 b9 => ?_
      refine Wops_run rfl rfl (Wops_run rfl rfl (Wops_st (l := [.slice a9 (s7.ops.length + 1) c9]) rfl rfl rfl rfl ((G8.m.gk.ext x9).ext xx9 fun r => (G8.m.no _ r).2.1 rfl) (by simp) rfl fun h10 nn10 x10 g10 => ?_))
      obtain ⟨s10, G10, hn10, hp10⟩ := G8.push' (k := 1) (os := [14]) (st' := [false]) il9 x9 xx9 rfl oo9 b9 x10 g10 (.one rfl) (fun w q => .plain q (by decide))
      have rr10 := Nat.le_trans rr7 (Nat.add_le_add_right hn10 R)
      have NN10 := Nat.le_trans NN7 hn10
      refine K_finL [(0, _)] rfl (?_)
      refine K_reg (Wops_run rfl rfl (Wops_call rfl (G10.c64 (st' := []) (by omega) (fun w q => .shut q)) ?_))
      rintro _ h11 ⟨s11, G11, hn11, hp11⟩
      have rr11 := Nat.le_trans rr10 (Nat.add_le_add_right hn11 R)
      have NN11 := Nat.le_trans NN10 hn11
      refine K_fin [(0, _)] rfl (?_)
      refine K_last (Wops_run rfl rfl (Wops_run rfl rfl (Wops_run rfl rfl (Wops_ld (v := .int .i64 s11.deep) rfl G11.m.gk rfl ?_))))
      refine Wops_run rfl rfl (Wops_run rfl rfl (Wops_run rfl rfl (Wops_st (l := [.int .i64 _]) rfl rfl rfl rfl G11.m.gk (by simp) rfl fun h12 nn12 x12 g12 => ?_)))
      obtain ⟨s12, G12, hn12, hp12⟩ := G11.deep' x12 g12
      have rr12 := Nat.le_trans rr11 (Nat.add_le_add_right hn12 R)
      have NN12 := Nat.le_trans NN11 hn12
      refine K_finL [] rfl (?_)
      exact Told.mk [] rfl ⟨_, G12, NN12, by omega⟩
    · refine K_reg (Wops_run rfl rfl (Wops_run rfl rfl (K_fin [(0, _), (1, _), (32, _), (60, _)] rfl (?_))))
      refine K_cond rfl (fun hc => ?_) (fun hc => ?_)
      · refine K_reg (Wops_run rfl rfl (Wops_call rfl (G6.c63 (st' := [false]) (by omega) (fun w q => .plain q (by decide))) ?_))
        rintro _ h13 ⟨s13, G13, hn13, hp13⟩
        have rr13 := Nat.le_trans rr6 (Nat.add_le_add_right hn13 R)
        have NN13 := Nat.le_trans NN6 hn13
        refine K_fin [(0, _), (1, _)] rfl (?_)
        refine K_last (Wops_run rfl rfl (Wops_run rfl rfl (Wops_run rfl rfl (Wops_call rfl ((S _ _ (by omega)).go G13 rr13 (by omega)) ?_))))
        rintro _ h14 ⟨s14, G14, hn14, hp14⟩
        have rr14 := Nat.le_trans rr13 (Nat.add_le_add_right hn14 R)
        have NN14 := Nat.le_trans NN13 hn14
        refine K_finL [(0, _)] rfl (?_)
        refine K_reg (Wops_run rfl rfl (Wops_call rfl (G14.c64 (st' := []) (by omega) (fun w q => .shut q)) ?_))
        rintro _ h15 ⟨s15, G15, hn15, hp15⟩
        have rr15 := Nat.le_trans rr14 (Nat.add_le_add_right hn15 R)
        have NN15 := Nat.le_trans NN14 hn15
        refine K_fin [(0, _)] rfl (?_)
        refine K_last (Wops_run rfl rfl (Wops_run rfl rfl (Wops_run rfl rfl (Wops_ld (v := .int .i64 s15.deep) rfl G15.m.gk rfl ?_))))
        refine Wops_run rfl rfl (Wops_run rfl rfl (Wops_run rfl rfl (Wops_st (l := [.int .i64 _]) rfl rfl rfl rfl G15.m.gk (by simp) rfl fun h16 nn16 x16 g16 => ?_)))
        obtain ⟨s16, G16, hn16, hp16⟩ := G15.deep' x16 g16
        have rr16 := Nat.le_trans rr15 (Nat.add_le_add_right hn16 R)
        have NN16 := Nat.le_trans NN15 hn16
        refine K_finL [] rfl (?_)
        exact Told.mk [] rfl ⟨_, G16, NN16, by omega⟩
      · refine K_reg (Wops_run rfl rfl (Wops_run rfl rfl (K_fin [(0, _), (1, _), (68, _)] rfl (?_))))
        refine K_cond rfl (fun hc => ?_) (fun hc => ?_)
        · refine K_reg (Wops_run rfl rfl (Wops_run rfl rfl (Wops_run rfl rfl (Wops_call rfl ((E _ _).go G6 rr6 (by omega)) ?_))))
          rintro _ h17 ⟨s17, G17, hn17, hp17⟩
          have rr17 := Nat.le_trans rr6 (Nat.add_le_add_right hn17 R)
          have NN17 := Nat.le_trans NN6 hn17
          refine K_fin [(0, _)] rfl (?_)
          refine K_reg (Wops_run rfl rfl (Wops_run rfl rfl (Wops_run rfl rfl (Wops_run rfl rfl (Wops_ld (v := .slice s17.oa s17.ops.length s17.oc) rfl G17.m.gk rfl ?_)))))
          refine Wops_run rfl rfl (?_)
          obtain ⟨l18, o18, il18⟩ := G17.m.o
          have hops18 : s17.ops.length ≤ 100100 := pot_opsB (K := K) (s := s17) G17.m (by omega)
          refine Wops_bslice (l := [.int .i64 4, .int .u32 0, .int .u32 0, .int .u64 0, .slice none 0 0, _]) rfl rfl fun h18 n18 x18 g18 => ?_
          refine Wops_app (m := 1) rfl rfl (o18.ext x18) rfl (OwS.new (n := 1) (c := 1) g18 rfl).sl.first ⟨by omega, by omega⟩ rfl rfl (by decide) fun hh18 a18 c18 xx18 oo18 b18 => ?_
          refine Wops_run rfl rfl (Wops_run rfl rfl (Wops_st (l := [.slice a18 (s17.ops.length + 1) c18]) rfl rfl rfl rfl ((G17.m.gk.ext x18).ext xx18 fun r => (G17.m.no _ r).2.1 rfl) (by simp) rfl fun h19 nn19 x19 g19 => ?_))
          obtain ⟨s19, G19, hn19, hp19⟩ := G17.push' (k := 1) (os := [4]) (st' := [true, false]) il18 x18 xx18 rfl oo18 b18 x19 g19 (.one rfl) (fun w q => .iff q)
          have rr19 := Nat.le_trans rr17 (Nat.add_le_add_right hn19 R)
          have NN19 := Nat.le_trans NN17 hn19
          refine K_fin [(0, _)] rfl (?_)
          refine K_reg (Wops_run rfl rfl (Wops_bslice (l := ints .i64 [0, 1, 15]) rfl rfl fun h20 n20 x20 g20 => ?_))
          have G20 := G19.ext0 x20
          refine Wops_run rfl rfl (Wops_run rfl rfl (Wops_run rfl rfl (Wops_ld (v := ptr K.pp) rfl G20.m.gk rfl ?_)))
          refine Wops_call rfl (G20.c48 (by decide)) ?_
          rintro _ h21 ⟨r21, n21, rfl, hr21, G21, hn21, hp21, hu21, hz21, x21⟩
          have g20x21 : At h21 h19.next (.cells (ints .i64 [0, 1, 15]) 1 false) := At.ext (S := (· = K.pp)) g20 x21 (by have := G19.m.lt; omega)
          have rr21 := Nat.le_trans rr19 (Nat.add_le_add_right hn21 R)
          have NN21 := Nat.le_trans NN19 hn21
          refine Wops_iaV rfl rfl ⟨by omega, by omega⟩ (Wops_ld (v := .int .i64 (([0, 1, 15] : List Int).getD r21 0)) rfl g20x21 (by rw [Nat.zero_add, Nat.mul_one]; exact ints_getD (L := [0, 1, 15]) (show r21 < 3 by omega)) ?_)
          refine Wops_call rfl (G21.c64 (st' := [true, false]) (by omega) (fun w q => .plain q (getD_all (L := ([0, 1, 15] : List Int)) (by decide) (show r21 < 3 by omega)))) ?_
          rintro _ h22 ⟨s22, G22, hn22, hp22⟩
          have rr22 := Nat.le_trans rr21 (Nat.add_le_add_right hn22 R)
          have NN22 := Nat.le_trans NN21 hn22
          refine K_fin [(0, _)] rfl (?_)
          refine K_last (Wops_run rfl rfl (Wops_call rfl (G22.c64 (st' := [false]) (by omega) (fun w q => .shut q)) ?_))
          rintro _ h23 ⟨s23, G23, hn23, hp23⟩
          have rr23 := Nat.le_trans rr22 (Nat.add_le_add_right hn23 R)
          have NN23 := Nat.le_trans NN22 hn23
          refine K_finL [(0, _)] rfl (?_)
          refine K_reg (Wops_run rfl rfl (Wops_call rfl (G23.c64 (st' := []) (by omega) (fun w q => .shut q)) ?_))
          rintro _ h24 ⟨s24, G24, hn24, hp24⟩
          have rr24 := Nat.le_trans rr23 (Nat.add_le_add_right hn24 R)
          have NN24 := Nat.le_trans NN23 hn24
          refine K_fin [(0, _)] rfl (?_)
          refine K_last (Wops_run rfl rfl (Wops_run rfl rfl (Wops_run rfl rfl (Wops_ld (v := .int .i64 s24.deep) rfl G24.m.gk rfl ?_))))
          refine Wops_run rfl rfl (Wops_run rfl rfl (Wops_run rfl rfl (Wops_st (l := [.int .i64 _]) rfl rfl rfl rfl G24.m.gk (by simp) rfl fun h25 nn25 x25 g25 => ?_)))
          obtain ⟨s25, G25, hn25, hp25⟩ := G24.deep' x25 g25
          have rr25 := Nat.le_trans rr24 (Nat.add_le_add_right hn25 R)
          have NN25 := Nat.le_trans NN24 hn25
          refine K_finL [] rfl (?_)
          exact Told.mk [] rfl ⟨_, G25, NN25, by omega⟩
        · refine K_reg (Wops_run rfl rfl (Wops_run rfl rfl (Wops_run rfl rfl (Wops_call rfl ((E _ _).go G6 rr6 (by omega)) ?_))))
          rintro _ h26 ⟨s26, G26, hn26, hp26⟩
          have rr26 := Nat.le_trans rr6 (Nat.add_le_add_right hn26 R)
          have NN26 := Nat.le_trans NN6 hn26
          refine K_fin [(0, _), (1, _)] rfl (?_)
          refine K_reg (Wops_run rfl rfl (Wops_call rfl (G26.c63 (st' := [false]) (by omega) (fun w q => .plain q (by decide))) ?_))
          rintro _ h27 ⟨s27, G27, hn27, hp27⟩
          have rr27 := Nat.le_trans rr26 (Nat.add_le_add_right hn27 R)
          have NN27 := Nat.le_trans NN26 hn27
          refine K_fin [(0, _), (1, _)] rfl (?_)
          refine K_last (Wops_run rfl rfl (Wops_run rfl rfl (Wops_run rfl rfl (Wops_call rfl ((S _ _ (by omega)).go G27 rr27 (by omega)) ?_))))
          rintro _ h28 ⟨s28, G28, hn28, hp28⟩
          have rr28 := Nat.le_trans rr27 (Nat.add_le_add_right hn28 R)
          have NN28 := Nat.le_trans NN27 hn28
          refine K_finL [(0, _)] rfl (?_)
          refine K_reg (Wops_run rfl rfl (Wops_call rfl (G28.c64 (st' := []) (by omega) (fun w q => .shut q)) ?_))
          rintro _ h29 ⟨s29, G29, hn29, hp29⟩
          have rr29 := Nat.le_trans rr28 (Nat.add_le_add_right hn29 R)
          have NN29 := Nat.le_trans NN28 hn29
          refine K_fin [(0, _)] rfl (?_)
          refine K_last (Wops_run rfl rfl (Wops_run rfl rfl (Wops_run rfl rfl (Wops_ld (v := .int .i64 s29.deep) rfl G29.m.gk rfl ?_))))
          refine Wops_run rfl rfl (Wops_run rfl rfl (Wops_run rfl rfl (Wops_st (l := [.int .i64 _]) rfl rfl rfl rfl G29.m.gk (by simp) rfl fun h30 nn30 x30 g30 => ?_)))
          obtain ⟨s30, G30, hn30, hp30⟩ := G29.deep' x30 g30
          have rr30 := Nat.le_trans rr29 (Nat.add_le_add_right hn30 R)
          have NN30 := Nat.le_trans NN29 hn30
          refine K_finL [] rfl (?_)
          exact Told.mk [] rfl ⟨_, G30, NN30, by omega⟩


end
end Go.Dx.SYtfhdeagbgdnkaaa
