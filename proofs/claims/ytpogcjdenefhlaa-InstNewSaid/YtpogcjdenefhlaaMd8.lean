/- Made modules: Module, till its bodies. -/
import Derived.Test.YtpogcjdenefhlaaIn1
namespace Go.Dx.SYtpogcjdenefhlaa
open Go.Proofs
set_option linter.unusedVariables false
set_option linter.unusedSimpArgs false

section
variable {d : Option Nat} {r : List SOp} {e : Env} {h : Heap} {Q : Env → Heap → Prop}
theorem Wops_chkA {off id ez t n : Nat} {a : Arg} {vs l : List Value} {ro : Bool} (ha : a.ev e = some (.pointer (some ⟨id, off, none⟩))) (ht : e.get t = some (.agg ⟨l⟩)) (hg : h.get id = some (.cells vs ez ro)) (hl : off + n ≤ vs.length) (hv : (vs.drop off).take n = l) (hs : sameCells l l = true) (hq : Wops Try.prog r (e.put d undefV) h Q) :
    Wops Try.prog (⟨d, none, .chk n true a t⟩ :: r) e h Q := by
  refine Wops_run (v := undefV) (h' := h) rfl ?_ hq
  simp only [SO.run, ha, ht, ldV_agg hg hl hv, sameV, hs, cond_true]
theorem Wops_mark {x : Arg} {id off len cap ez : Nat} {cs : List Value} (hx : x.ev e = some (.slice (some ⟨id, off, none⟩) len cap)) (hl : 0 < len) (g : h.get id = some (.cells cs ez false)) (hq : Wops Try.prog r (e.put d (.slice (some ⟨id, off, none⟩) len cap)) h Q) :
    Wops Try.prog (⟨d, none, .mark x⟩ :: r) e h Q := by
  refine Wops_run (v := .slice (some ⟨id, off, none⟩) len cap) (h' := h) rfl ?_ hq
  have hb : len.beq 0 = false := by cases len with | zero => omega | succ k => rfl
  simp only [SO.run, hx, hb, cond_false, g]
end
/-- What a module's maker has before its bodies. -/
structure MB (h h' : Heap) (pp : Nat) (xa : Option Addr) (xc : Nat) (xs : List Int) (n hi : Nat) (ta : Option Addr) (tc : Nat) (ty : List Value) (L : List (Nat × List Value × Nat)) : Prop where
  x : Ext (· = pp) h h'
  gp : At h' pp (.cells [.slice xa xs.length xc, .int .i64 (n : Int)] 0 false)
  hn : n ≤ xs.length
  sx : SlA h' 1 xa xs.length xc (ints .u8 xs)
  st : SlA h' 2 ta 6 tc ty
  tS : ∀ i, Blk ta i → h.next < i ∧ i < hi
  tys : Tys h' (fun i => h.next < i ∧ i < hi) ty
  m : Mem h h' L
  hh : hi ≤ h'.next
  pl : pp < h.next
  xS : ∀ i, Blk xa i → i < h.next ∧ i ≠ pp
  xw : ∀ x ∈ xs, 0 ≤ x ∧ x ≤ 255
  xl : xs.length ≤ 1000
section
variable {h h' h2 : Heap} {pp xc n hi tc : Nat} {xa ta : Option Addr} {xs : List Int} {ty : List Value} {L : List (Nat × List Value × Nat)}
theorem Tys.ext {T S : Nat → Prop} (q : Tys h S ty) (x : Ext T h h2) (d : ∀ i, S i → ¬ T i) : Tys h2 S ty := fun j hj => by
  obtain ⟨pa, pn, pc, ps, ra, rn, rc, rs, h1, h2, h3, h4, h5, h6⟩ := q j hj
  exact ⟨pa, pn, pc, ps, ra, rn, rc, rs, h1, h2.ext x fun i r => d i (h4 i r), h3.ext x fun i r => d i (h5 i r), h4, h5, h6⟩
theorem MB.ext0 (b : MB h h' pp xa xc xs n hi ta tc ty L) (x : Ext0 h' h2) : MB h h2 pp xa xc xs n hi ta tc ty L :=
  ⟨b.x.then0 x, b.gp.ext x, b.hn, b.sx.ext x, b.st.ext x, b.tS, b.tys.ext x fun i _ r => r, b.m.ext0 x, Nat.le_trans b.hh x.next, b.pl, b.xS, b.xw, b.xl⟩
/-- A block of one's own is written. -/
theorem MB.set {c : Nat} {L' : List (Nat × List Value × Nat)} (b : MB h h' pp xa xc xs n hi ta tc ty L) (x : Ext (· = c) h' h2) (hc : hi ≤ c) (hc2 : h.next ≤ c) (m : Mem h h2 L') : MB h h2 pp xa xc xs n hi ta tc ty L' := by
  have pl := b.pl
  exact ⟨b.x.then x fun i r => .inr (by omega), b.gp.ext x fun r => by omega, b.hn, b.sx.ext x fun i q r => by have := (b.xS i q).1; omega, b.st.ext x fun i q r => by have := (b.tS i q).2; omega, b.tS, b.tys.ext x fun i q r => by have := q.2; omega, m, Nat.le_trans b.hh x.next, b.pl, b.xS, b.xw, b.xl⟩
theorem MB.c48 {m : Int} (b : MB h h' pp xa xc xs n hi ta tc ty L) (hm : 0 < m) : Fn Try.prog 20 [ptr pp, .int .i64 m] h' fun v h2 => ∃ (r n' : Nat), v = .int .i64 (r : Int) ∧ (r : Int) < m ∧ MB h h2 pp xa xc xs n' hi ta tc ty L ∧ Ext (· = pp) h' h2 :=
  (C20 b.gp b.hn b.sx b.xw b.xl (fun r => (b.xS _ r).2 rfl) hm).mono fun v h2 ⟨r, n', hv, hr, x, gp, h1, h2, h3, h4⟩ => ⟨r, n', hv, hr,
    ⟨b.x.trans x, gp, h2, b.sx.ext x fun i q r => (b.xS i q).2 r, b.st.ext x fun i q r => by have := (b.tS i q).1; have := b.pl; omega, b.tS, b.tys.ext x fun i q r => by have := q.1; have := b.pl; omega, b.m.ext x fun i q r => by have := b.pl; omega, Nat.le_trans b.hh x.next, b.pl, b.xS, b.xw, b.xl⟩, x⟩
/-- What lies behind all that is looked at is written. -/
theorem MB.own {T : Nat → Prop} {L' : List (Nat × List Value × Nat)} (b : MB h h' pp xa xc xs n hi ta tc ty L) (x : Ext T h' h2) (d : ∀ i, T i → hi ≤ i) (o : h.next ≤ hi) (m : Mem h h2 L') : MB h h2 pp xa xc xs n hi ta tc ty L' := by
  have pl := b.pl
  exact ⟨b.x.then x fun i r => .inr (by have := d i r; omega), b.gp.ext x fun r => by have := d _ r; omega, b.hn, b.sx.ext x fun i q r => by have := (b.xS i q).1; have := d i r; omega, b.st.ext x fun i q r => by have := (b.tS i q).2; have := d i r; omega, b.tS, b.tys.ext x fun i q r => by have := q.2; have := d i r; omega, m, Nat.le_trans b.hh x.next, b.pl, b.xS, b.xw, b.xl⟩
end
theorem wU32 {x : Int} (h : 0 ≤ x ∧ x < 4294967296) : IntKind.wrap .u32 x = x := by
  simp [IntKind.wrap, IntKind.signed, IntKind.bits]; omega
abbrev u32s (fs : List Nat) : List Value := fs.map fun (x : Nat) => Value.int .u32 (x : Int)
/-- The same, with what its functions' types are. -/
structure MF (h h' : Heap) (pp : Nat) (xa : Option Addr) (xc : Nat) (xs : List Int) (n hi : Nat) (ta : Option Addr) (tc : Nat) (ty : List Value) (L : List (Nat × List Value × Nat)) (fa : Option Addr) (fc : Nat) (fs : List Nat) (pe q1 pm : Nat) (hB : Heap) : Prop where
  b : MB h h' pp xa xc xs n hi ta tc ty L
  sF : SlA h' 1 fa fs.length fc (u32s fs)
  fb : ∀ i, Blk fa i → pe < i ∧ i < q1
  hq : q1 ≤ h'.next
  o : h.next ≤ hi
  o2 : hi ≤ pe
  o3 : pm ≤ pe
  q0 : hB.next ≤ q1
  y : Ext (fun i => i = pp ∨ i = pm) hB h'
section
variable {h h' h2 hB : Heap} {pp xc n hi tc fc pe q1 pm : Nat} {xa ta fa : Option Addr} {xs : List Int} {ty : List Value} {L : List (Nat × List Value × Nat)} {fs : List Nat}
theorem MF.ext0 (b : MF h h' pp xa xc xs n hi ta tc ty L fa fc fs pe q1 pm hB) (x : Ext0 h' h2) : MF h h2 pp xa xc xs n hi ta tc ty L fa fc fs pe q1 pm hB := ⟨b.b.ext0 x, b.sF.ext x, b.fb, Nat.le_trans b.hq x.next, b.o, b.o2, b.o3, b.q0, b.y.then0 x⟩
theorem MF.c48 {m : Int} (b : MF h h' pp xa xc xs n hi ta tc ty L fa fc fs pe q1 pm hB) (hm : 0 < m) : Fn Try.prog 20 [ptr pp, .int .i64 m] h' fun v h2 => ∃ (r n' : Nat), v = .int .i64 (r : Int) ∧ (r : Int) < m ∧ MF h h2 pp xa xc xs n' hi ta tc ty L fa fc fs pe q1 pm hB ∧ Ext (· = pp) h' h2 :=
  (b.b.c48 hm).mono fun v h2 ⟨r, n', hv, hr, q, x⟩ => ⟨r, n', hv, hr, ⟨q, b.sF.ext x fun i r e => by have := (b.fb i r).1; have := b.b.pl; have := b.o; have := b.o2; omega, b.fb, Nat.le_trans b.hq x.next, b.o, b.o2, b.o3, b.q0, b.y.then x fun i r => .inl (.inl r)⟩, x⟩
theorem MF.own {T : Nat → Prop} {L' : List (Nat × List Value × Nat)} (b : MF h h' pp xa xc xs n hi ta tc ty L fa fc fs pe q1 pm hB) (x : Ext T h' h2) (d : ∀ i, T i → hi ≤ i ∧ (q1 ≤ i ∨ i = pm)) (m : Mem h h2 L') : MF h h2 pp xa xc xs n hi ta tc ty L' fa fc fs pe q1 pm hB :=
  ⟨b.b.own x (fun i r => (d i r).1) b.o m, b.sF.ext x fun i q r => by have := b.fb i q; have := (d i r).2; have := b.o3; omega, b.fb, Nat.le_trans b.hq x.next, b.o, b.o2, b.o3, b.q0, b.y.then x fun i r => by have := b.q0; rcases (d i r).2 with q | q <;> omega⟩
end
abbrev endC : List Value := [.int .i64 11, .int .u32 0, .int .u32 0, .int .u64 0, .slice none 0 0, .int .i64 0]
abbrev z13 : List Value := [.slice none 0 0, .slice none 0 0, .slice none 0 0, .slice none 0 0, .slice none 0 0, .slice none 0 0, .bool false, .int .u32 0, .slice none 0 0, .bool false, .int .u32 0, .slice none 0 0, .slice none 0 0]
abbrev mC (ta : Option Addr) (tc : Nat) (fu tb me gl ex el b9 u10 co da : Value) : List Value := [.slice ta 6 tc, fu, tb, me, gl, ex, .bool false, .int .u32 0, el, b9, u10, co, da]
abbrev meC (mv : Int) : List Value := [.int .u32 mv, .int .u32 0, .bool false]

/-- What a module is made of. -/
structure LD where
  ta : Option Addr
  tc : Nat
  ty : List Value
  fa : Option Addr
  fc : Nat
  fs : List Nat
  bt : Nat
  tx : Int
  th : Bool
  bm : Nat
  mv : Int
  bg : Nat
  i0 : Nat
  i1 : Nat
  v0 : Int
  v1 : Int
  ea : Option Addr
  ec : Nat
  el : List Value
  qa : Option Addr
  qc : Nat
  da : Option Addr
  dc : Nat
  ca : Option Addr
  cc : Nat
  cl : List Value
abbrev LD.mc (d : LD) : List Value := mC d.ta d.tc (.slice d.fa d.fs.length d.fc) (.slice (some ⟨d.bt, 0, none⟩) 1 1) (.slice (some ⟨d.bm, 0, none⟩) 1 1) (.slice (some ⟨d.bg, 0, none⟩) 2 1) (.slice d.ea d.fs.length d.ec) (.slice d.qa 2 d.qc) (.bool true) (.int .u32 2) (.slice d.ca d.fs.length d.cc) (.slice d.da 2 d.dc)
/-- Exports: of functions, one by one. -/
def ExL (el : List Value) (f : Nat) : Prop := ∀ j, j < f → ∃ s : ByteArray, (el.drop (j * 3)).take 3 = [.string s, .int .u8 0, .int .u32 (j : Int)]
theorem ExL.snoc {el : List Value} {f : Nat} {s : ByteArray} {x : Int} (e : ExL el f) (hl : el.length = f * 3) (hx : x = (f : Int)) : ExL (el ++ [.string s, .int .u8 0, .int .u32 x]) (f + 1) := fun j hj => by
  subst hx
  by_cases hji : j < f
  · obtain ⟨s, h1⟩ := e j hji
    exact ⟨s, by rw [List.drop_append_of_le_length (by omega), List.take_append_of_le_length (by rw [List.length_drop]; omega)]; exact h1⟩
  · obtain rfl : j = f := by omega
    exact ⟨s, by rw [List.drop_append, List.drop_of_length_le (by omega), show j * 3 - el.length = 0 by omega]; rfl⟩
abbrev glC (i0 i1 : Nat) : List Value := [.int .u8 127, .bool true, .slice (some ⟨i0, 0, none⟩) 2 1, .int .u8 126, .bool true, .slice (some ⟨i1, 0, none⟩) 2 1]
abbrev inC (op v : Int) : List Value := [.int .i64 op, .int .u32 0, .int .u32 0, .int .u64 v, nilS, .int .i64 0] ++ endC
abbrev tbC (tx : Int) (th : Bool) : List Value := [.int .u8 112, .int .u32 4, .int .u32 tx, .bool th]
/-- A module, as it lies. -/
structure Lay (h : Heap) (d : LD) : Prop where
  st : SlA h 2 d.ta 6 d.tc d.ty
  tys : Tys h (fun _ => True) d.ty
  sf : SlA h 1 d.fa d.fs.length d.fc (u32s d.fs)
  f6 : ∀ x ∈ d.fs, x < 6
  f0 : 0 < d.fs.length
  f3 : d.fs.length ≤ 3
  gt : At h d.bt (.cells (tbC d.tx d.th) 4 false)
  gm : At h d.bm (.cells (meC d.mv) 3 false)
  mv : d.mv = 0 ∨ d.mv = 1
  gg : At h d.bg (.cells (glC d.i0 d.i1) 3 false)
  g0 : At h d.i0 (.cells (inC 65 d.v0) 6 false)
  g1 : At h d.i1 (.cells (inC 66 d.v1) 6 false)
  h0 : 0 ≤ d.v0 ∧ d.v0 ≤ 8
  h1 : d.v1 = 18446744073709551615
  ds : sameV (.slice d.da 2 d.dc) (.slice d.da 2 d.dc) = true
  se : SlA h 3 d.ea d.fs.length d.ec d.el
  ex : ExL d.el d.fs.length
  sc : SlA h 2 d.ca d.fs.length d.cc d.cl
  cd : ∀ i, i < d.fs.length → ∃ (ls : Option Addr × Nat × Nat) (ba : Option Addr) (bn bc : Nat) (l : List Value) (w : List Int), (d.cl.drop (i * 2)).take 2 = [.slice ls.1 ls.2.1 ls.2.2, .slice ba bn bc] ∧ Ins h ba bn bc l (w ++ [11]) ∧ Opn [] w
theorem Lay.ext0 {h h' : Heap} {d : LD} (q : Lay h d) (x : Ext0 h h') : Lay h' d :=
  ⟨q.st.ext x, q.tys.ext x fun i _ r => r, q.sf.ext x, q.f6, q.f0, q.f3, q.gt.ext x, q.gm.ext x, q.mv, q.gg.ext x, q.g0.ext x, q.g1.ext x, q.h0, q.h1, q.ds, q.se.ext x, q.ex, q.sc.ext x, fun i hi => by
    obtain ⟨ls, ba, bn, bc, l, w, a, b, c⟩ := q.cd i hi
    exact ⟨ls, ba, bn, bc, l, w, a, b.ext x, c⟩⟩
/-- What Module comes to. -/
def ModP (h : Heap) (pp : Nat) (v : Value) (h' : Heap) : Prop := ∃ d : LD, v = .agg ⟨d.mc⟩ ∧ d.mc.all isCell = true ∧ Lay h' d ∧ Ext (· = pp) h h'

/-- Bodies that are done. -/
def Cd (h : Heap) (S : Nat → Prop) (cl : List Value) (i : Nat) : Prop :=
  ∀ j, j < i → ∃ (ls : Option Addr × Nat × Nat) (ba : Option Addr) (bn bc : Nat) (l : List Value) (w : List Int), (cl.drop (j * 2)).take 2 = [.slice ls.1 ls.2.1 ls.2.2, .slice ba bn bc] ∧ Ins h ba bn bc l (w ++ [11]) ∧ Opn [] w ∧ ∀ q, Blk ba q → S q
theorem Cd.ext {h h' : Heap} {S T : Nat → Prop} {cl : List Value} {i : Nat} (c : Cd h S cl i) (x : Ext T h h') (d : ∀ q, S q → ¬ T q) : Cd h' S cl i := fun j hj => by
  obtain ⟨ls, ba, bn, bc, l, w, h1, h2, h3, h4⟩ := c j hj
  exact ⟨ls, ba, bn, bc, l, w, h1, h2.ext x fun q r => d q (h4 q r), h3, h4⟩
theorem Cd.mono {h : Heap} {S T : Nat → Prop} {cl : List Value} {i : Nat} (c : Cd h S cl i) (d : ∀ q, q < h.next → S q → T q) : Cd h T cl i := fun j hj => by
  obtain ⟨ls, ba, bn, bc, l, w, h1, h2, h3, h4⟩ := c j hj
  exact ⟨ls, ba, bn, bc, l, w, h1, h2, h3, fun q r => d q (h2.lt q r) (h4 q r)⟩
theorem Cd.snoc {h : Heap} {S : Nat → Prop} {cl : List Value} {i : Nat} {ls : Option Addr × Nat × Nat} {ba : Option Addr} {bn bc : Nat} {l : List Value} {w : List Int} (c : Cd h S cl i) (hl : cl.length = i * 2) (I : Ins h ba bn bc l (w ++ [11])) (o : Opn [] w) (d : ∀ q, Blk ba q → S q) : Cd h S (cl ++ [.slice ls.1 ls.2.1 ls.2.2, .slice ba bn bc]) (i + 1) := fun j hj => by
  by_cases hji : j < i
  · obtain ⟨ls, ba, bn, bc, l, w, h1, h2, h3, h4⟩ := c j hji
    exact ⟨ls, ba, bn, bc, l, w, by rw [List.drop_append_of_le_length (by omega), List.take_append_of_le_length (by rw [List.length_drop]; omega)]; exact h1, h2, h3, h4⟩
  · obtain rfl : j = i := by omega
    exact ⟨ls, ba, bn, bc, l, w, by rw [List.drop_append, List.drop_of_length_le (by omega), show j * 2 - cl.length = 0 by omega]; rfl, I, o, d⟩
theorem Tys.mono {h : Heap} {S T : Nat → Prop} {ty : List Value} (q : Tys h S ty) (d : ∀ i, S i → T i) : Tys h T ty := fun j hj => by
  obtain ⟨pa, pn, pc, ps, ra, rn, rc, rs, h1, h2, h3, h4, h5, h6⟩ := q j hj
  exact ⟨pa, pn, pc, ps, ra, rn, rc, rs, h1, h2, h3, fun i r => d i (h4 i r), fun i r => d i (h5 i r), h6⟩

set_option maxHeartbeats 4000000 in
/-- Picks.Module -/
theorem C8 {h : Heap} {pp xc : Nat} {xa : Option Addr} {xs : List Int} (gp : At h pp (.cells [.slice xa xs.length xc, .int .i64 0] 0 false)) (sx : SlA h 1 xa xs.length xc (ints .u8 xs)) (xw : ∀ x ∈ xs, 0 ≤ x ∧ x ≤ 255) (xl : xs.length ≤ 1000) (xS : ∀ i, Blk xa i → i < h.next ∧ i ≠ pp) :
    Fn Try.prog 8 [ptr pp] h (ModP h pp) := by
  have pl := gp.lt
  refine fnK F8.fok rfl ?_
  refine K_reg (Wops_new fun h0 n0 x0 g0 => K_fin [(0, _), (2, _)] rfl (?_))
  replace g0 : At h0 h.next (.cells z13 0 false) := g0
  refine K_reg (Wops_call rfl C19 ?_)
  rintro _ h1 ⟨ta, tc, ty, rfl, st, tS, tys, x1⟩
  have z1 := x1.next
  have B1 : MB h h1 pp xa xc xs 0 h1.next ta tc ty [(h.next, z13, 0)] :=
    ⟨(x0.trans x1).of0, (gp.ext x0).ext x1, Nat.zero_le _, (sx.ext x0).ext x1, st, fun i r => ⟨by have := (tS i r).1; omega, (tS i r).2⟩, fun j hj => by
      obtain ⟨pa, pn, pc, ps, ra, rn, rc, rs, q1, q2, q3, q4, q5, q6⟩ := tys j hj
      exact ⟨pa, pn, pc, ps, ra, rn, rc, rs, q1, q2, q3, fun i r => ⟨by have := (q4 i r).1; omega, (q4 i r).2⟩, fun i r => ⟨by have := (q5 i r).1; omega, (q5 i r).2⟩, q6⟩, ⟨⟨Nat.le_refl _, g0.ext x1⟩, trivial⟩, Nat.le_refl _, pl, xS, xw, xl⟩
  refine Wops_run rfl rfl (Wops_call rfl (B1.c48 (by decide)) ?_)
  rintro _ h2 ⟨r2, n2, rfl, hr2, B2, x2⟩
  have z2 := x2.next
  refine Wops_as (w := .int .i64 (IntKind.wrap .i64 ((r2 : Int).tdiv 3))) rfl rfl rfl (Wops_run rfl rfl (Wops_run rfl rfl ?_))
  refine Wops_bslice (l := meC _) rfl rfl fun h3 n3 x3 g3 => ?_
  have hmw : IntKind.wrap .u32 (IntKind.wrap .i64 ((r2 : Int).tdiv 3)) = 0 ∨ IntKind.wrap .u32 (IntKind.wrap .i64 ((r2 : Int).tdiv 3)) = 1 := by
    have hr2' : r2 < 4 := by omega
    have : r2 = 0 ∨ r2 = 1 ∨ r2 = 2 ∨ r2 = 3 := by omega
    rcases this with rfl | rfl | rfl | rfl <;> decide
  generalize hmv : IntKind.wrap .u32 (IntKind.wrap .i64 ((r2 : Int).tdiv 3)) = mv at g3 hmw
  replace g3 : At h3 h2.next (.cells (meC mv) 3 false) := g3
  refine Wops_run rfl rfl (Wops_run rfl rfl (Wops_bslice (l := [.int .u8 112, .int .u32 4, .int .u32 0, .bool false]) rfl rfl fun h4 n4 x4 g4 => ?_))
  replace g4 : At h4 h3.next (.cells [.int .u8 112, .int .u32 4, .int .u32 0, .bool false] 4 false) := g4
  refine Wops_run rfl rfl (Wops_new fun h5 n5 x5 g5 => ?_)
  refine Wops_st (l := mC ta tc nilS (.slice (some ⟨h3.next, 0, none⟩) 1 1) (.slice (some ⟨h2.next, 0, none⟩) 1 1) nilS nilS nilS (.bool false) (.int .u32 0) nilS nilS) rfl rfl rfl rfl g5 (by simp) rfl fun h6 n6 x6 g6 => ?_
  replace g6 : At h6 h4.next (.cells (mC ta tc nilS (.slice (some ⟨h3.next, 0, none⟩) 1 1) (.slice (some ⟨h2.next, 0, none⟩) 1 1) nilS nilS nilS (.bool false) (.int .u32 0) nilS nilS) 0 false) := g6
  have x46 : Ext0 h4 h6 := x5.then x6 fun i r => .inr (by omega)
  have B6 : MB h h6 pp xa xc xs n2 h1.next ta tc ty [(h.next, z13, 0), (h4.next, mC ta tc nilS (.slice (some ⟨h3.next, 0, none⟩) 1 1) (.slice (some ⟨h2.next, 0, none⟩) 1 1) nilS nilS nilS (.bool false) (.int .u32 0) nilS nilS, 0), (h2.next, meC mv, 3), (h3.next, [.int .u8 112, .int .u32 4, .int .u32 0, .bool false], 4)] := by
    have b := ((B2.ext0 x3).ext0 x4).ext0 x46
    exact { b with m := ⟨b.m.1, ⟨by omega, g6⟩, ⟨by omega, (g3.ext x4).ext x46⟩, ⟨by omega, g4.ext x46⟩, trivial⟩ }
  refine K_fin [(0, _), (2, _), (3, _)] rfl (?_)
  clear g6 g5 g4 g3 x46 x6 x5 x4 x3 x2 B2 B1 hmv
  generalize hbm : h2.next = bm at B6 ⊢
  generalize hbt : h3.next = bt at B6 ⊢
  generalize hpm : h4.next = pm at B6 ⊢
  generalize hhi : h1.next = hi at B6
  have o1 : h.next < hi := by omega
  have o2 : hi ≤ bm ∧ bt = bm + 1 ∧ pm = bt + 1 := by omega
  clear hbm hbt hpm hhi n6 n5 n4 n3 z2 z1 n0 g0 st tS tys x1 x0
  obtain ⟨tb, htb⟩ : ∃ v : Value, v = .slice (some ⟨bt, 0, none⟩) 1 1 := ⟨_, rfl⟩
  obtain ⟨me, hme⟩ : ∃ v : Value, v = .slice (some ⟨bm, 0, none⟩) 1 1 := ⟨_, rfl⟩
  rw [← htb, ← hme] at B6
  refine K_join (fun e h' => ∃ (n' : Nat) (l : Env), e = [(0, ptr pp), (2, ptr h.next), (3, ptr pm)] ++ l ∧ MB h h' pp xa xc xs n' hi ta tc ty [(h.next, z13, 0), (pm, mC ta tc nilS tb me nilS nilS nilS (.bool false) (.int .u32 0) nilS nilS, 0), (bm, meC mv, 3)] ∧ ∃ tx th, At h' bt (.cells (tbC tx th) 4 false)) ?_ ?_
  · refine K_reg (Wops_run rfl rfl (Wops_call rfl (B6.c48 (by decide)) ?_))
    rintro _ h7 ⟨r7, n7, rfl, hr7, B7, x7⟩
    refine Wops_run rfl rfl (K_fin [(0, _), (2, _), (3, _), (29, _)] rfl (?_))
    have M7 := B7.m
    refine K_cond rfl (fun _ => ?_) (fun _ => K_skip ⟨n7, _, rfl, { B7 with m := ⟨M7.1, M7.2.1, M7.2.2.1, trivial⟩ }, _, _, M7.2.2.2.1.2⟩)
    refine K_last (Wops_run rfl rfl (Wops_ld (v := .slice (some ⟨bt, 0, none⟩) 1 1) rfl M7.2.1.2 (by rw [htb]; rfl) (Wops_run rfl rfl (Wops_ld (v := .slice (some ⟨bt, 0, none⟩) 1 1) rfl M7.2.1.2 (by rw [htb]; rfl) ?_))))
    refine Wops_iaV rfl rfl ⟨by decide, by decide⟩ (Wops_run rfl rfl (Wops_run rfl rfl (Wops_st (l := [.int .u32 8]) rfl rfl rfl rfl M7.2.2.2.1.2 (by simp) rfl fun h8 n8 x8 g8 => ?_)))
    refine Wops_iaV rfl rfl ⟨by decide, by decide⟩ (Wops_run rfl rfl (Wops_run rfl rfl (Wops_st (l := [.bool true]) rfl rfl rfl rfl g8 (by simp [putL]) rfl fun h9 n9 x9 g9 => ?_)))
    have x79 := x8.trans x9
    refine K_finL [(0, _), (2, _), (3, _)] rfl ⟨n7, [], rfl, ?_, _, _, g9⟩
    exact B7.set x79 (by omega) (by omega) ⟨⟨M7.1.1, M7.1.2.ext x79 fun r => by omega⟩, ⟨M7.2.1.1, M7.2.1.2.ext x79 fun r => by omega⟩, ⟨M7.2.2.1.1, M7.2.2.1.2.ext x79 fun r => by omega⟩, trivial⟩
  clear B6
  rintro e h7 ⟨n7, l7, rfl, B7, tx, th, gt7⟩
  refine K_join (fun e h' => ∃ (n' : Nat) (mv : Int) (l : Env), e = [(0, ptr pp), (2, ptr h.next), (3, ptr pm)] ++ l ∧ MB h h' pp xa xc xs n' hi ta tc ty [(h.next, z13, 0), (pm, mC ta tc nilS tb me nilS nilS nilS (.bool false) (.int .u32 0) nilS nilS, 0), (bm, meC mv, 3)] ∧ (mv = 0 ∨ mv = 1) ∧ At h' bt (.cells (tbC tx th) 4 false)) ?_ ?_
  · have M7 := B7.m
    refine K_reg (Wops_run rfl rfl (Wops_ld (v := .slice (some ⟨bm, 0, none⟩) 1 1) rfl M7.2.1.2 (by rw [hme]; rfl) (Wops_iaV rfl rfl ⟨by decide, by decide⟩ (Wops_run rfl rfl (Wops_ld (v := .int .u32 mv) rfl M7.2.2.1.2 rfl (Wops_run rfl rfl (Wops_run rfl rfl ?_)))))))
    cases hq : (mv == 0)
    case false =>
      refine Wops_skip rfl (Wops_skip rfl (Wops_skip rfl (Wops_run rfl rfl (K_fin [(0, _), (2, _), (3, _), (50, _)] rfl (?_)))))
      exact K_cond rfl (fun hc => by cases hc) (fun _ => K_skip ⟨n7, mv, _, rfl, B7, hmw, gt7⟩)
    refine Wops_go rfl (Wops_run rfl rfl (Wops_go rfl (Wops_call rfl (B7.c48 (by decide)) ?_)))
    rintro _ h8 ⟨r8, n8, rfl, hr8, B8, x8⟩
    refine Wops_go rfl (Wops_run rfl rfl (Wops_run rfl rfl (K_fin [(0, _), (2, _), (3, _), (50, _)] rfl (?_))))
    have M8 := B8.m
    have gt8 := gt7.ext x8 fun r => by omega
    refine K_cond rfl (fun _ => ?_) (fun _ => K_skip ⟨n8, mv, _, rfl, B8, hmw, gt8⟩)
    refine K_last (Wops_run rfl rfl (Wops_ld (v := .slice (some ⟨bm, 0, none⟩) 1 1) rfl M8.2.1.2 (by rw [hme]; rfl) (Wops_iaV rfl rfl ⟨by decide, by decide⟩ (Wops_run rfl rfl (Wops_st (l := [.int .u32 1]) rfl rfl rfl rfl M8.2.2.1.2 (by simp) rfl fun h9 n9 x9 g9 => ?_)))))
    refine K_finL [(0, _), (2, _), (3, _)] rfl ⟨n8, 1, [], rfl, ?_, .inr rfl, gt8.ext x9 fun r => by omega⟩
    exact B8.set x9 (by omega) (by omega) ⟨⟨M8.1.1, M8.1.2.ext x9 fun r => by omega⟩, ⟨M8.2.1.1, M8.2.1.2.ext x9 fun r => by omega⟩, ⟨M8.2.2.1.1, g9⟩, trivial⟩
  clear B7 gt7 hmw
  rintro e h8 ⟨n8, mv, l8, rfl, B8, hmw, gt8⟩
  -- end, globals, how many functions
  refine K_reg (Wops_run rfl rfl (Wops_new fun h9 n9 x9 g9 => Wops_st (l := endC) rfl rfl rfl rfl g9 (by simp) rfl fun h10 n10 x10 g10 => K_fin [(0, _), (2, _), (3, _), (4, _)] rfl (?_)))
  replace g10 : At h10 h8.next (.cells endC 0 false) := g10
  have x810 : Ext0 h8 h10 := x9.then x10 fun i r => .inr (by omega)
  have hh8 := B8.hh
  have pml := B8.m.2.1.2.lt
  have B10 : MB h h10 pp xa xc xs n8 hi ta tc ty [(h.next, z13, 0), (pm, mC ta tc nilS tb me nilS nilS nilS (.bool false) (.int .u32 0) nilS nilS, 0), (bm, meC mv, 3), (h8.next, endC, 0)] := by
    have b := B8.ext0 x810
    exact { b with m := ⟨b.m.1, b.m.2.1, b.m.2.2.1, ⟨by omega, g10⟩, trivial⟩ }
  have gt10 := gt8.ext x810
  generalize hpe : h8.next = pe at B10 ⊢
  have o3 : pm < pe := by omega
  have hpl10 : pe < h10.next := by omega
  clear g10 x810 g9 x9 x10 n9 n10 hh8 pml hpe B8 gt8
  have M10 := B10.m
  refine K_reg (Wops_run rfl rfl (Wops_ldA (l := endC) rfl M10.2.2.2.1.2 (by simp) rfl (Wops_run rfl rfl (Wops_ldA (l := endC) rfl M10.2.2.2.1.2 (by simp) rfl (Wops_bslice (l := inC 66 18446744073709551615) rfl rfl fun h11 n11 x11 g11 => ?_)))))
  have B11 := B10.ext0 x11
  refine Wops_run rfl rfl (Wops_call rfl (B11.c48 (by decide)) ?_)
  rintro _ h12 ⟨r12, n12, rfl, hr12, B12, x12⟩
  have M12 := B12.m
  refine Wops_chkA rfl rfl M12.2.2.2.1.2 (by simp) rfl rfl (Wops_chkA rfl rfl M12.2.2.2.1.2 (by simp) rfl rfl (Wops_run rfl rfl (Wops_run rfl rfl ?_)))
  refine Wops_bslice (l := inC 65 _) rfl rfl fun h13 n13 x13 g13 => ?_
  refine Wops_run rfl rfl (Wops_bslice (l := glC h12.next h10.next) rfl rfl fun h14 n14 x14 g14 => ?_)
  have B14 := (B12.ext0 x13).ext0 x14
  have M14 := B14.m
  refine Wops_run rfl rfl (Wops_st (l := [_]) rfl rfl rfl rfl M14.2.1.2 (by simp) rfl fun h15 n15 x15 g15 => ?_)
  refine K_fin [(0, _), (2, _), (3, _), (4, _)] rfl (?_)
  have z12 := x12.next
  have gt15 := ((((gt10.ext x11).ext x12 fun r => by omega).ext x13).ext x14).ext x15 fun r => by omega
  have gi1 := (((At.ext g11 x12 fun r => by omega).ext x13).ext x14).ext x15 fun r => by omega
  have gi0 := (At.ext g13 x14).ext x15 fun r => by omega
  have gg15 := At.ext g14 x15 fun r => by omega
  obtain ⟨bg, hbg⟩ : ∃ b, b = h13.next := ⟨_, rfl⟩
  obtain ⟨i0, hi0⟩ : ∃ b, b = h12.next := ⟨_, rfl⟩
  obtain ⟨i1, hi1⟩ : ∃ b, b = h10.next := ⟨_, rfl⟩
  rw [← hbg] at gg15
  rw [← hi0] at gi0 gg15
  rw [← hi1] at gi1 gg15
  have hv0 : 0 ≤ IntKind.wrap .u64 (r12 : Int) ∧ IntKind.wrap .u64 (r12 : Int) ≤ 8 := by rw [wu64 (by omega)]; omega
  generalize IntKind.wrap .u64 (r12 : Int) = v0 at gi0 hv0
  obtain ⟨gl, hgl, cgl⟩ : ∃ v : Value, v = .slice (some ⟨bg, 0, none⟩) 2 1 ∧ isCell v = true := ⟨_, rfl, rfl⟩
  have B15 : MB h h15 pp xa xc xs n12 hi ta tc ty [(h.next, z13, 0), (pm, mC ta tc nilS tb me gl nilS nilS (.bool false) (.int .u32 0) nilS nilS, 0), (bm, meC mv, 3), (pe, endC, 0)] :=
    B14.set x15 (by omega) (by omega) ⟨⟨M14.1.1, M14.1.2.ext x15 fun r => by omega⟩, ⟨M14.2.1.1, by rw [hgl, hbg]; exact g15⟩, ⟨M14.2.2.1.1, M14.2.2.1.2.ext x15 fun r => by omega⟩, ⟨M14.2.2.2.1.1, M14.2.2.2.1.2.ext x15 fun r => by omega⟩, trivial⟩
  clear g15 g14 g13 g11 B14 B12 B11 B10 M14 M12 M10 gt10
  refine K_reg (Wops_run rfl rfl (Wops_call rfl (B15.c48 (by decide)) ?_))
  rintro _ h16 ⟨r16, n16, rfl, hr16, B16, x16⟩
  refine Wops_as (w := .int .i64 ((r16 + 1 : Nat) : Int)) rfl rfl (by rw [w64 (by omega)]; congr 1; omega) (Wops_run rfl rfl (K_fin [(0, _), (2, _), (3, _), (4, _), (5, _)] rfl (?_)))
  obtain ⟨nn, hnn⟩ : ∃ nn : Nat, nn = r16 + 1 := ⟨_, rfl⟩
  rw [← hnn]
  have hn3 : 0 < nn ∧ nn ≤ 3 := by omega
  have obi : pe < i1 ∧ i1 < i0 ∧ i0 < bg ∧ bt < pm ∧ h.next < bt := by omega
  have gt16 := gt15.ext x16 fun r => by omega
  have gi16 := gi1.ext x16 fun r => by omega
  have gj16 := gi0.ext x16 fun r => by omega
  have gg16 := gg15.ext x16 fun r => by omega
  have hB16 := B16.m.2.2.2.1.2.lt
  clear x16 x15 x14 x13 x12 x11 n15 n14 n13 n11 B15 hbg hi0 hi1 gt15 gi1 gi0 gg15 z12 hpl10
  have o4 : hi ≤ pm := by omega
  refine K_ss (K_reg (Wops_run rfl rfl (K_fin [(0, _), (2, _), (3, _), (4, _), (5, _), (6, _)] rfl (?_))))
  refine K_sblock ?_
  refine K_loop (fun k e h' => ∃ (f n' : Nat) (fa : Option Addr) (fc : Nat) (fs : List Nat) (ea : Option Addr) (ec : Nat) (el : List Value), e = [(0, ptr pp), (2, ptr h.next), (3, ptr pm), (4, ptr pe), (5, .int .i64 (nn : Int)), (6, .int .i64 (f : Int))] ∧ f ≤ nn ∧ k = nn - f ∧
      MB h h' pp xa xc xs n' hi ta tc ty [(h.next, z13, 0), (pm, mC ta tc (.slice fa f fc) tb me gl (.slice ea f ec) nilS (.bool false) (.int .u32 0) nilS nilS, 0), (bm, meC mv, 3), (pe, endC, 0)] ∧
      OwS h' 1 fa f fc (u32s fs) ∧ fs.length = f ∧ (∀ x ∈ fs, x < 6) ∧ OwS h' 3 ea f ec el ∧ (∀ i, Blk fa i → pe < i ∧ h16.next ≤ i) ∧ (∀ i, Blk ea i → pe < i ∧ h16.next ≤ i) ∧ (∀ i, Blk fa i → ¬ Blk ea i) ∧ ExL el f ∧ Ext (fun i => i = pp ∨ i = pm) h16 h') ?_ (k := nn)
    ⟨0, n16, none, 0, [], none, 0, [], rfl, Nat.zero_le _, rfl, B16, OwS.none, rfl, (fun x hx => by cases hx), OwS.none, fun i r => absurd r Blk.none, fun i r => absurd r Blk.none, fun i r => absurd r Blk.none, fun j hj => by omega, Ext.refl _ _⟩
  clear B16
  rintro k e h17 ⟨f, n17, fa, fc, fs, ea, ec, elx, rfl, hf, rfl, B17, oF, hfl, hf6, oE, fb, eb, de, hEx, Y17⟩
  have zY := Y17.next
  refine K_ss (K_reg (Wops_run rfl rfl (Wops_run rfl rfl (Wops_run rfl rfl (K_fin [(0, _), (2, _), (3, _), (4, _), (5, _), (6, _), (74, _)] rfl (?_))))))
  refine K_scond rfl (fun hc => ?_) (fun hc => ?_)
  · have hfn : f < nn := by have := of_decide_eq_true hc; omega
    have M17 := B17.m
    refine K_sskip (K_sblock ?_)
    refine K_reg (Wops_run rfl rfl (Wops_ld (v := .slice fa f fc) rfl M17.2.1.2 rfl (Wops_run rfl rfl (Wops_call rfl (B17.c48 (by decide)) ?_))))
    rintro _ h18 ⟨r18, n18, rfl, hr18, B18, x18⟩
    have M18 := B18.m
    have ppe : pp < pe := by omega
    refine Wops_chk rfl rfl M18.2.1.2 (v := .slice fa f fc) rfl oF.sl.same ?_
    refine Wops_as (w := .int .i64 ((r18 + 1 : Nat) : Int)) rfl rfl (by rw [w64 (by omega)]; congr 1; omega) (Wops_as (w := .int .u32 ((r18 + 1 : Nat) : Int)) rfl rfl (by rw [wU32 (by omega)]) ?_)
    refine Wops_bslice (l := u32s [r18 + 1]) rfl rfl fun h19 n19 x19 g19 => ?_
    have oF19 := (oF.ext x18 fun i r e => by have := fb i r; omega).ext x19
    have oE19 := (oE.ext x18 fun i r e => by have := eb i r; omega).ext x19
    have B19 := B18.ext0 x19
    have z18 := x18.next
    refine Wops_app (m := 1) rfl rfl oF19 rfl (OwS.new (n := 1) (c := 1) g19 rfl).sl.first ⟨by omega, by omega⟩ rfl rfl (by decide) fun h20 fa' fc' x20 oF20 bF20 => ?_
    have z20 := x20.next
    have M19 := B19.m
    have pel := M19.2.2.2.1.2.lt
    have oE20 := oE19.ext x20 fun i q r => de i r q
    have bF20' : ∀ i, Blk fa' i → pe < i ∧ h16.next ≤ i := fun i r => (bF20 i r).elim (fb i) fun r => ⟨by omega, by omega⟩
    have de20 : ∀ i, Blk fa' i → ¬ Blk ea i := fun i r q => (bF20 i r).elim (fun r => de i r q) fun r => by have := oE19.lt q; omega
    have M20 : Mem h h20 [(h.next, z13, 0), (pm, mC ta tc (.slice fa f fc) tb me gl (.slice ea f ec) nilS (.bool false) (.int .u32 0) nilS nilS, 0), (bm, meC mv, 3), (pe, endC, 0)] := M19.put x20 fun p hp r => by
      have := fb _ r
      simp only [List.mem_cons, List.not_mem_nil, or_false] at hp
      rcases hp with rfl | rfl | rfl | rfl <;> simp only [] at this <;> omega
    have B20 := B19.own x20 (fun i r => by have := fb i r; omega) (by omega) M20
    refine Wops_run rfl rfl (Wops_st (l := [.slice fa' (f + 1) fc']) rfl rfl rfl rfl M20.2.1.2 (by simp) rfl fun h21 n21 x21 g21 => ?_)
    replace g21 : At h21 pm (.cells (mC ta tc (.slice fa' (f + 1) fc') tb me gl (.slice ea f ec) nilS (.bool false) (.int .u32 0) nilS nilS) 0 false) := g21
    refine K_fin [(0, _), (2, _), (3, _), (4, _), (5, _), (6, _)] rfl (?_)
    have B21 : MB h h21 pp xa xc xs n18 hi ta tc ty [(h.next, z13, 0), (pm, mC ta tc (.slice fa' (f + 1) fc') tb me gl (.slice ea f ec) nilS (.bool false) (.int .u32 0) nilS nilS, 0), (bm, meC mv, 3), (pe, endC, 0)] :=
      B20.set x21 (by omega) (by omega) ⟨⟨M20.1.1, M20.1.2.ext x21 fun r => by omega⟩, ⟨M20.2.1.1, g21⟩, ⟨M20.2.2.1.1, M20.2.2.1.2.ext x21 fun r => by omega⟩, ⟨M20.2.2.2.1.1, M20.2.2.2.1.2.ext x21 fun r => by omega⟩, trivial⟩
    have oF21 := oF20.ext x21 fun i r e => by have := bF20' i r; omega
    have oE21 := oE20.ext x21 fun i r e => by have := eb i r; omega
    refine K_last (Wops_run rfl rfl (Wops_ld (v := .slice ea f ec) rfl g21 rfl (Wops_run rfl rfl (Wops_run rfl rfl (Wops_run rfl rfl ?_)))))
    refine Wops_bslice (l := ints .u8 [IntKind.wrap .u8 (IntKind.wrap .i64 (48 + (f : Int)))]) rfl rfl fun h22 n22 x22 g22 => ?_
    refine Wops_toStr rfl (OwS.new (n := 1) (c := 1) g22 rfl).sl (Wops_run rfl rfl (Wops_run rfl rfl (Wops_run rfl rfl (Wops_run rfl rfl ?_))))
    refine Wops_bslice (l := [.string _, .int .u8 0, .int .u32 _]) rfl rfl fun h23 n23 x23 g23 => ?_
    have x2123 := x22.trans x23
    have z2123 := x2123.next
    have oE23 := oE21.ext x2123
    refine Wops_app (m := 1) rfl rfl oE23 rfl (OwS.new (n := 1) (c := 1) g23 rfl).sl.first ⟨by omega, by omega⟩ rfl rfl (by decide) fun h24 ea' ec' x24 oE24 bE24 => ?_
    have B23 := B21.ext0 x2123
    have M23 := B23.m
    have pel2 := M23.2.2.2.1.2.lt
    have M24 : Mem h h24 [(h.next, z13, 0), (pm, mC ta tc (.slice fa' (f + 1) fc') tb me gl (.slice ea f ec) nilS (.bool false) (.int .u32 0) nilS nilS, 0), (bm, meC mv, 3), (pe, endC, 0)] := M23.put x24 fun p hp r => by
      have := eb _ r
      simp only [List.mem_cons, List.not_mem_nil, or_false] at hp
      rcases hp with rfl | rfl | rfl | rfl <;> simp only [] at this <;> omega
    have B24 := B23.own x24 (fun i r => by have := eb i r; omega) (by omega) M24
    have bE24' : ∀ i, Blk ea' i → pe < i ∧ h16.next ≤ i := fun i r => (bE24 i r).elim (eb i) fun r => ⟨by omega, by have := x21.next; omega⟩
    have oF24 := (oF21.ext x2123).ext x24 de20
    refine Wops_run rfl rfl (Wops_st (l := [.slice ea' (f + 1) ec']) rfl rfl rfl rfl M24.2.1.2 (by simp) rfl fun h25 n25 x25 g25 => ?_)
    replace g25 : At h25 pm (.cells (mC ta tc (.slice fa' (f + 1) fc') tb me gl (.slice ea' (f + 1) ec') nilS (.bool false) (.int .u32 0) nilS nilS) 0 false) := g25
    refine K_finL [(0, _), (2, _), (3, _), (4, _), (5, _), (6, _)] rfl (?_)
    refine K_last (Wops_run rfl rfl (Wops_run rfl rfl (Wops_run rfl rfl (K_finL [(0, _), (2, _), (3, _), (4, _), (5, _), (6, _)] rfl (?_)))))
    refine ⟨nn - (f + 1), by omega, f + 1, n18, fa', fc', fs ++ [r18 + 1], ea', ec', _, by rw [w64s (by omega)], by omega, rfl, ?_, by rw [u32s, List.map_append]; exact oF24.ext x25 (fun i r e => by have := bF20' i r; omega), by simp [hfl], fun x hx => ?_, oE24.ext x25 (fun i r e => by have := bE24' i r; omega), bF20', bE24', fun i r q => ?_, hEx.snoc oE.sl.len (wU32 (by omega)), ((((((Y17.then x18 fun i r => .inl (.inl r)).then0 x19).then x20 fun i r => .inr (fb i r).2).then x21 fun i r => .inl (.inr r)).then0 x2123).then x24 fun i r => .inr (eb i r).2).then x25 fun i r => .inl (.inr r)⟩
    · exact B24.set x25 (by omega) (by omega) ⟨⟨M24.1.1, M24.1.2.ext x25 fun r => by omega⟩, ⟨M24.2.1.1, g25⟩, ⟨M24.2.2.1.1, M24.2.2.1.2.ext x25 fun r => by omega⟩, ⟨M24.2.2.2.1.1, M24.2.2.2.1.2.ext x25 fun r => by omega⟩, trivial⟩
    · rcases List.mem_append.1 hx with hx | hx
      · exact hf6 x hx
      · have : x = r18 + 1 := by simpa using hx
        omega
    · rcases bE24 i q with q | q
      · exact de20 i r q
      · have := oF20.lt r
        have := x21.next
        omega
  have hfn : f = nn := by have := of_decide_eq_false hc; omega
  subst hfn
  refine K_sexit (bx_same ?_)
  have gt17 := gt16.ext Y17 fun r => by omega
  have gi17 := gi16.ext Y17 fun r => by omega
  have gj17 := gj16.ext Y17 fun r => by omega
  have gg17 := gg16.ext Y17 fun r => by omega
  have se17 := oE.sl
  have ebq : ∀ i, Blk ea i → pe < i := fun i r => (eb i r).1
  obtain ⟨ex, hex, cex⟩ : ∃ v : Value, v = .slice ea f ec ∧ isCell v = true := ⟨_, rfl, rfl⟩
  rw [← hex] at B17
  obtain ⟨q1, hq1⟩ : ∃ q, q = h17.next := ⟨_, rfl⟩
  have peq : pe < q1 := by rw [hq1]; exact B17.m.2.2.2.1.2.lt
  obtain ⟨hB, hhB⟩ : ∃ q : Heap, q = h17 := ⟨_, rfl⟩
  have F17 : MF h h17 pp xa xc xs n17 hi ta tc ty [(h.next, z13, 0), (pm, mC ta tc (.slice fa fs.length fc) tb me gl ex nilS (.bool false) (.int .u32 0) nilS nilS, 0), (bm, meC mv, 3), (pe, endC, 0)] fa fc fs pe q1 pm hB := by
    rw [hfl]
    exact ⟨B17, by rw [hfl]; exact oF.sl, fun i r => ⟨(fb i r).1, by rw [hq1]; exact oF.lt r⟩, by omega, by omega, by omega, by omega, by rw [hhB, hq1]; exact Nat.le_refl _, by rw [hhB]; exact Ext.refl _ _⟩
  have q1l : ∀ i, Blk ea i → i < q1 := fun i r => by rw [hq1]; exact oE.lt r
  rw [← hhB] at gt17 gi17 gj17 gg17 se17
  have hBq : hB.next = q1 := by rw [hhB, hq1]
  clear B17 oF oE eb de gt16 gi16 gj16 gg16 Y17 zY hB16 hhB
  -- what tables begin with
  refine K_reg (Wops_run rfl rfl (K_fin [(0, _), (2, _), (3, _), (4, _), (5, _), (7, _)] rfl (?_)))
  refine K_ss (K_reg (Wops_run rfl rfl (K_fin [(0, _), (2, _), (3, _), (4, _), (5, _), (7, _), (8, _)] rfl (?_))))
  refine K_sblock ?_
  refine K_loop (fun k e h' => ∃ (i n' : Nat) (ia : Option Addr) (ic : Nat) (il : List Value), e = [(0, ptr pp), (2, ptr h.next), (3, ptr pm), (4, ptr pe), (5, .int .i64 (f : Int)), (7, .slice ia i ic), (8, .int .i64 (i : Int))] ∧ i ≤ 3 ∧ k = 3 - i ∧
      MF h h' pp xa xc xs n' hi ta tc ty [(h.next, z13, 0), (pm, mC ta tc (.slice fa fs.length fc) tb me gl ex nilS (.bool false) (.int .u32 0) nilS nilS, 0), (bm, meC mv, 3), (pe, endC, 0)] fa fc fs pe q1 pm hB ∧ OwS h' 1 ia i ic il ∧ (∀ j, Blk ia j → q1 ≤ j)) ?_ (k := 3)
    ⟨0, n17, none, 0, [], rfl, Nat.zero_le _, rfl, F17, OwS.none, fun i r => absurd r Blk.none⟩
  clear F17 hq1
  rintro k e h17 ⟨i, n17, ia, ic, il, rfl, hi3, rfl, F17, oI, ib⟩
  refine K_ss (K_reg (Wops_run rfl rfl (Wops_run rfl rfl (K_fin [(0, _), (2, _), (3, _), (4, _), (5, _), (7, _), (8, _), (101, _)] rfl (?_)))))
  refine K_scond rfl (fun hc => ?_) (fun hc => ?_)
  · have hi2 : i < 3 := by have := of_decide_eq_true hc; omega
    have M17 := F17.b.m
    have hq17 := F17.hq
    have ppe : pp < pe := by omega
    have pel := M17.2.2.2.1.2.lt
    refine K_sskip (K_sblock ?_)
    refine K_reg (Wops_run rfl rfl (Wops_run rfl rfl (Wops_ldA (l := endC) rfl M17.2.2.2.1.2 (by simp) rfl (Wops_call rfl (F17.c48 (m := (f : Int)) (by omega)) ?_))))
    rintro _ h18 ⟨r18, n18, rfl, hr18, F18, x18⟩
    have M18 := F18.b.m
    have z18 := x18.next
    refine Wops_chkA rfl rfl M18.2.2.2.1.2 (by simp) rfl rfl (Wops_run rfl rfl (Wops_run rfl rfl ?_))
    refine Wops_bslice (l := [.int .i64 210, _, .int .u32 0, .int .u64 0, nilS, .int .i64 0] ++ endC) rfl rfl fun h19 n19 x19 g19 => ?_
    refine Wops_run rfl rfl (K_fin [(0, _), (2, _), (3, _), (4, _), (5, _), (7, _), (8, _), (9, _)] rfl (?_))
    have F19 := F18.ext0 x19
    have oI19 := (oI.ext x18 fun j r e => by have := ib j r; have := F17.fb; have := F17.o2; have := hq17; omega).ext x19
    refine K_ss (K_reg (Wops_run rfl rfl (Wops_call rfl (F19.c48 (by decide)) ?_)))
    rintro _ h20 ⟨r20, n20, rfl, hr20, F20, x20⟩
    have z20 := x20.next
    have oI20 := oI19.ext x20 fun j r e => by have := ib j r; omega
    have g20 := At.ext g19 x20 (by omega)
    refine Wops_run rfl rfl (K_fin [(0, _), (2, _), (3, _), (4, _), (5, _), (7, _), (8, _), (9, _), (113, _)] rfl (?_))
    refine K_scond rfl (fun _ => ?_) (fun _ => ?_)
    · refine K_reg (Wops_run rfl rfl (Wops_run rfl rfl (Wops_iaV rfl rfl ⟨by decide, by decide⟩ (Wops_st (l := [.int .i64 208, .int .u32 112, .int .u32 0, .int .u64 0, nilS, .int .i64 0]) rfl rfl rfl rfl g20 (by simp) rfl fun h21 n21 x21 g21 => ?_))))
      refine K_fin [(0, _), (2, _), (3, _), (4, _), (5, _), (7, _), (8, _), (9, _)] rfl (?_)
      have M20 := F20.b.m
      have F21 := F20.own x21 (fun j r => ⟨by omega, .inl (by omega)⟩) (M20.put x21 fun p hp r => by
        simp only [List.mem_cons, List.not_mem_nil, or_false] at hp
        rcases hp with rfl | rfl | rfl | rfl <;> simp only [] at r <;> omega)
      have oI21 := oI20.ext x21 fun j r e => by have := oI.lt r; omega
      refine K_last (Wops_run rfl rfl (Wops_run rfl rfl (Wops_bslice (l := [_]) rfl rfl fun h22 n22 x22 g22 => ?_)))
      have M22 := (F21.ext0 x22).b.m
      refine Wops_app (m := 1) rfl rfl (oI21.ext x22) rfl (OwS.new (n := 1) (c := 1) g22 rfl).sl.first ⟨by omega, by omega⟩ rfl rfl (by decide) fun h23 ia' ic' x23 oI23 bI23 => ?_
      refine Wops_run rfl rfl (K_finL [(0, _), (2, _), (3, _), (4, _), (5, _), (7, _), (8, _)] rfl (?_))
      refine K_last (Wops_run rfl rfl (Wops_run rfl rfl (Wops_run rfl rfl (K_finL [(0, _), (2, _), (3, _), (4, _), (5, _), (7, _), (8, _)] rfl (?_)))))
      have F23 := (F21.ext0 x22).own x23 (fun j r => ⟨by have := ib j r; have := F17.fb; omega, .inl (ib j r)⟩) (M22.put x23 fun p hp r => by
        have := ib _ r
        simp only [List.mem_cons, List.not_mem_nil, or_false] at hp
        rcases hp with rfl | rfl | rfl | rfl <;> simp only [] at this <;> omega)
      have z21 := x21.next
      refine ⟨3 - (i + 1), by omega, i + 1, n20, ia', ic', _, by rw [w64s (by omega)], by omega, rfl, F23, oI23, fun j r => (bI23 j r).elim (ib j) fun r => by omega⟩
    · refine K_sskip (K_last (Wops_run rfl rfl (Wops_run rfl rfl (Wops_bslice (l := [_]) rfl rfl fun h22 n22 x22 g22 => ?_))))
      have M22 := (F20.ext0 x22).b.m
      refine Wops_app (m := 1) rfl rfl (oI20.ext x22) rfl (OwS.new (n := 1) (c := 1) g22 rfl).sl.first ⟨by omega, by omega⟩ rfl rfl (by decide) fun h23 ia' ic' x23 oI23 bI23 => ?_
      refine Wops_run rfl rfl (K_finL [(0, _), (2, _), (3, _), (4, _), (5, _), (7, _), (8, _)] rfl (?_))
      refine K_last (Wops_run rfl rfl (Wops_run rfl rfl (Wops_run rfl rfl (K_finL [(0, _), (2, _), (3, _), (4, _), (5, _), (7, _), (8, _)] rfl (?_)))))
      have F23 := (F20.ext0 x22).own x23 (fun j r => ⟨by have := ib j r; have := F17.fb; omega, .inl (ib j r)⟩) (M22.put x23 fun p hp r => by
        have := ib _ r
        simp only [List.mem_cons, List.not_mem_nil, or_false] at hp
        rcases hp with rfl | rfl | rfl | rfl <;> simp only [] at this <;> omega)
      refine ⟨3 - (i + 1), by omega, i + 1, n20, ia', ic', _, by rw [w64s (by omega)], by omega, rfl, F23, oI23, fun j r => (bI23 j r).elim (ib j) fun r => by omega⟩
  refine K_sexit (bx_same ?_)
  clear hc hi3
  -- elements, data
  have M17 := F17.b.m
  have hq17 := F17.hq
  refine K_reg (Wops_run rfl rfl (Wops_ldA (l := endC) rfl M17.2.2.2.1.2 (by simp) rfl (Wops_call rfl (F17.c48 (by decide)) ?_)))
  rintro _ h18 ⟨r18, n18, rfl, hr18, F18, x18⟩
  have z18 := x18.next
  refine Wops_chkA rfl rfl F18.b.m.2.2.2.1.2 (by simp) rfl rfl (Wops_run rfl rfl (Wops_run rfl rfl ?_))
  refine Wops_bslice (l := [.int .i64 65, .int .u32 0, .int .u32 0, _, nilS, .int .i64 0] ++ endC) rfl rfl fun h19 n19 x19 g19 => ?_
  refine Wops_run rfl rfl (K_fin [(0, _), (2, _), (3, _), (4, _), (5, _), (7, _), (10, _)] rfl (?_))
  refine K_reg (Wops_run rfl rfl (Wops_run rfl rfl (Wops_run rfl rfl (Wops_run rfl rfl (Wops_run rfl rfl ?_)))))
  refine Wops_bslice (l := [.int .u8 0, .int .u8 112, .int .u32 0, _, _, .int .u8 1, .int .u8 112, .int .u32 0, nilS, _]) rfl rfl fun h20 n20 x20 g20 => ?_
  have F20 := (F18.ext0 x19).ext0 x20
  have M20 := F20.b.m
  refine Wops_run rfl rfl (Wops_st (l := [_]) rfl rfl rfl rfl M20.2.1.2 (by simp) rfl fun h21 n21 x21 g21 => ?_)
  refine K_fin [(0, _), (2, _), (3, _), (4, _), (5, _)] rfl (?_)
  obtain ⟨el, hel, cel, qa, qc, eqe⟩ : ∃ v : Value, v = .slice (some ⟨h19.next, 0, none⟩) 2 1 ∧ isCell v = true ∧ ∃ (qa : Option Addr) (qc : Nat), v = .slice qa 2 qc := ⟨_, rfl, rfl, _, _, rfl⟩
  have F21 : MF h h21 pp xa xc xs n18 hi ta tc ty [(h.next, z13, 0), (pm, mC ta tc (.slice fa fs.length fc) tb me gl ex el (.bool false) (.int .u32 0) nilS nilS, 0), (bm, meC mv, 3), (pe, endC, 0)] fa fc fs pe q1 pm hB :=
    F20.own x21 (fun j r => ⟨by omega, .inr (by omega)⟩) ⟨⟨M20.1.1, M20.1.2.ext x21 fun r => by omega⟩, ⟨M20.2.1.1, by rw [hel]; exact g21⟩, ⟨M20.2.2.1.1, M20.2.2.1.2.ext x21 fun r => by omega⟩, ⟨M20.2.2.2.1.1, M20.2.2.2.1.2.ext x21 fun r => by omega⟩, trivial⟩
  have hq21 := F21.hq
  clear F20 M20 g21 g20 g19 F18 M17 F17 oI ib hel
  refine K_reg (Wops_bslice (l := ints .u8 [112, 97, 115, 115, 105, 118, 101]) rfl rfl fun h22 n22 x22 g22 => ?_)
  refine Wops_mark rfl (by decide) g22 (Wops_run rfl rfl (Wops_bslice (l := ints .u8 [1, 2, 255]) rfl rfl fun h23 n23 x23 g23 => ?_))
  refine Wops_run rfl rfl (Wops_bslice (l := [.int .u8 1, nilS, _, .int .u8 1, nilS, _]) rfl rfl fun h24 n24 x24 g24 => ?_)
  have F24 := ((F21.ext0 x22).ext0 x23).ext0 x24
  have M24 := F24.b.m
  refine Wops_run rfl rfl (Wops_st (l := [.slice (some ⟨h23.next, 0, none⟩) 2 1]) rfl rfl rfl rfl M24.2.1.2 (by simp) rfl fun h25 n25 x25 g25 => ?_)
  refine K_fin [(0, _), (2, _), (3, _), (4, _), (5, _)] rfl (?_)
  replace g25 : At h25 pm (.cells (mC ta tc (.slice fa fs.length fc) tb me gl ex el (.bool false) (.int .u32 0) nilS (.slice (some ⟨h23.next, 0, none⟩) 2 1)) 0 false) := g25
  have F25 : MF h h25 pp xa xc xs n18 hi ta tc ty [(h.next, z13, 0), (pm, mC ta tc (.slice fa fs.length fc) tb me gl ex el (.bool false) (.int .u32 0) nilS (.slice (some ⟨h23.next, 0, none⟩) 2 1), 0), (bm, meC mv, 3), (pe, endC, 0)] fa fc fs pe q1 pm hB :=
    F24.own x25 (fun j r => ⟨by omega, .inr (by omega)⟩) ⟨⟨M24.1.1, M24.1.2.ext x25 fun r => by omega⟩, ⟨M24.2.1.1, g25⟩, ⟨M24.2.2.1.1, M24.2.2.1.2.ext x25 fun r => by omega⟩, ⟨M24.2.2.2.1.1, M24.2.2.2.1.2.ext x25 fun r => by omega⟩, trivial⟩
  have gd25 := At.ext g24 x25 (fun r => by omega)
  have obd : q1 ≤ h23.next := by omega
  have hbdl := gd25.lt
  generalize h23.next = bd at F25 gd25 obd hbdl
  clear g25 M24 F24 g24 g23 g22 F21 hq21 hq17
  refine K_join (fun e h' => ∃ (n' : Nat) (l : Env), e = [(0, ptr pp), (2, ptr h.next), (3, ptr pm), (4, ptr pe), (5, .int .i64 (f : Int))] ++ l ∧ MF h h' pp xa xc xs n' hi ta tc ty [(h.next, z13, 0), (pm, mC ta tc (.slice fa fs.length fc) tb me gl ex el (.bool false) (.int .u32 0) nilS (.slice (some ⟨bd, 0, none⟩) 2 1), 0), (bm, meC mv, 3), (pe, endC, 0)] fa fc fs pe q1 pm hB) ?_ ?_
  · have M25 := F25.b.m
    refine K_reg (Wops_run rfl rfl (Wops_ld (v := .slice (some ⟨bm, 0, none⟩) 1 1) rfl M25.2.1.2 (by rw [hme]; rfl) (Wops_iaV rfl rfl ⟨by decide, by decide⟩ (Wops_run rfl rfl (Wops_ld (v := .int .u32 mv) rfl M25.2.2.1.2 rfl (Wops_run rfl rfl (K_fin [(0, _), (2, _), (3, _), (4, _), (5, _), (146, _)] rfl (?_))))))))
    refine K_cond rfl (fun _ => ?_) (fun _ => K_skip ⟨n18, _, rfl, F25⟩)
    refine K_last (Wops_run rfl rfl (Wops_ld (v := .slice (some ⟨bd, 0, none⟩) 2 1) rfl M25.2.1.2 rfl (Wops_run rfl rfl (Wops_ld (v := .slice (some ⟨bd, 0, none⟩) 2 1) rfl M25.2.1.2 rfl (Wops_run rfl rfl (Wops_ldA (l := endC) rfl M25.2.2.2.1.2 (by simp) rfl (Wops_call rfl (F25.c48 (by decide)) ?_)))))))
    rintro _ h26 ⟨r26, n26, rfl, hr26, F26, x26⟩
    have M26 := F26.b.m
    have gd26 := gd25.ext x26 fun r => by omega
    refine Wops_chk rfl rfl M26.2.1.2 (v := .slice (some ⟨bd, 0, none⟩) 2 1) rfl (by simp [sameV, sameCell]) (Wops_chk rfl rfl M26.2.1.2 (v := .slice (some ⟨bd, 0, none⟩) 2 1) rfl (by simp [sameV, sameCell]) (Wops_chkA rfl rfl M26.2.2.2.1.2 (by simp) rfl rfl (Wops_run rfl rfl (Wops_run rfl rfl ?_))))
    refine Wops_bslice (l := [.int .i64 65, .int .u32 0, .int .u32 0, _, nilS, .int .i64 0] ++ endC) rfl rfl fun h27 n27 x27 g27 => ?_
    have F27 := F26.ext0 x27
    have M27 := F27.b.m
    have gd27 := gd26.ext x27
    refine Wops_iaV rfl rfl ⟨by decide, by decide⟩ (Wops_run rfl rfl (Wops_st (l := [.int .u8 0]) rfl rfl rfl rfl gd27 (by simp) rfl fun h28 n28 x28 g28 => ?_))
    refine Wops_chkA rfl rfl (M27.2.2.2.1.2.ext x28 fun r => by omega) (by simp) rfl rfl ?_
    refine Wops_iaV rfl rfl ⟨by decide, by decide⟩ (Wops_run rfl rfl (Wops_st (l := [_]) rfl rfl rfl rfl g28 (by simp [putL]) rfl fun h29 n29 x29 g29 => ?_))
    refine K_finL [(0, _), (2, _), (3, _), (4, _), (5, _)] rfl ⟨n26, [], rfl, ?_⟩
    have x2729 := x28.trans x29
    exact F27.own x2729 (fun j r => ⟨by omega, .inl (by omega)⟩) (M27.put x2729 fun p hp r => by
      simp only [List.mem_cons, List.not_mem_nil, or_false] at hp
      rcases hp with rfl | rfl | rfl | rfl <;> simp only [] at r <;> omega)
  clear F25 gd25
  rintro e h26 ⟨n26, l26, rfl, F26⟩
  have M26 := F26.b.m
  have hq26 := F26.hq
  refine K_reg (Wops_run rfl rfl (Wops_st (l := [.bool true]) rfl rfl rfl rfl M26.2.1.2 (by simp) rfl fun h27 n27 x27 g27 => Wops_run rfl rfl (Wops_st (l := [.int .u32 2]) rfl rfl rfl rfl g27 (by simp [putL]) rfl fun h28 n28 x28 g28 => ?_)))
  replace g28 : At h28 pm (.cells (mC ta tc (.slice fa fs.length fc) tb me gl ex el (.bool true) (.int .u32 2) nilS (.slice (some ⟨bd, 0, none⟩) 2 1)) 0 false) := g28
  refine K_fin [(0, _), (2, _), (3, _), (4, _), (5, _)] rfl (?_)
  have x2628 := x27.trans x28
  obtain ⟨da, hda, cda, da', dc', eqd, hds⟩ : ∃ v : Value, v = .slice (some ⟨bd, 0, none⟩) 2 1 ∧ isCell v = true ∧ ∃ (qa : Option Addr) (qc : Nat), v = .slice qa 2 qc ∧ sameV (.slice qa 2 qc) (.slice qa 2 qc) = true := ⟨_, rfl, rfl, _, _, rfl, by simp [sameV, sameCell]⟩
  have F28 : MF h h28 pp xa xc xs n26 hi ta tc ty [(h.next, z13, 0), (pm, mC ta tc (.slice fa fs.length fc) tb me gl ex el (.bool true) (.int .u32 2) nilS da, 0), (bm, meC mv, 3), (pe, endC, 0)] fa fc fs pe q1 pm hB :=
    F26.own x2628 (fun j r => ⟨by omega, .inr (by omega)⟩) ⟨⟨M26.1.1, M26.1.2.ext x2628 fun r => by omega⟩, ⟨M26.2.1.1, by rw [hda]; exact g28⟩, ⟨M26.2.2.1.1, M26.2.2.1.2.ext x2628 fun r => by omega⟩, ⟨M26.2.2.2.1.1, M26.2.2.2.1.2.ext x2628 fun r => by omega⟩, trivial⟩
  clear g28 g27 M26 F26 hda
  -- the bodies
  have hf1 : 0 < fs.length := by omega
  have hf3 : fs.length ≤ 3 := by omega
  refine K_ss (K_reg (Wops_run rfl rfl (K_fin [(0, _), (2, _), (3, _), (4, _), (5, _), (11, _)] rfl (?_))))
  refine K_sblock ?_
  refine K_loop (fun k e h' => ∃ (i n' : Nat) (ca : Option Addr) (cc : Nat) (cl : List Value), e = [(0, ptr pp), (2, ptr h.next), (3, ptr pm), (4, ptr pe), (5, .int .i64 (f : Int)), (11, .int .i64 (i : Int))] ∧ i ≤ f ∧ k = f - i ∧
      MF h h' pp xa xc xs n' hi ta tc ty [(h.next, z13, 0), (pm, mC ta tc (.slice fa fs.length fc) tb me gl ex el (.bool true) (.int .u32 2) (.slice ca i cc) da, 0), (bm, meC mv, 3), (pe, endC, 0)] fa fc fs pe q1 pm hB ∧ OwS h' 2 ca i cc cl ∧ (∀ j, Blk ca j → q1 ≤ j) ∧ Cd h' (fun q => q1 ≤ q ∧ ¬ Blk ca q) cl i) ?_ (k := f)
    ⟨0, n26, none, 0, [], rfl, Nat.zero_le _, rfl, F28, OwS.none, fun i r => absurd r Blk.none, fun j hj => by omega⟩
  clear F28 x2628 x27 x28
  rintro k e h29 ⟨i, n29, ca, cc, cl, rfl, hif, rfl, F29, oC, cb, C29⟩
  refine K_ss (K_reg (Wops_run rfl rfl (Wops_run rfl rfl (Wops_run rfl rfl (K_fin [(0, _), (2, _), (3, _), (4, _), (5, _), (11, _), (165, _)] rfl (?_))))))
  refine K_scond rfl (fun hc => ?_) (fun hc => ?_)
  · have hin : i < f := by have := of_decide_eq_true hc; omega
    have hil : i < fs.length := by omega
    have M29 := F29.b.m
    have hq29 := F29.hq
    have hj : fs[i] < 6 := hf6 _ (List.getElem_mem hil)
    obtain ⟨pa, pn, pc, ps, ra, rn, rc, rs, ht, sp, sr, pS, rS, hpn, hrn⟩ := F29.b.tys _ hj
    obtain ⟨idt, offt, vst, ezt, rot, hta, gt, hlt, hlt2, hgt⟩ := F29.b.st.at (by omega)
    have hpl : ps.length = pn := by simpa using sp.len
    have hrl : rs.length = rn := by simpa using sr.len
    have wt : (vst.drop (offt + ((fs[i] : Nat) : Int).toNat * 2)).take 2 = [.slice pa pn pc, .slice ra rn rc] := by
      rw [Int.toNat_natCast, ← ht]
      apply List.ext_getElem?
      intro q
      by_cases hq : q < 2
      · rw [List.getElem?_take_of_lt hq, List.getElem?_drop, List.getElem?_take_of_lt hq, List.getElem?_drop, Nat.add_assoc, hgt _ (by omega)]
      · rw [List.getElem?_eq_none (by simp; omega), List.getElem?_eq_none (by simp; omega)]
    refine K_sskip (K_sblock ?_)
    refine K_reg (Wops_run rfl rfl (Wops_ld (v := .slice (some ⟨idt, offt, none⟩) 6 tc) rfl M29.2.1.2 (by rw [hta]; rfl) (Wops_run rfl rfl (Wops_ld (v := .slice fa fs.length fc) rfl M29.2.1.2 rfl (Wops_run rfl rfl ?_)))))
    refine Wops_idx (u := .int .u32 (fs[i] : Int)) rfl rfl F29.sF ⟨by omega, by omega⟩ (by simp [hil]) fun _ => ?_
    refine Wops_iaV rfl rfl ⟨by omega, by omega⟩ (Wops_ldA rfl gt (by rw [Int.toNat_natCast]; omega) wt (Wops_new fun h30 n30 x30 g30 => ?_))
    refine Wops_st (l := [.slice pa pn pc, .slice ra rn rc]) rfl rfl rfl rfl g30 (by simp) rfl fun h31 n31 x31 g31 => ?_
    refine K_fin [(0, _), (2, _), (3, _), (4, _), (5, _), (11, _), (12, _)] rfl (?_)
    replace g31 : At h31 h29.next (.cells [.slice pa pn pc, .slice ra rn rc] 0 false) := g31
    refine K_reg (Wops_bslice (l := ints .u8 [127, 126, 127]) rfl rfl fun h32 n32 x32 g32 => Wops_run rfl rfl (Wops_new fun h33 n33 x33 g33 => Wops_st (l := [.slice (some ⟨h31.next, 0, none⟩) 3 1, nilS]) rfl rfl rfl rfl g33 (by simp) rfl fun h34 n34 x34 g34 => ?_))
    refine K_fin [(0, _), (2, _), (3, _), (4, _), (5, _), (11, _), (12, _), (13, _)] rfl (?_)
    replace g34 : At h34 h32.next (.cells [.slice (some ⟨h31.next, 0, none⟩) 3 1, nilS] 0 false) := g34
    have x2931 : Ext0 h29 h31 := x30.then x31 fun j r => .inr (by omega)
    have x3234 : Ext0 h32 h34 := x33.then x34 fun j r => .inr (by omega)
    have x2934 : Ext0 h29 h34 := (x2931.trans x32).trans x3234
    have sloc : SlA h34 1 (some ⟨h31.next, 0, none⟩) 3 1 (ints .u8 [127, 126, 127]) := (OwS.new (n := 3) (c := 1) g32 rfl).sl.ext x3234
    refine K_reg (Wops_run rfl rfl (Wops_bslice (l := []) rfl rfl fun h35 n35 x35 g35 => ?_))
    have g12 := (((g31.ext x32).ext x3234).ext x35)
    have g13 := g34.ext x35
    refine Wops_run rfl rfl (Wops_ld (v := .slice pa pn pc) rfl g12 rfl (Wops_run rfl rfl (Wops_ld (v := .slice (some ⟨h31.next, 0, none⟩) 3 1) rfl g13 rfl (Wops_run rfl rfl ?_))))
    refine Wops_app (m := pn) rfl rfl (OwS.new (n := 0) g35 rfl) rfl (sp.ext (x2934.trans x35)).first ⟨by omega, by omega⟩ (by simp [hpl]) (ints_cell _ _) (by decide) fun h36 a36 c36 x36 o36 b36 => ?_
    have b36' : ∀ j, Blk a36 j → h34.next ≤ j := fun j r => (b36 j r).elim (fun r => by rw [Blk.at] at r; omega) fun r => by omega
    have x3436 : Ext0 h34 h36 := x35.then x36 fun j r => .inr (by rw [Blk.at] at r; omega)
    have z36 := x3436.next
    have g12' := ((g31.ext x32).ext x3234).ext x3436
    have g13' := g34.ext x3436
    refine Wops_chk rfl rfl g13' (v := .slice (some ⟨h31.next, 0, none⟩) 3 1) rfl (by simp [sameV, sameCell]) ?_
    refine Wops_app (m := 3) rfl rfl o36 rfl (sloc.ext x3436).first ⟨by omega, by omega⟩ rfl rfl (by decide) fun h37 a37 c37 x37 o37 b37 => ?_
    have b37' : ∀ j, Blk a37 j → h34.next ≤ j := fun j r => (b37 j r).elim (b36' j) fun r => by omega
    have x2937 : Ext0 h29 h37 := (x2934.trans x3436).then x37 fun j r => .inr (by have := b36' j r; have := x2934.next; omega)
    have z37 := x37.next
    have z2937 := x2937.next
    have z2934 := x2934.next
    have z2931 := x2931.next
    refine Wops_run rfl rfl (Wops_box (cs := [ptr pp, ptr pm, .slice a37 (0 + pn + 3) c37, nilS, .int .i64 0, .int .i64 (i : Int)]) rfl rfl fun h38 n38 x38 g38 => ?_)
    refine Wops_run rfl rfl (K_fin [(0, _), (2, _), (3, _), (4, _), (5, _), (11, _), (12, _), (13, _), (14, _)] rfl (?_))
    have x2938 := x2937.trans x38
    have F38 := F29.ext0 x2938
    have M38 := F38.b.m
    have hlsl : (ps ++ [127, 126, 127]).length = 0 + pn + 3 := by rw [List.length_append, hpl]; simp
    have ppl := F38.b.pl
    -- the maker
    have m38 : Mk ⟨h37.next, pp, pm, a37, c37, ps ++ [127, 126, 127], (i : Int), xa, xc, xs, mC ta tc (.slice fa fs.length fc) tb me gl ex el (.bool true) (.int .u32 2) (.slice ca i cc) da, fa, fc, fs, ta, tc, ty, fun j => j < h37.next ∧ j ≠ pp⟩ h38 ⟨none, 0, [], 0, n29⟩ := by
      refine ⟨⟨fun j r => by have := r.1; omega, M38.2.1.2, (show pm < h37.next ∧ pm ≠ pp from ⟨by have := M29.2.1.2.lt; omega, by omega⟩), rfl, rfl, F38.sF, fun j r => ⟨by have := F38.fb j r; omega, by have := F38.fb j r; omega⟩, hf6, hf1, hf3, F38.b.st, fun j r => ⟨by have := F38.b.tS j r; omega, by have := F38.b.tS j r; omega⟩,
        F38.b.tys.mono fun j r => ⟨by have := r.2; omega, by have := r.1; omega⟩, F38.b.sx, fun j r => ⟨by have := (F38.b.xS j r).1; omega, (F38.b.xS j r).2⟩, xw, xl, ?_, fun j r => ⟨o37.lt r, by have := b37' j r; omega⟩, ?_⟩, ?_, F38.b.gp, F38.b.hn, ⟨[], OwS.none, InL.nil⟩, fun r => absurd (show h37.next < h37.next from r.1) (Nat.lt_irrefl _), fun r => r.2 rfl, ?_, fun j r => absurd r Blk.none⟩
      · show SlA h38 1 a37 (ps ++ [127, 126, 127]).length c37 (ints .u8 (ps ++ [127, 126, 127]))
        rw [hlsl, show ints .u8 (ps ++ [127, 126, 127]) = [] ++ ints .u8 ps ++ ints .u8 [127, 126, 127] by simp [ints]]
        exact (o37.ext x38).sl
      · show (ps ++ [127, 126, 127]).length ≤ 10
        rw [hlsl]; omega
      · show At h38 h37.next (.cells [ptr pp, ptr pm, .slice a37 (ps ++ [127, 126, 127]).length c37, .slice none 0 0, .int .i64 0, .int .i64 (i : Int)] 0 false)
        rw [hlsl]; exact g38
      · show h37.next ≠ pp
        omega
    obtain ⟨K, hK⟩ : ∃ K : Kt, K = ⟨h37.next, pp, pm, a37, c37, ps ++ [127, 126, 127], (i : Int), xa, xc, xs, mC ta tc (.slice fa fs.length fc) tb me gl ex el (.bool true) (.int .u32 2) (.slice ca i cc) da, fa, fc, fs, ta, tc, ty, fun j => j < h37.next ∧ j ≠ pp⟩ := ⟨_, rfl⟩
    rw [← hK] at m38
    have kk : K.pk = h37.next := by rw [hK]
    have kp : K.pp = pp := by rw [hK]
    have kx : K.xs = xs := by rw [hK]
    have G38 := Go.refl m38
    have p38 : pot K ⟨none, 0, [], 0, n29⟩ ≤ 30000 := by
      unfold pot; rw [kx]; simp only [List.length_nil]; omega
    rw [← kk, ← kp]
    refine K_reg (Wops_run rfl rfl (Wops_run rfl rfl (Wops_call rfl (G38.c48 (by decide)) ?_)))
    rintro _ h39 ⟨r39, n39, rfl, hr39, G39, hn39, hp39, hu39, hz39, x39⟩
    refine Wops_call rfl (G39.c49 (by omega) (by omega)) ?_
    rintro v40 h40 ⟨s40, G40, hn40, hp40⟩
    refine K_fin [(0, _), (2, _), (3, _), (4, _), (5, _), (11, _), (12, _), (13, _), (14, _)] rfl (?_)
    have tt : ∀ {h' : Heap} {s' : St} {st : List Bool}, Go K h38 ⟨none, 0, [], 0, n29⟩ h' s' st → Ext (fun j => j = h37.next ∨ j = pp) h38 h' := fun g => g.x.mono fun j _ r => by
      rcases r with r | r | r
      · exact .inl (by rw [r, kk])
      · exact .inr (by rw [r, kp])
      · exact absurd r Blk.none
    have g12e := (g12'.ext x37 fun r => by have := b36' _ r; omega).ext x38
    have g13e := (g13'.ext x37 fun r => by have := b36' _ r; omega).ext x38
    have sr38 := sr.ext x2938
    refine K_ss (K_reg (Wops_run rfl rfl (K_fin [(0, _), (2, _), (3, _), (4, _), (5, _), (11, _), (12, _), (13, _), (14, _), (15, _)] rfl (?_))))
    refine K_sblock ?_
    refine K_loop (fun k e h' => ∃ (j : Nat) (s1 : St), e = [(0, ptr K.pp), (2, ptr h.next), (3, ptr pm), (4, ptr pe), (5, .int .i64 (f : Int)), (11, .int .i64 (i : Int)), (12, ptr h29.next), (13, ptr h32.next), (14, ptr K.pk), (15, .int .i64 (j : Int))] ∧ j ≤ rn ∧ k = rn - j ∧ Go K h38 ⟨none, 0, [], 0, n29⟩ h' s1 [] ∧ pot K s1 ≤ 30000 + j) ?_ (k := rn)
      ⟨0, s40, rfl, Nat.zero_le _, rfl, G40, by omega⟩
    clear G40 hp40 hn40 G39 hp39 hn39 x39 hu39 hz39
    rintro k e h41 ⟨j, s41, rfl, hjr, rfl, G41, p41⟩
    have T41 := tt G41
    have z41 := T41.next
    have g12f := g12e.ext T41 fun r => by omega
    have g13f := g13e.ext T41 fun r => by omega
    refine K_ss (K_reg (Wops_run rfl rfl (Wops_run rfl rfl (Wops_ld (v := .slice ra rn rc) rfl g12f rfl (Wops_run rfl rfl (Wops_run rfl rfl (K_fin [(0, _), (2, _), (3, _), (4, _), (5, _), (11, _), (12, _), (13, _), (14, _), (15, _), (198, _)] rfl (?_))))))))
    refine K_scond rfl (fun hc => ?_) (fun hc => ?_)
    · have hjn : j < rn := by have := of_decide_eq_true hc; omega
      have hjl : j < rs.length := by omega
      have sr41 := sr38.ext T41 fun q r => by have := rS q r; omega
      refine K_sskip (K_sblock ?_)
      refine K_last (Wops_run rfl rfl (Wops_run rfl rfl (Wops_ld (v := .slice ra rn rc) rfl g12f rfl (Wops_run rfl rfl (Wops_idx (u := .int .u8 rs[j]) rfl rfl sr41 ⟨by omega, by omega⟩ (by simp [hjl]) fun _ => ?_)))))
      refine Wops_call rfl (G41.c50 (by omega)) ?_
      rintro v42 h42 ⟨s42, G42, hn42, hp42⟩
      refine K_finL [(0, _), (2, _), (3, _), (4, _), (5, _), (11, _), (12, _), (13, _), (14, _), (15, _)] rfl (?_)
      refine K_last (Wops_run rfl rfl (Wops_run rfl rfl (Wops_run rfl rfl (K_finL [(0, _), (2, _), (3, _), (4, _), (5, _), (11, _), (12, _), (13, _), (14, _), (15, _)] rfl (?_)))))
      exact ⟨rn - (j + 1), by omega, j + 1, s42, by rw [w64s (by omega)], by omega, rfl, G42, by omega⟩
    refine K_sexit (bx_same ?_)
    -- the body is done
    have hops : s41.ops.length ≤ 100100 := pot_opsB G41.m (by omega)
    obtain ⟨l41, o41, il41⟩ := G41.m.o
    obtain ⟨w41, hw41, ow41⟩ := G41.w
    have hw : s41.ops = w41 := by simpa using hw41
    have hpk : At h41 h37.next (.cells (pkC K s41) 0 false) := by rw [← kk]; exact G41.m.gk
    have oab : ∀ q, Blk s41.oa q → h38.next ≤ q := fun q r => (G41.b q r).elim (fun r => absurd r Blk.none) id
    have F41 : MF h h41 pp xa xc xs s41.n hi ta tc ty [(h.next, z13, 0), (pm, mC ta tc (.slice fa fs.length fc) tb me gl ex el (.bool true) (.int .u32 2) (.slice ca i cc) da, 0), (bm, meC mv, 3), (pe, endC, 0)] fa fc fs pe q1 pm hB := by
      have gp41 := G41.m.gp
      have hn41 := G41.m.hn
      have sx41 := G41.m.z.sx
      rw [hK] at gp41 hn41 sx41
      have hne : ∀ q, h.next ≤ q → q < h37.next → ¬ (q = h37.next ∨ q = pp) := fun q h1 h2 r => by omega
      refine ⟨⟨F38.b.x.then T41 fun q r => by rcases r with r | r; exact .inr (by omega); exact .inl r, gp41, hn41, sx41, F38.b.st.ext T41 fun q r => hne q (by have := F38.b.tS q r; omega) (by have := F38.b.tS q r; omega), F38.b.tS, F38.b.tys.ext T41 fun q r => hne q (Nat.le_of_lt r.1) (by have := r.2; omega), F38.b.m.put T41 fun p hp r => ?_, by omega, F38.b.pl, F38.b.xS, xw, xl⟩, F38.sF.ext T41 fun q r => hne q (by have := F38.fb q r; omega) (by have := F38.fb q r; omega), F38.fb, by omega, F38.o, F38.o2, F38.o3, F38.q0, F38.y.then T41 fun q r => by have := F38.q0; omega⟩
      simp only [List.mem_cons, List.not_mem_nil, or_false] at hp
      rcases hp with rfl | rfl | rfl | rfl <;> simp only [] at r <;> omega
    have M41 := F41.b.m
    have hne : ∀ q, q1 ≤ q → q < h37.next → ¬ (q = h37.next ∨ q = pp) := fun q h1 h2 r => by omega
    have oC41 := (oC.ext x2938).ext T41 fun q r => hne q (cb q r) (by have := oC.lt r; omega)
    have C41 := ((C29.ext x2938 fun q _ r => r).mono (T := fun q => q1 ≤ q ∧ ¬ Blk ca q) fun q _ r => r)
    have C41' : Cd h41 (fun q => q1 ≤ q ∧ ¬ Blk ca q) cl i := fun j hj => by
      obtain ⟨ls, ba, bn, bc, l, w, q1', q2, q3, q4⟩ := C29 j hj
      exact ⟨ls, ba, bn, bc, l, w, q1', (q2.ext x2938).ext T41 fun q r => hne q (q4 q r).1 (by have := q2.lt q r; omega), q3, q4⟩
    refine K_reg (Wops_run rfl rfl (Wops_run rfl rfl (Wops_run rfl rfl (Wops_ld (v := .slice s41.oa s41.ops.length s41.oc) rfl G41.m.gk rfl (Wops_ldA (l := endC) rfl M41.2.2.2.1.2 (by simp) rfl ?_)))))
    refine Wops_bslice (l := endC) rfl rfl fun h42 n42 x42 g42 => ?_
    refine Wops_app (m := 1) rfl rfl (o41.ext x42) rfl (OwS.new (n := 1) (c := 1) g42 rfl).sl.first ⟨by omega, by omega⟩ rfl rfl (by decide) fun h43 a43 c43 x43 o43 b43 => ?_
    have b43' : ∀ q, Blk a43 q → h38.next ≤ q := fun q r => (b43 q r).elim (oab q) fun r => by omega
    have F42 := F41.ext0 x42
    have M42 := F42.b.m
    have F43 := F42.own x43 (fun q r => ⟨by have := oab q r; omega, .inl (by have := oab q r; omega)⟩) (M42.put x43 fun p hp r => by
      have := oab _ r
      simp only [List.mem_cons, List.not_mem_nil, or_false] at hp
      rcases hp with rfl | rfl | rfl | rfl <;> simp only [] at this <;> omega)
    have g13g := (g13f.ext x42).ext x43 fun r => by have := oab _ r; omega
    refine Wops_run rfl rfl (Wops_st (l := [.slice a43 (s41.ops.length + 1) c43]) rfl rfl rfl rfl g13g (by simp) rfl fun h44 n44 x44 g44 => ?_)
    refine K_fin [(0, _), (2, _), (3, _), (4, _), (5, _), (11, _), (13, _)] rfl (?_)
    replace g44 : At h44 h32.next (.cells [.slice (some ⟨h31.next, 0, none⟩) 3 1, .slice a43 (s41.ops.length + 1) c43] 0 false) := g44
    have M43 := F43.b.m
    have F44 := F43.own x44 (fun q r => ⟨by omega, .inl (by omega)⟩) (M43.put x44 fun p hp r => by
      simp only [List.mem_cons, List.not_mem_nil, or_false] at hp
      rcases hp with rfl | rfl | rfl | rfl <;> simp only [] at r <;> omega)
    have I44 : Ins h44 a43 (s41.ops.length + 1) c43 (l41 ++ endC) (w41 ++ [11]) := by
      have il := il41.app (InL.one (o := 11) (a := .int .u32 0) (b := .int .u32 0) (c := .int .u64 0) (d := .slice none 0 0) (e := .int .i64 0) rfl)
      rw [hw] at il
      have o44 := o43.ext x44 fun q r e => by have := b43' q r; omega
      refine ⟨o44.sl, by rw [List.length_append, hw]; simp, il.op, il.cell, by omega, fun q r => o44.lt r⟩
    have oC44 := ((oC41.ext x42).ext x43 fun q r e => by have := oab q e; have := oC.lt r; omega).ext x44 fun q r e => by have := oC.lt r; omega
    have C44 : Cd h44 (fun q => q1 ≤ q ∧ ¬ Blk ca q) cl i := fun j hj => by
      obtain ⟨ls, ba, bn, bc, l, w, q1', q2, q3, q4⟩ := C41' j hj
      obtain ⟨_, _, _, _, _, _, q1'', q2', _, _⟩ := C29 j hj
      have hlt : ∀ q, Blk ba q → q < h29.next := by
        intro q r
        have e1 := q1'.symm.trans q1''
        simp only [List.cons.injEq, Value.slice.injEq] at e1
        exact q2'.lt q (by rw [← e1.2.1.1]; exact r)
      exact ⟨ls, ba, bn, bc, l, w, q1', ((q2.ext x42).ext x43 fun q r e => by have := oab q e; have := hlt q r; omega).ext x44 fun q r e => by have := hlt q r; omega, q3, q4⟩
    have M44 := F44.b.m
    refine K_last (Wops_run rfl rfl (Wops_ld (v := .slice ca i cc) rfl M44.2.1.2 rfl (Wops_ldA (l := [.slice (some ⟨h31.next, 0, none⟩) 3 1, .slice a43 (s41.ops.length + 1) c43]) rfl g44 (by simp) rfl ?_)))
    refine Wops_bslice (l := [.slice (some ⟨h31.next, 0, none⟩) 3 1, .slice a43 (s41.ops.length + 1) c43]) rfl rfl fun h45 n45 x45 g45 => ?_
    refine Wops_app (m := 1) rfl rfl (oC44.ext x45) rfl (OwS.new (n := 1) (c := 1) g45 rfl).sl.first ⟨by omega, by omega⟩ rfl rfl (by decide) fun h46 ca' cc' x46 oC46 bC46 => ?_
    have F45 := F44.ext0 x45
    have M45 := F45.b.m
    have F46 := F45.own x46 (fun q r => ⟨by have := cb q r; omega, .inl (cb q r)⟩) (M45.put x46 fun p hp r => by
      have := cb _ r
      simp only [List.mem_cons, List.not_mem_nil, or_false] at hp
      rcases hp with rfl | rfl | rfl | rfl <;> simp only [] at this <;> omega)
    have M46 := F46.b.m
    have bC46' : ∀ q, Blk ca' q → q1 ≤ q := fun q r => (bC46 q r).elim (cb q) fun r => by have := F45.hq; omega
    refine Wops_run rfl rfl (Wops_st (l := [.slice ca' (i + 1) cc']) rfl rfl rfl rfl M46.2.1.2 (by simp) rfl fun h47 n47 x47 g47 => ?_)
    replace g47 : At h47 pm (.cells (mC ta tc (.slice fa fs.length fc) tb me gl ex el (.bool true) (.int .u32 2) (.slice ca' (i + 1) cc') da) 0 false) := g47
    refine K_finL [(0, _), (2, _), (3, _), (4, _), (5, _), (11, _)] rfl (?_)
    refine K_last (Wops_run rfl rfl (Wops_run rfl rfl (Wops_run rfl rfl (K_finL [(0, _), (2, _), (3, _), (4, _), (5, _), (11, _)] rfl (?_)))))
    have a43ca : ∀ q, Blk a43 q → ¬ Blk ca q := fun q r e => by have := b43' q r; have := oC.lt e; omega
    have C44s := (C44.snoc (ls := (some ⟨h31.next, 0, none⟩, 3, 1)) (by have := oC.sl.len; omega) I44 (by rw [← hw]; exact hw ▸ ow41) fun q r => ⟨by have := b43' q r; omega, a43ca q r⟩)
    have C46 : Cd h46 (fun q => q1 ≤ q ∧ ¬ Blk ca' q) (cl ++ [.slice (some ⟨h31.next, 0, none⟩) 3 1, .slice a43 (s41.ops.length + 1) c43]) (i + 1) := by
      refine fun j hj => ?_
      obtain ⟨ls, ba, bn, bc, l, w, q1', q2, q3, q4⟩ := C44s j hj
      exact ⟨ls, ba, bn, bc, l, w, q1', (q2.ext x45).ext x46 fun q r => (q4 q r).2, q3, fun q r => ⟨(q4 q r).1, fun e => (bC46 q e).elim (q4 q r).2 fun e => by have := q2.lt q r; omega⟩⟩
    refine ⟨f - (i + 1), by omega, i + 1, s41.n, ca', cc', _, by rw [w64s (by omega), kp], by omega, rfl, (by rw [kp]; exact F46.own (L' := [(h.next, z13, 0), (pm, mC ta tc (.slice fa fs.length fc) tb me gl ex el (.bool true) (.int .u32 2) (.slice ca' (i + 1) cc') da, 0), (bm, meC mv, 3), (pe, endC, 0)]) x47 (fun q r => ⟨by omega, .inr (by omega)⟩) ⟨⟨M46.1.1, M46.1.2.ext x47 fun r => by omega⟩, ⟨M46.2.1.1, g47⟩, ⟨M46.2.2.1.1, M46.2.2.1.2.ext x47 fun r => by omega⟩, ⟨M46.2.2.2.1.1, M46.2.2.2.1.2.ext x47 fun r => by omega⟩, trivial⟩), oC46.ext x47 (fun q r e => by have := bC46' q r; omega), bC46', C46.ext x47 fun q r e => by have := r.1; omega⟩
  -- all of it
  have hie : i = f := by have := of_decide_eq_false hc; omega
  subst hie
  refine K_sexit (bx_same ?_)
  have M29 := F29.b.m
  have hq29 := F29.hq
  refine K_reg (Wops_ldA (l := mC ta tc (.slice fa fs.length fc) tb me gl ex el (.bool true) (.int .u32 2) (.slice ca i cc) da) rfl M29.2.1.2 (by simp) rfl (Wops_st (l := mC ta tc (.slice fa fs.length fc) tb me gl ex el (.bool true) (.int .u32 2) (.slice ca i cc) da) rfl rfl rfl rfl M29.1.2 (by simp) ?_ fun h30 n30 x30 g30 => ?_))
  · rw [htb, hme]; simp only [List.all_cons, List.all_nil, cgl, cex, cel, cda]; rfl
  refine K_fin [(2, _)] rfl (?_)
  have x30' : Ext (· = pp) h h30 := F29.b.x.then x30 fun q r => .inr (by omega)
  have Y30 : Ext (fun i => i = pp ∨ i = pm ∨ i = h.next) hB h30 := (F29.y.mono fun i _ r => by rcases r with r | r; exact .inl r; exact .inr (.inl r)).then x30 fun i r => .inl (.inr (.inr r))
  have ppl := F29.b.pl
  refine K_ret (Told.mk _ (resL_cons (res_c (l := mC ta tc (.slice fa fs.length fc) tb me gl ex el (.bool true) (.int .u32 2) (.slice ca i cc) da) rfl g30 (by simp [putL]) (by rfl)) rfl) ?_)
  refine ⟨⟨ta, tc, ty, fa, fc, fs, bt, tx, th, bm, mv, bg, i0, i1, v0, _, ea, ec, elx, qa, qc, da', dc', ca, cc, cl⟩, ?_, ?_, ⟨F29.b.st.ext x30 fun q r e => by have := F29.b.tS q r; omega, (F29.b.tys.ext x30 fun q r e => by have := r.1; omega).mono fun _ _ => trivial, F29.sF.ext x30 fun q r e => by have := F29.fb q r; omega, hf6, hf1, hf3, gt17.ext Y30 fun r => by omega, M29.2.2.1.2.ext x30 fun r => by omega, hmw, gg17.ext Y30 fun r => by omega, gj17.ext Y30 fun r => by omega, gi17.ext Y30 fun r => by omega, hv0, rfl, hds, ?_, ?_, ?_, ?_⟩, x30'⟩
  · show Value.agg ⟨_⟩ = Value.agg ⟨_⟩
    rw [htb, hme, hgl, hex, eqe, eqd, ← hfl]
    try rfl
  · show List.all (mC ta tc (.slice fa fs.length fc) (.slice (some ⟨bt, 0, none⟩) 1 1) (.slice (some ⟨bm, 0, none⟩) 1 1) (.slice (some ⟨bg, 0, none⟩) 2 1) (.slice ea fs.length ec) (.slice qa 2 qc) (.bool true) (.int .u32 2) (.slice ca fs.length cc) (.slice da' 2 dc')) isCell = true
    rfl
  · show SlA h30 3 ea fs.length ec elx
    rw [hfl]
    exact se17.ext Y30 fun q r e => by have := ebq q r; have := q1l q r; omega
  · show ExL elx fs.length
    rw [hfl]; exact hEx
  · show SlA h30 2 ca fs.length cc cl
    rw [hfl]
    exact oC.sl.ext x30 fun q r e => by have := cb q r; omega
  · intro j hj
    rw [hfl] at hj
    obtain ⟨ls, ba, bn, bc, l, w, q1', q2, q3, q4⟩ := C29 j hj
    exact ⟨ls, ba, bn, bc, l, w, q1', q2.ext x30 fun q r e => by have := (q4 q r).1; omega, q3⟩
end Go.Dx.SYtpogcjdenefhlaa
