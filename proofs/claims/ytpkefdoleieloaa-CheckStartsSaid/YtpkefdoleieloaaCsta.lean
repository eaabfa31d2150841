/- Texts merged: Vs0.lean, Vs1.lean, Rv0.lean, Rv1.lean, Rv2.lean, Vs2.lean. -/
import Derived.Test.YtpkefdoleieloaaCszVT
import Derived.Test.YtpkefdoleieloaaCsz38
namespace Go.Dx.SYtpkefdoleieloaa
open Go.Proofs
set_option linter.unusedVariables false
set_option linter.unusedSimpArgs false
section
/- Types of bodies: what val computes, in plain words. -/
structure Ins where
  op : Int
  a : Nat
  b : Nat
  n : Nat
  l : List Nat
  t : Int
structure Mo where
  types : List (List Nat × List Nat)
  funcs : List Nat
  tables : List Nat
  mems : Nat
  globals : List (Nat × Bool)
  elems : List Nat
  counts : Bool
  count : Nat
  datas : Nat
  decl : List Bool
structure VB where
  op : Int
  fr : List Nat
  to : List Nat
  ht : Nat
  dead : Bool
structure VS where
  l : List Nat
  op : List VB
  bad : Bool
namespace VS
def top (s : VS) : VB := s.op.getLastD ⟨0,[],[],0,false⟩
def fails (b : Bool) (s : VS) : VS := { s with bad := s.bad || b }
def push (ts : List Nat) (s : VS) : VS := { s with l := s.l ++ ts }
def pop (s : VS) : Nat × VS := if s.l.length = s.top.ht then (0,s.fails (!s.top.dead)) else (s.l.getLastD 0,{ s with l := s.l.dropLast })
def want (t : Nat) (s : VS) : Nat × VS := (s.pop.1,s.pop.2.fails (decide (s.pop.1 ≠ t ∧ s.pop.1 ≠ 0 ∧ t ≠ 0)))
def takeR : List Nat → VS → List Nat × VS
  | [],s => ([],s)
  | t :: r,s => ((takeR r (s.want t).2).1 ++ [(s.want t).1],(takeR r (s.want t).2).2)
def take (ts : List Nat) (s : VS) : List Nat × VS := takeR ts.reverse s
def opens (op : Int) (fr to : List Nat) (s : VS) : VS := { s with op := s.op ++ [⟨op,fr,to,s.l.length,false⟩],l := s.l ++ fr }
def shut (s : VS) (b : VB) : VS := { l := s.l.take b.ht,op := s.op.dropLast,bad := s.bad || decide (s.l.length ≠ b.ht) }
def closes (s : VS) : VB × VS := (s.top,(s.take s.top.to).2.shut s.top)
def rests (s : VS) : VS := { s with l := s.l.take s.top.ht,op := s.op.dropLast ++ [{ s.top with dead := true }] }
def function (M : Mo) (t : Nat) (s : VS) : (List Nat × List Nat) × VS := if t < M.types.length then (M.types.getD t ([],[]),s) else (([],[]),s.fails true)
def signature (M : Mo) (t : Int) (s : VS) : (List Nat × List Nat) × VS :=
  if t = -64 then (([],[]),s) else if t < 0 then (([],[((t + 128) % 256).toNat]),s) else function M t.toNat s
def labels (b : VB) : List Nat := if b.op = 3 then b.fr else b.to
def label (n : Nat) (s : VS) : List Nat × VS := if n < s.op.length then (labels (s.op.getD (s.op.length - 1 - n) ⟨0,[],[],0,false⟩),s) else ([],s.fails true)
def table (M : Mo) (n : Nat) (s : VS) : Nat × VS := if n < M.tables.length then (M.tables.getD n 0,s) else (0,s.fails true)
def elem (M : Mo) (n : Nat) (s : VS) : Nat × VS := if n < M.elems.length then (M.elems.getD n 0,s) else (0,s.fails true)
def glob (M : Mo) (n : Nat) (s : VS) : (Nat × Bool) × VS := if n < M.globals.length then (M.globals.getD n (0,false),s) else ((0,false),s.fails true)
def loc (L : List Nat) (n : Nat) (s : VS) : Nat × VS := if n < L.length then (L.getD n 0,s) else (0,s.fails true)
def memory (M : Mo) (s : VS) : VS := s.fails (decide (M.mems = 0))
def data (M : Mo) (n : Nat) (s : VS) : VS := if M.counts = true then s.fails (decide (n ≥ M.count)) else s.fails (decide ¬ n < M.datas)
def own (t : Nat) : Bool := decide (t = 112 ∨ t = 111)
def fits (i o : List Nat) (s : VS) : VS := (s.take i).2.push o
def branch (last : List Nat) (s : VS) (n : Nat) : VS :=
  (((s.label n).2.fails (decide ((s.label n).1.length ≠ last.length))).take (s.label n).1).2.push (((s.label n).2.fails (decide ((s.label n).1.length ≠ last.length))).take (s.label n).1).1
def branches (x : Ins) (s : VS) : VS :=
  let s0 := (s.want 127).2
  (((x.l.foldl (branch (s0.label x.a).1) (s0.label x.a).2).take (s0.label x.a).1).2).rests
def calls (M : Mo) (f : Nat) (s : VS) : VS :=
  if f < M.funcs.length then fits ((s.function M (M.funcs.getD f 0)).1.1) ((s.function M (M.funcs.getD f 0)).1.2) (s.function M (M.funcs.getD f 0)).2 else s.fails true
def blk (M : Mo) (x : Ins) (s : VS) : VS :=
  let s1 := if x.op = 4 then (s.want 127).2 else s
  let r := s1.signature M x.t
  ((r.2.take r.1.1).2).opens x.op r.1.1 r.1.2
def els (s : VS) : VS := (s.closes.2.fails (decide (s.closes.1.op ≠ 4))).opens 5 s.closes.1.fr s.closes.1.to
def ends (s : VS) : VS :=
  let s1 := s.closes.2.fails (decide (s.closes.1.op = 4 ∧ s.closes.1.fr ≠ s.closes.1.to))
  if s1.op = [] then s1 else s1.push s.closes.1.to
def callI (M : Mo) (x : Ins) (s : VS) : VS :=
  let s1 := ((s.table M x.b).2.fails (decide ((s.table M x.b).1 ≠ 112)))
  let r := ((s1.want 127).2).function M x.a
  fits r.1.1 r.1.2 r.2
def control (M : Mo) (x : Ins) (s : VS) : Option VS :=
  if x.op = 0 then some s.rests
  else if x.op = 1 then some s
  else if x.op = 2 ∨ x.op = 3 ∨ x.op = 4 then some (s.blk M x)
  else if x.op = 5 then some s.els
  else if x.op = 11 then some s.ends
  else if x.op = 12 then some ((s.label x.a).2.take (s.label x.a).1).2.rests
  else if x.op = 13 then some (fits ((s.want 127).2.label x.a).1 ((s.want 127).2.label x.a).1 ((s.want 127).2.label x.a).2)
  else if x.op = 14 then some (s.branches x)
  else if x.op = 15 then some (s.take (s.op.headD ⟨0,[],[],0,false⟩).to).2.rests
  else if x.op = 16 then some (s.calls M x.a)
  else if x.op = 17 then some (s.callI M x)
  else none
def choose (s : VS) : VS :=
  let s1 := (s.want 127).2
  let a := s1.pop.1
  let b := s1.pop.2.pop.1
  (s1.pop.2.pop.2.fails (own a || own b || decide (a ≠ b ∧ a ≠ 0 ∧ b ≠ 0))).push [if a = 0 then b else a]
def places (M : Mo) (L : List Nat) (x : Ins) (s : VS) : Option VS :=
  if x.op = 26 then some s.pop.2
  else if x.op = 27 then some s.choose
  else if x.op = 28 then some (fits [x.a % 256,x.a % 256,127] [x.a % 256] s)
  else if x.op = 32 then some ((s.loc L x.a).2.push [(s.loc L x.a).1])
  else if x.op = 33 then some ((s.loc L x.a).2.want (s.loc L x.a).1).2
  else if x.op = 34 then some (((s.loc L x.a).2.want (s.loc L x.a).1).2.push [(s.loc L x.a).1])
  else if x.op = 35 then some ((s.glob M x.a).2.push [(s.glob M x.a).1.1])
  else if x.op = 36 then some (((s.glob M x.a).2.fails (!(s.glob M x.a).1.2)).want (s.glob M x.a).1.1).2
  else if x.op = 65 then some (s.push [127])
  else if x.op = 66 then some (s.push [126])
  else if x.op = 208 then some (s.push [x.a % 256])
  else if x.op = 209 then some ((s.pop.2.fails (!(own s.pop.1 || decide (s.pop.1 = 0)))).push [127])
  else if x.op = 210 then some ((s.fails (!(decide (x.a < M.funcs.length) && M.decl.getD x.a false))).push [112])
  else none
def bulk (M : Mo) (x : Ins) (s : VS) : Option VS :=
  if x.op = 37 then some (((s.table M x.a).2.want 127).2.push [(s.table M x.a).1])
  else if x.op = 38 then some ((s.table M x.a).2.take [127,(s.table M x.a).1]).2
  else if x.op = 63 then some ((s.memory M).push [127])
  else if x.op = 64 then some (((s.memory M).want 127).2.push [127])
  else if x.op = 64520 then some (((s.memory M).data M x.a).take [127,127,127]).2
  else if x.op = 64521 then some (s.data M x.a)
  else if x.op = 64522 ∨ x.op = 64523 then some ((s.memory M).take [127,127,127]).2
  else if x.op = 64524 then some ((((s.elem M x.a).2.table M x.b).2.fails (decide ((s.elem M x.a).1 ≠ ((s.elem M x.a).2.table M x.b).1))).take [127,127,127]).2
  else if x.op = 64525 then some (s.elem M x.a).2
  else if x.op = 64526 then some ((((s.table M x.a).2.table M x.b).2.fails (decide ((s.table M x.a).1 ≠ ((s.table M x.a).2.table M x.b).1))).take [127,127,127]).2
  else if x.op = 64527 then some (fits [(s.table M x.a).1,127] [127] (s.table M x.a).2)
  else if x.op = 64528 then some ((s.table M x.a).2.push [127])
  else if x.op = 64529 then some ((s.table M x.a).2.take [127,(s.table M x.a).1,127]).2
  else none
def width (op : Int) : Nat :=
  if op = 44 ∨ op = 45 ∨ op = 48 ∨ op = 49 ∨ op = 58 ∨ op = 60 then 1
  else if op = 46 ∨ op = 47 ∨ op = 50 ∨ op = 51 ∨ op = 59 ∨ op = 61 then 2
  else if op = 40 ∨ op = 52 ∨ op = 53 ∨ op = 54 ∨ op = 62 then 4
  else if op = 41 ∨ op = 55 then 8 else 0
def wide (op : Int) : Bool := decide (op = 41 ∨ 48 ≤ op ∧ op ≤ 53 ∨ op = 55 ∨ 60 ≤ op ∧ op ≤ 62)
def moves (M : Mo) (x : Ins) (s : VS) : VS :=
  let s1 := (s.memory M).fails (decide (x.a > 31 ∨ 2 ^ (x.a % 32) > width x.op))
  let t := if wide x.op = true then 126 else 127
  if x.op ≥ 54 then (s1.take [127,t]).2 else (s1.want 127).2.push [t]
def numbers (op : Int) : List Nat × Nat :=
  if op = 69 ∨ 103 ≤ op ∧ op ≤ 105 ∨ op = 192 ∨ op = 193 then ([127],127)
  else if 70 ≤ op ∧ op ≤ 79 ∨ 106 ≤ op ∧ op ≤ 120 then ([127,127],127)
  else if op = 80 ∨ op = 167 then ([126],127)
  else if 81 ≤ op ∧ op ≤ 90 then ([126,126],127)
  else if 121 ≤ op ∧ op ≤ 123 ∨ 194 ≤ op ∧ op ≤ 196 then ([126],126)
  else if 124 ≤ op ∧ op ≤ 138 then ([126,126],126)
  else if op = 172 ∨ op = 173 then ([127],126)
  else ([],0)
def one (M : Mo) (L : List Nat) (x : Ins) (s : VS) : VS :=
  match s.control M x with
  | some r => r
  | none => match s.places M L x with
    | some r => r
    | none => match s.bulk M x with
      | some r => r
      | none => if width x.op > 0 then s.moves M x else fits (numbers x.op).1 [(numbers x.op).2] (s.fails (decide ((numbers x.op).2 = 0)))
def run (M : Mo) (L : List Nat) : List Ins → VS → Bool
  | [],s => decide (s.op = [])
  | x :: r,s => if (s.one M L x).bad = true then false else if (s.one M L x).op = [] then decide (r = []) else run M L r (s.one M L x)
def start (rs : List Nat) : VS := ⟨[],[⟨2,[],rs,0,false⟩],false⟩
def body (M : Mo) (L rs : List Nat) (b : List Ins) : Bool := run M L b (start rs)
structure Wf (s : VS) : Prop where
  up : s.op.Pairwise fun a b => a.ht ≤ b.ht
  le : ∀ b ∈ s.op,b.ht ≤ s.l.length
end VS
instance : DecidableEq VB := fun a b => by
  cases a; cases b; simp only [VB.mk.injEq]; exact inferInstance

end
section
/- Types of bodies: heights go up, whatever is done. -/
namespace VS
theorem top_eq {s : VS} (h : s.op ≠ []) : s.op = s.op.dropLast ++ [s.top] := by
  unfold top
  rw [List.getLastD_eq_getLast?,List.getLast?_eq_some_getLast h]
  exact (List.dropLast_concat_getLast h).symm
theorem top_mem {s : VS} (h : s.op ≠ []) : s.top ∈ s.op := by
  have e := top_eq h
  generalize s.top = b at e
  rw [e]; simp
theorem top_get {s : VS} (h : s.op ≠ []) : s.op[s.op.length - 1]? = some s.top := by
  unfold top
  rw [List.getLastD_eq_getLast?,List.getLast?_eq_getElem?]
  have : s.op.length - 1 < s.op.length := by have := List.length_pos_iff.2 h; omega
  rw [List.getElem?_eq_getElem this]; rfl
structure Kp (s s' : VS) : Prop where
  op : s'.op = s.op
  wf : Wf s → s.op ≠ [] → Wf s'
  le : Wf s → s.op ≠ [] → s.top.ht ≤ s'.l.length
theorem Kp.top {s s' : VS} (k : Kp s s') : s'.top = s.top := by unfold VS.top; rw [k.op]
theorem Kp.ne {s s' : VS} (k : Kp s s') (h : s.op ≠ []) : s'.op ≠ [] := by rw [k.op]; exact h
theorem Kp.refl (s : VS) : Kp s s := ⟨rfl,fun w _ => w,fun w h => w.le _ (top_mem h)⟩
theorem Kp.trans {s s' s'' : VS} (k : Kp s s') (q : Kp s' s'') : Kp s s'' :=
  ⟨by rw [q.op,k.op],fun w h => q.wf (k.wf w h) (k.ne h),fun w h => by have := q.le (k.wf w h) (k.ne h); rwa [k.top] at this⟩
theorem fails_kp (b : Bool) (s : VS) : Kp s (s.fails b) := ⟨rfl,fun w _ => ⟨w.up,w.le⟩,fun w h => w.le _ (top_mem h)⟩
theorem push_kp (ts : List Nat) (s : VS) : Kp s (s.push ts) :=
  ⟨rfl,fun w _ => ⟨w.up,fun b hb => by have := w.le b hb; simp [push]; omega⟩,fun w h => by have := w.le _ (top_mem h); simp [push]; omega⟩
theorem le_top {s : VS} (w : Wf s) (h : s.op ≠ []) : ∀ b ∈ s.op,b.ht ≤ s.top.ht := by
  intro b hb
  have e := top_eq h
  have u := w.up
  generalize s.top = t at e ⊢
  rw [e] at u hb
  rw [List.pairwise_append] at u
  rcases List.mem_append.1 hb with q | q
  · exact u.2.2 b q t (by simp)
  · rw [List.mem_singleton] at q; subst q; exact Nat.le_refl _
theorem pop_kp (s : VS) : Kp s s.pop.2 := by
  unfold pop
  split
  · exact fails_kp _ s
  · rename_i hn
    have key : Wf s → s.op ≠ [] → s.top.ht ≤ s.l.length - 1 := fun w h => by
      have := w.le _ (top_mem h); omega
    refine ⟨rfl,fun w h => ⟨w.up,fun b hb => ?_⟩,fun w h => ?_⟩
    · have h1 := le_top w h b hb
      have h2 := key w h
      simp; omega
    · have h2 := key w h
      simp; omega
theorem want_kp (t : Nat) (s : VS) : Kp s (s.want t).2 := (pop_kp s).trans (fails_kp _ _)
theorem takeR_kp : ∀ (ts : List Nat) (s : VS),Kp s (takeR ts s).2
  | [],s => Kp.refl s
  | t :: r,s => (want_kp t s).trans (takeR_kp r _)
theorem take_kp (ts : List Nat) (s : VS) : Kp s (s.take ts).2 := takeR_kp _ s
theorem takeR_len : ∀ (ts : List Nat) (s : VS),(takeR ts s).1.length = ts.length
  | [],s => rfl
  | t :: r,s => by simp [takeR,takeR_len r]
theorem take_len (ts : List Nat) (s : VS) : (s.take ts).1.length = ts.length := by rw [take,takeR_len,List.length_reverse]
theorem function_kp (M : Mo) (t : Nat) (s : VS) : Kp s (s.function M t).2 := by unfold function; split; exact Kp.refl s; exact fails_kp _ _
theorem signature_kp (M : Mo) (t : Int) (s : VS) : Kp s (s.signature M t).2 := by
  unfold signature
  split
  · exact Kp.refl s
  · split
    · exact Kp.refl s
    · exact function_kp _ _ _
theorem label_kp (n : Nat) (s : VS) : Kp s (s.label n).2 := by unfold label; split; exact Kp.refl s; exact fails_kp _ _
theorem table_kp (M : Mo) (n : Nat) (s : VS) : Kp s (s.table M n).2 := by unfold table; split; exact Kp.refl s; exact fails_kp _ _
theorem elem_kp (M : Mo) (n : Nat) (s : VS) : Kp s (s.elem M n).2 := by unfold elem; split; exact Kp.refl s; exact fails_kp _ _
theorem glob_kp (M : Mo) (n : Nat) (s : VS) : Kp s (s.glob M n).2 := by unfold glob; split; exact Kp.refl s; exact fails_kp _ _
theorem loc_kp (L : List Nat) (n : Nat) (s : VS) : Kp s (s.loc L n).2 := by unfold loc; split; exact Kp.refl s; exact fails_kp _ _
theorem data_kp (M : Mo) (n : Nat) (s : VS) : Kp s (s.data M n) := by unfold data; split <;> exact fails_kp _ _
theorem Jt (i o : List Nat) (s : VS) : Kp s (fits i o s) := (take_kp i s).trans (push_kp o _)
theorem opens_wf (op : Int) (fr to : List Nat) {s : VS} (w : Wf s) : Wf (s.opens op fr to) ∧ (s.opens op fr to).op ≠ [] := by
  refine ⟨⟨?_,?_⟩,by simp [opens]⟩
  · show (s.op ++ [_]).Pairwise _
    rw [List.pairwise_append]
    exact ⟨w.up,List.pairwise_singleton _ _,fun a ha b hb => by rw [List.mem_singleton] at hb; subst hb; exact w.le a ha⟩
  · intro b hb
    show b.ht ≤ (s.l ++ fr).length
    rw [List.length_append]
    rcases List.mem_append.1 hb with q | q
    · have := w.le b q; omega
    · rw [List.mem_singleton] at q; subst q; show s.l.length ≤ _; omega
theorem shut_wf {s : VS} (w : Wf s) (h : s.op ≠ []) (hl : s.top.ht ≤ s.l.length) : Wf (s.shut s.top) := by
  have e := top_eq h
  have u := w.up
  refine ⟨?_,?_⟩
  · show s.op.dropLast.Pairwise _
    exact u.sublist (List.dropLast_sublist _)
  · intro b hb
    have hb' : b ∈ s.op.dropLast := hb
    have : b.ht ≤ s.top.ht := le_top w h b (List.dropLast_subset _ hb')
    show b.ht ≤ (s.l.take s.top.ht).length
    rw [List.length_take]; omega
theorem closes_wf {s : VS} (w : Wf s) (h : s.op ≠ []) : Wf s.closes.2 ∧ s.closes.2.op = s.op.dropLast := by
  have k := take_kp s.top.to s
  have w' := k.wf w h
  have t' := k.top
  have := shut_wf w' (k.ne h) (by rw [t']; exact k.le w h)
  rw [t'] at this
  refine ⟨this,?_⟩
  show (s.take s.top.to).2.op.dropLast = _
  rw [k.op]
theorem rests_wf {s : VS} (w : Wf s) (h : s.op ≠ []) : Wf s.rests ∧ s.rests.op ≠ [] := by
  have e := top_eq h
  have u := w.up
  have lt := le_top w h
  have hl := w.le _ (top_mem h)
  refine ⟨⟨?_,?_⟩,by simp [rests]⟩
  · show (s.op.dropLast ++ [{ s.top with dead := true }]).Pairwise _
    rw [List.pairwise_append]
    refine ⟨u.sublist (List.dropLast_sublist _),List.pairwise_singleton _ _,fun a ha b hb => ?_⟩
    rw [List.mem_singleton] at hb
    subst hb
    exact lt a (List.dropLast_subset _ ha)
  · intro b hb
    show b.ht ≤ (s.l.take s.top.ht).length
    rw [List.length_take]
    rcases List.mem_append.1 hb with q | q
    · have := lt b (List.dropLast_subset _ q); omega
    · rw [List.mem_singleton] at q; subst q; show s.top.ht ≤ _; omega
theorem branch_kp (last : List Nat) (s : VS) (n : Nat) : Kp s (branch last s n) :=
  (((label_kp n s).trans (fails_kp _ _)).trans (take_kp _ _)).trans (push_kp _ _)
theorem branchesL_kp (last : List Nat) : ∀ (ns : List Nat) (s : VS),Kp s (ns.foldl (branch last) s)
  | [],s => Kp.refl s
  | n :: r,s => (branch_kp last s n).trans (branchesL_kp last r _)
end VS

end
section
/- Types of bodies: what the document's checker computes; the two are the same. -/
namespace VS
end VS

end
section
/- Types of bodies: val's checker and the document's go on alike. -/
namespace VS
theorem Xm (s : VS) : s.fails false = s := by simp [fails]
def Sm (s s' : VS) : Prop := s.op = s'.op ∧ s.bad = false ∧ s'.bad = false ∧ ∃ (B R : List Nat) (k : Nat),B.length = s'.top.ht ∧ s.l = B ++ List.replicate k 0 ++ R ∧ s'.l = B ++ R ∧ (k ≠ 0 → s'.top.dead = true)
theorem push_push (s : VS) (a b : List Nat) : s.push (a ++ b) = (s.push a).push b := by simp [push]
end VS

end
section
/- Types of bodies: val's checker and the document's go on alike: all instructions, whole bodies. -/
namespace VS
theorem push_nil (s : VS) : s.push [] = s := by simp [push]
end VS

end
section
/- Types of bodies: heights and labels behind each instruction; whole bodies alike. -/
namespace VS
def LP (P : List Nat → Prop) (s : VS) : Prop := ∀ b ∈ s.op,P b.fr ∧ P b.to
def Gd (P : List Nat → Prop) (s s' : VS) : Prop := Wf s → s.op ≠ [] → Wf s' ∧ (LP P s → LP P s')
variable {P : List Nat → Prop}
theorem Kp.gd {s s' : VS} (k : Kp s s') : Gd P s s' := fun w h => ⟨k.wf w h,fun z => by unfold LP; rw [k.op]; exact z⟩
theorem Kp.then_gd {s s' s'' : VS} (k : Kp s s') (g : Gd P s' s'') : Gd P s s'' := fun w h =>
  ⟨(g (k.wf w h) (k.ne h)).1,fun z => (g (k.wf w h) (k.ne h)).2 (by unfold LP; rw [k.op]; exact z)⟩
theorem Kk (s : VS) : Gd P s s.rests := fun w h => ⟨(rests_wf w h).1,fun z b hb => by
  rcases List.mem_append.1 hb with q | q
  · exact z b (List.dropLast_subset _ q)
  · rw [List.mem_singleton] at q; subst q; exact z s.top (top_mem h)⟩
theorem opens_gd (op : Int) (fr to : List Nat) (s : VS) (hf : P fr) (ht : P to) : Gd P s (s.opens op fr to) := fun w h => ⟨(opens_wf op fr to w).1,fun z b hb => by
  rcases List.mem_append.1 hb with q | q
  · exact z b q
  · rw [List.mem_singleton] at q; subst q; exact ⟨hf,ht⟩⟩
def Mo.Lp (P : List Nat → Prop) (M : Mo) : Prop := P [] ∧ ∀ t ∈ M.types,P t.1 ∧ P t.2
theorem function_nz {M : Mo} (hM : Mo.Lp P M) (t : Nat) (s : VS) : P (s.function M t).1.1 ∧ P (s.function M t).1.2 := by
  unfold function
  split
  · rename_i h
    have e : M.types.getD t ([],[]) = M.types[t] := by simp [List.getD,h]
    rw [e]; exact hM.2 _ (List.getElem_mem h)
  · exact ⟨hM.1,hM.1⟩
theorem signature_nz {M : Mo} (hM : Mo.Lp P M) (t : Int) (s : VS) (ht : P [((t + 128) % 256).toNat]) : P (s.signature M t).1.1 ∧ P (s.signature M t).1.2 := by
  unfold signature
  split
  · exact ⟨hM.1,hM.1⟩
  · split
    · exact ⟨hM.1,ht⟩
    · exact function_nz hM _ _
theorem blk_kp (M : Mo) (x : Ins) (s : VS) : ∃ s1,Kp s s1 ∧ s.blk M x = ((s1.signature M x.t).2.take (s1.signature M x.t).1.1).2.opens x.op (s1.signature M x.t).1.1 (s1.signature M x.t).1.2 := by
  unfold blk
  split
  · exact ⟨_,want_kp _ _,rfl⟩
  · exact ⟨_,Kp.refl _,rfl⟩
theorem els_wf {s : VS} (w : Wf s) (h : s.op ≠ []) : Wf s.els ∧ s.els.op ≠ [] := opens_wf _ _ _ ⟨(closes_wf w h).1.up,(closes_wf w h).1.le⟩
theorem ends_wf {s : VS} (w : Wf s) (h : s.op ≠ []) : Wf s.ends ∧ s.ends.op = s.op.dropLast := by
  obtain ⟨w1,e1⟩ := closes_wf w h
  unfold ends
  simp only
  split
  · exact ⟨⟨w1.up,w1.le⟩,e1⟩
  · refine ⟨⟨w1.up,fun b hb => ?_⟩,e1⟩
    have := w1.le b hb
    simp [push,fails]; omega
theorem blk_gd {M : Mo} (hM : Mo.Lp P M) (x : Ins) (s : VS) (ht : P [((x.t + 128) % 256).toNat]) : Gd P s (s.blk M x) := by
  obtain ⟨s1,k,e⟩ := blk_kp M x s
  rw [e]
  have n := signature_nz hM x.t s1 ht
  exact k.then_gd (((signature_kp M x.t s1).trans (take_kp _ _)).then_gd (opens_gd _ _ _ _ n.1 n.2))
theorem closes_nz {s : VS} (w : Wf s) (h : s.op ≠ []) (z : LP P s) : LP P s.closes.2 := by
  unfold LP
  rw [(closes_wf w h).2]
  exact fun b hb => z b (List.dropLast_subset _ hb)
theorem els_gd (s : VS) : Gd P s s.els := fun w h => ⟨(els_wf w h).1,fun z b hb => by
  rcases List.mem_append.1 hb with q | q
  · exact closes_nz w h z b q
  · rw [List.mem_singleton] at q; subst q; exact z s.top (top_mem h)⟩
theorem ends_gd (s : VS) : Gd P s s.ends := fun w h => ⟨(ends_wf w h).1,fun z => by
  unfold LP
  rw [(ends_wf w h).2]
  exact fun b hb => z b (List.dropLast_subset _ hb)⟩
theorem branches_gd (x : Ins) (s : VS) : Gd P s (s.branches x) := by
  unfold branches
  exact ((((want_kp 127 s).trans (label_kp _ _)).trans (branchesL_kp _ _ _)).trans (take_kp _ _)).then_gd (Kk _)
theorem calls_kp (M : Mo) (f : Nat) (s : VS) : Kp s (s.calls M f) := by
  unfold calls
  split
  · exact (function_kp _ _ _).trans (Jt _ _ _)
  · exact fails_kp _ _
theorem callI_kp (M : Mo) (x : Ins) (s : VS) : Kp s (s.callI M x) := by
  unfold callI
  exact ((((table_kp M x.b s).trans (fails_kp _ _)).trans (want_kp _ _)).trans (function_kp _ _ _)).trans (Jt _ _ _)
theorem control_gd {M : Mo} (hM : Mo.Lp P M) (x : Ins) {s r : VS} (ht : x.op = 2 ∨ x.op = 3 ∨ x.op = 4 → P [((x.t + 128) % 256).toNat]) (hr : s.control M x = some r) : Gd P s r := by
  unfold control at hr
  by_cases c : x.op = 0
  · rw [if_pos c] at hr; cases hr; exact Kk s
  rw [if_neg c] at hr
  by_cases c : x.op = 1
  · rw [if_pos c] at hr; cases hr; exact (Kp.refl _).gd
  rw [if_neg c] at hr
  by_cases c : x.op = 2 ∨ x.op = 3 ∨ x.op = 4
  · rw [if_pos c] at hr; cases hr; exact blk_gd hM x s (ht c)
  rw [if_neg c] at hr
  by_cases c : x.op = 5
  · rw [if_pos c] at hr; cases hr; exact els_gd s
  rw [if_neg c] at hr
  by_cases c : x.op = 11
  · rw [if_pos c] at hr; cases hr; exact ends_gd s
  rw [if_neg c] at hr
  by_cases c : x.op = 12
  · rw [if_pos c] at hr; cases hr; exact ((label_kp _ _).trans (take_kp _ _)).then_gd (Kk _)
  rw [if_neg c] at hr
  by_cases c : x.op = 13
  · rw [if_pos c] at hr; cases hr; exact (((want_kp _ _).trans (label_kp _ _)).trans (Jt _ _ _)).gd
  rw [if_neg c] at hr
  by_cases c : x.op = 14
  · rw [if_pos c] at hr; cases hr; exact branches_gd x s
  rw [if_neg c] at hr
  by_cases c : x.op = 15
  · rw [if_pos c] at hr; cases hr; exact (take_kp _ _).then_gd (Kk _)
  rw [if_neg c] at hr
  by_cases c : x.op = 16
  · rw [if_pos c] at hr; cases hr; exact (calls_kp _ _ _).gd
  rw [if_neg c] at hr
  by_cases c : x.op = 17
  · rw [if_pos c] at hr; cases hr; exact (callI_kp _ _ _).gd
  rw [if_neg c] at hr
  cases hr
theorem choose_kp (s : VS) : Kp s s.choose := by
  unfold choose
  exact ((((want_kp _ _).trans (pop_kp _)).trans (pop_kp _)).trans (fails_kp _ _)).trans (push_kp _ _)
theorem memory_kp (M : Mo) (s : VS) : Kp s (s.memory M) := fails_kp _ _
theorem places_kp (M : Mo) (L : List Nat) (x : Ins) {s r : VS} (hr : s.places M L x = some r) : Kp s r := by
  unfold places at hr
  by_cases c : x.op = 26
  · rw [if_pos c] at hr; cases hr; exact pop_kp s
  rw [if_neg c] at hr
  by_cases c : x.op = 27
  · rw [if_pos c] at hr; cases hr; exact choose_kp s
  rw [if_neg c] at hr
  by_cases c : x.op = 28
  · rw [if_pos c] at hr; cases hr; exact Jt _ _ _
  rw [if_neg c] at hr
  by_cases c : x.op = 32
  · rw [if_pos c] at hr; cases hr; exact (loc_kp _ _ _).trans (push_kp _ _)
  rw [if_neg c] at hr
  by_cases c : x.op = 33
  · rw [if_pos c] at hr; cases hr; exact (loc_kp _ _ _).trans (want_kp _ _)
  rw [if_neg c] at hr
  by_cases c : x.op = 34
  · rw [if_pos c] at hr; cases hr; exact ((loc_kp _ _ _).trans (want_kp _ _)).trans (push_kp _ _)
  rw [if_neg c] at hr
  by_cases c : x.op = 35
  · rw [if_pos c] at hr; cases hr; exact (glob_kp _ _ _).trans (push_kp _ _)
  rw [if_neg c] at hr
  by_cases c : x.op = 36
  · rw [if_pos c] at hr; cases hr; exact ((glob_kp _ _ _).trans (fails_kp _ _)).trans (want_kp _ _)
  rw [if_neg c] at hr
  by_cases c : x.op = 65
  · rw [if_pos c] at hr; cases hr; exact push_kp _ _
  rw [if_neg c] at hr
  by_cases c : x.op = 66
  · rw [if_pos c] at hr; cases hr; exact push_kp _ _
  rw [if_neg c] at hr
  by_cases c : x.op = 208
  · rw [if_pos c] at hr; cases hr; exact push_kp _ _
  rw [if_neg c] at hr
  by_cases c : x.op = 209
  · rw [if_pos c] at hr; cases hr; exact ((pop_kp _).trans (fails_kp _ _)).trans (push_kp _ _)
  rw [if_neg c] at hr
  by_cases c : x.op = 210
  · rw [if_pos c] at hr; cases hr; exact (fails_kp _ _).trans (push_kp _ _)
  rw [if_neg c] at hr
  cases hr
theorem bulk_kp (M : Mo) (x : Ins) {s r : VS} (hr : s.bulk M x = some r) : Kp s r := by
  unfold bulk at hr
  by_cases c : x.op = 37
  · rw [if_pos c] at hr; cases hr; exact ((table_kp _ _ _).trans (want_kp _ _)).trans (push_kp _ _)
  rw [if_neg c] at hr
  by_cases c : x.op = 38
  · rw [if_pos c] at hr; cases hr; exact (table_kp _ _ _).trans (take_kp _ _)
  rw [if_neg c] at hr
  by_cases c : x.op = 63
  · rw [if_pos c] at hr; cases hr; exact (memory_kp _ _).trans (push_kp _ _)
  rw [if_neg c] at hr
  by_cases c : x.op = 64
  · rw [if_pos c] at hr; cases hr; exact ((memory_kp _ _).trans (want_kp _ _)).trans (push_kp _ _)
  rw [if_neg c] at hr
  by_cases c : x.op = 64520
  · rw [if_pos c] at hr; cases hr; exact ((memory_kp _ _).trans (data_kp _ _ _)).trans (take_kp _ _)
  rw [if_neg c] at hr
  by_cases c : x.op = 64521
  · rw [if_pos c] at hr; cases hr; exact data_kp _ _ _
  rw [if_neg c] at hr
  by_cases c : x.op = 64522 ∨ x.op = 64523
  · rw [if_pos c] at hr; cases hr; exact (memory_kp _ _).trans (take_kp _ _)
  rw [if_neg c] at hr
  by_cases c : x.op = 64524
  · rw [if_pos c] at hr; cases hr; exact (((elem_kp _ _ _).trans (table_kp _ _ _)).trans (fails_kp _ _)).trans (take_kp _ _)
  rw [if_neg c] at hr
  by_cases c : x.op = 64525
  · rw [if_pos c] at hr; cases hr; exact elem_kp _ _ _
  rw [if_neg c] at hr
  by_cases c : x.op = 64526
  · rw [if_pos c] at hr; cases hr; exact (((table_kp _ _ _).trans (table_kp _ _ _)).trans (fails_kp _ _)).trans (take_kp _ _)
  rw [if_neg c] at hr
  by_cases c : x.op = 64527
  · rw [if_pos c] at hr; cases hr; exact (table_kp _ _ _).trans (Jt _ _ _)
  rw [if_neg c] at hr
  by_cases c : x.op = 64528
  · rw [if_pos c] at hr; cases hr; exact (table_kp _ _ _).trans (push_kp _ _)
  rw [if_neg c] at hr
  by_cases c : x.op = 64529
  · rw [if_pos c] at hr; cases hr; exact (table_kp _ _ _).trans (take_kp _ _)
  rw [if_neg c] at hr
  cases hr
theorem moves_kp (M : Mo) (x : Ins) (s : VS) : Kp s (s.moves M x) := by
  unfold moves
  simp only
  split
  · exact ((memory_kp _ _).trans (fails_kp _ _)).trans (take_kp _ _)
  · exact (((memory_kp _ _).trans (fails_kp _ _)).trans (want_kp _ _)).trans (push_kp _ _)
theorem one_gd {M : Mo} (hM : Mo.Lp P M) (L : List Nat) (x : Ins) (s : VS) (ht : x.op = 2 ∨ x.op = 3 ∨ x.op = 4 → P [((x.t + 128) % 256).toNat]) : Gd P s (s.one M L x) := by
  unfold one
  split
  · rename_i r hr; exact control_gd hM x ht hr
  split
  · rename_i r hr; exact (places_kp M L x hr).gd
  split
  · rename_i r hr; exact (bulk_kp M x hr).gd
  split
  · exact (moves_kp M x s).gd
  · exact ((fails_kp _ _).trans (Jt _ _ _)).gd
def Gr (k : Nat) (s s' : VS) : Prop := s'.l.length ≤ s.l.length + k
theorem Gr.trans {j k : Nat} {s s' s'' : VS} (a : Gr j s s') (b : Gr k s' s'') : Gr (j + k) s s'' := by unfold Gr at *; omega
theorem Gr.mono {j k : Nat} {s s' : VS} (a : Gr j s s') (h : j ≤ k) : Gr k s s' := by unfold Gr at *; omega
theorem fails_gr (b : Bool) (s : VS) : Gr 0 s (s.fails b) := Nat.le_refl _
theorem Yt (t : List Nat) (s : VS) : Gr t.length s (s.push t) := by unfold Gr push; simp
theorem pop_gr (s : VS) : Gr 0 s s.pop.2 := by
  unfold Gr pop; split
  · exact Nat.le_refl _
  · simp
theorem want_gr (t : Nat) (s : VS) : Gr 0 s (s.want t).2 := pop_gr s
theorem takeR_gr : ∀ (ts : List Nat) (s : VS),Gr 0 s (takeR ts s).2
  | [],s => Nat.le_refl _
  | t :: r,s => (want_gr t s).trans (takeR_gr r _)
theorem take_gr (ts : List Nat) (s : VS) : Gr 0 s (s.take ts).2 := takeR_gr _ _
theorem function_gr (M : Mo) (t : Nat) (s : VS) : Gr 0 s (s.function M t).2 := by unfold function; split <;> exact Nat.le_refl _
theorem signature_gr (M : Mo) (t : Int) (s : VS) : Gr 0 s (s.signature M t).2 := by
  unfold signature; split
  · exact Nat.le_refl _
  · split
    · exact Nat.le_refl _
    · exact function_gr _ _ _
theorem label_gr (n : Nat) (s : VS) : Gr 0 s (s.label n).2 := by unfold label; split <;> exact Nat.le_refl _
theorem table_gr (M : Mo) (n : Nat) (s : VS) : Gr 0 s (s.table M n).2 := by unfold table; split <;> exact Nat.le_refl _
theorem elem_gr (M : Mo) (n : Nat) (s : VS) : Gr 0 s (s.elem M n).2 := by unfold elem; split <;> exact Nat.le_refl _
theorem glob_gr (M : Mo) (n : Nat) (s : VS) : Gr 0 s (s.glob M n).2 := by unfold glob; split <;> exact Nat.le_refl _
theorem loc_gr (L : List Nat) (n : Nat) (s : VS) : Gr 0 s (s.loc L n).2 := by unfold loc; split <;> exact Nat.le_refl _
theorem data_gr (M : Mo) (n : Nat) (s : VS) : Gr 0 s (s.data M n) := by unfold data; split <;> exact Nat.le_refl _
theorem Uk (i o : List Nat) (s : VS) : Gr o.length s (fits i o s) := ((take_gr i s).trans (Yt o _)).mono (by omega)
theorem Kj (s : VS) : Gr 0 s s.rests := by unfold Gr rests; simp; omega
theorem opens_gr (op : Int) (fr to : List Nat) (s : VS) : Gr fr.length s (s.opens op fr to) := by unfold Gr opens; simp
theorem closes_gr (s : VS) : Gr 0 s s.closes.2 := by
  have := take_gr s.top.to s
  unfold Gr at *
  unfold closes shut
  simp
  omega
abbrev short (l : List Nat) : Prop := l.length ≤ 8
theorem label_short {s : VS} (z : LP short s) (n : Nat) : (s.label n).1.length ≤ 8 := by
  unfold label
  split
  · rename_i h
    have hlt : s.op.length - 1 - n < s.op.length := by omega
    have e : s.op.getD (s.op.length - 1 - n) ⟨0,[],[],0,false⟩ = s.op[s.op.length - 1 - n] := by simp [List.getD,hlt]
    rw [e]
    have := z _ (List.getElem_mem hlt)
    unfold labels
    split
    · exact this.1
    · exact this.2
  · exact Nat.zero_le _
theorem Gc (last : List Nat) : ∀ (ns : List Nat) {s : VS},LP short s → Gr (8 * ns.length) s (ns.foldl (branch last) s)
  | [],s,z => Nat.le_refl _
  | n :: r,s,z => by
    have k := branch_kp last s n
    have h1 : Gr 8 s (branch last s n) := by
      unfold branch
      refine Gr.mono ((((label_gr n s).trans (fails_gr _ _)).trans (take_gr _ _)).trans (Yt _ _)) ?_
      rw [take_len]
      have := label_short z n
      omega
    have h2 := Gc last r (s := branch last s n) (by unfold LP; rw [k.op]; exact z)
    exact (h1.trans h2).mono (by simp; omega)
theorem LP.kp {s s' : VS} (z : LP P s) (k : Kp s s') : LP P s' := by unfold LP; rw [k.op]; exact z
theorem one_gr {M : Mo} (hM : Mo.Lp short M) (L : List Nat) (x : Ins) {s : VS} (h : s.op ≠ []) (z : LP short s) : Gr (8 * x.l.length + 8) s (s.one M L x) := by
  have hs : ∀ s' : VS,(s'.function M x.a).1.2.length ≤ 8 := fun s' => (function_nz hM _ _).2
  have top8 := z _ (top_mem h)
  unfold one
  split
  · rename_i r hr
    unfold control at hr
    by_cases c : x.op = 0
    · rw [if_pos c] at hr; cases hr; exact (Kj s).mono (by omega)
    rw [if_neg c] at hr
    by_cases c : x.op = 1
    · rw [if_pos c] at hr; cases hr; exact Gr.mono (j := 0) (Nat.le_refl _) (by omega)
    rw [if_neg c] at hr
    by_cases c : x.op = 2 ∨ x.op = 3 ∨ x.op = 4
    · rw [if_pos c] at hr; cases hr
      unfold blk
      have e : ∀ s1 : VS,(s1.signature M x.t).1.1.length ≤ 8 := fun s1 => (signature_nz hM x.t s1 (by show 1 ≤ 8; omega)).1
      refine Gr.mono (j := 0 + (0 + 0 + 8)) (Gr.trans (s' := if x.op = 4 then (s.want 127).2 else s) ?_ (((signature_gr _ _ _).trans (take_gr _ _)).trans ((opens_gr _ _ _ _).mono (e _)))) (by omega)
      split
      · exact want_gr _ _
      · exact Nat.le_refl _
    rw [if_neg c] at hr
    by_cases c : x.op = 5
    · rw [if_pos c] at hr; cases hr
      exact (((closes_gr s).trans (fails_gr _ _)).trans (opens_gr _ _ _ _)).mono (by show 0 + 0 + s.top.fr.length ≤ _; have := top8.1; omega)
    rw [if_neg c] at hr
    by_cases c : x.op = 11
    · rw [if_pos c] at hr; cases hr
      unfold ends
      simp only
      split
      · exact ((closes_gr s).trans (fails_gr _ _)).mono (by omega)
      · exact (((closes_gr s).trans (fails_gr _ _)).trans (Yt _ _)).mono (by show 0 + 0 + s.top.to.length ≤ _; have := top8.2; omega)
    rw [if_neg c] at hr
    by_cases c : x.op = 12
    · rw [if_pos c] at hr; cases hr; exact (((label_gr _ _).trans (take_gr _ _)).trans (Kj _)).mono (by omega)
    rw [if_neg c] at hr
    by_cases c : x.op = 13
    · rw [if_pos c] at hr; cases hr; exact (((want_gr _ _).trans (label_gr _ _)).trans (Uk _ _ _)).mono (by have := label_short (z.kp (want_kp 127 s)) x.a; omega)
    rw [if_neg c] at hr
    by_cases c : x.op = 14
    · rw [if_pos c] at hr; cases hr
      unfold branches
      exact (((((want_gr 127 s).trans (label_gr _ _)).trans (Gc _ x.l (z.kp ((want_kp _ _).trans (label_kp _ _))))).trans (take_gr _ _)).trans (Kj _)).mono (by omega)
    rw [if_neg c] at hr
    by_cases c : x.op = 15
    · rw [if_pos c] at hr; cases hr; exact ((take_gr _ _).trans (Kj _)).mono (by omega)
    rw [if_neg c] at hr
    by_cases c : x.op = 16
    · rw [if_pos c] at hr; cases hr
      unfold calls
      split
      · exact ((function_gr _ _ _).trans ((Uk _ _ _).mono (function_nz hM _ _).2)).mono (by omega)
      · exact (fails_gr _ _).mono (by omega)
    rw [if_neg c] at hr
    by_cases c : x.op = 17
    · rw [if_pos c] at hr; cases hr
      unfold callI
      exact (((((table_gr M x.b s).trans (fails_gr _ _)).trans (want_gr _ _)).trans (function_gr _ _ _)).trans ((Uk _ _ _).mono (hs _))).mono (by omega)
    rw [if_neg c] at hr
    cases hr
  split
  · rename_i r hr
    refine Gr.mono (j := 1) ?_ (by omega)
    unfold places at hr
    by_cases c : x.op = 26
    · rw [if_pos c] at hr; cases hr; exact (pop_gr s).mono (by omega)
    rw [if_neg c] at hr
    by_cases c : x.op = 27
    · rw [if_pos c] at hr; cases hr
      unfold choose
      exact ((((want_gr _ _).trans (pop_gr _)).trans (pop_gr _)).trans (fails_gr _ _)).trans (Yt _ _)
    rw [if_neg c] at hr
    by_cases c : x.op = 28
    · rw [if_pos c] at hr; cases hr; exact Uk _ _ _
    rw [if_neg c] at hr
    by_cases c : x.op = 32
    · rw [if_pos c] at hr; cases hr; exact (loc_gr _ _ _).trans (Yt _ _)
    rw [if_neg c] at hr
    by_cases c : x.op = 33
    · rw [if_pos c] at hr; cases hr; exact ((loc_gr _ _ _).trans (want_gr _ _)).mono (by omega)
    rw [if_neg c] at hr
    by_cases c : x.op = 34
    · rw [if_pos c] at hr; cases hr; exact ((loc_gr _ _ _).trans (want_gr _ _)).trans (Yt _ _)
    rw [if_neg c] at hr
    by_cases c : x.op = 35
    · rw [if_pos c] at hr; cases hr; exact (glob_gr _ _ _).trans (Yt _ _)
    rw [if_neg c] at hr
    by_cases c : x.op = 36
    · rw [if_pos c] at hr; cases hr; exact (((glob_gr _ _ _).trans (fails_gr _ _)).trans (want_gr _ _)).mono (by omega)
    rw [if_neg c] at hr
    by_cases c : x.op = 65
    · rw [if_pos c] at hr; cases hr; exact Yt _ _
    rw [if_neg c] at hr
    by_cases c : x.op = 66
    · rw [if_pos c] at hr; cases hr; exact Yt _ _
    rw [if_neg c] at hr
    by_cases c : x.op = 208
    · rw [if_pos c] at hr; cases hr; exact Yt _ _
    rw [if_neg c] at hr
    by_cases c : x.op = 209
    · rw [if_pos c] at hr; cases hr; exact ((pop_gr _).trans (fails_gr _ _)).trans (Yt _ _)
    rw [if_neg c] at hr
    by_cases c : x.op = 210
    · rw [if_pos c] at hr; cases hr; exact (fails_gr _ _).trans (Yt _ _)
    rw [if_neg c] at hr
    cases hr
  split
  · rename_i r hr
    refine Gr.mono (j := 1) ?_ (by omega)
    unfold bulk at hr
    by_cases c : x.op = 37
    · rw [if_pos c] at hr; cases hr; exact ((table_gr _ _ _).trans (want_gr _ _)).trans (Yt _ _)
    rw [if_neg c] at hr
    by_cases c : x.op = 38
    · rw [if_pos c] at hr; cases hr; exact ((table_gr _ _ _).trans (take_gr _ _)).mono (by omega)
    rw [if_neg c] at hr
    by_cases c : x.op = 63
    · rw [if_pos c] at hr; cases hr; exact (fails_gr _ _).trans (Yt _ _)
    rw [if_neg c] at hr
    by_cases c : x.op = 64
    · rw [if_pos c] at hr; cases hr; exact ((fails_gr _ _).trans (want_gr _ _)).trans (Yt _ _)
    rw [if_neg c] at hr
    by_cases c : x.op = 64520
    · rw [if_pos c] at hr; cases hr; exact (((fails_gr _ _).trans (data_gr _ _ _)).trans (take_gr _ _)).mono (by omega)
    rw [if_neg c] at hr
    by_cases c : x.op = 64521
    · rw [if_pos c] at hr; cases hr; exact (data_gr _ _ _).mono (by omega)
    rw [if_neg c] at hr
    by_cases c : x.op = 64522 ∨ x.op = 64523
    · rw [if_pos c] at hr; cases hr; exact ((fails_gr _ _).trans (take_gr _ _)).mono (by omega)
    rw [if_neg c] at hr
    by_cases c : x.op = 64524
    · rw [if_pos c] at hr; cases hr; exact ((((elem_gr _ _ _).trans (table_gr _ _ _)).trans (fails_gr _ _)).trans (take_gr _ _)).mono (by omega)
    rw [if_neg c] at hr
    by_cases c : x.op = 64525
    · rw [if_pos c] at hr; cases hr; exact (elem_gr _ _ _).mono (by omega)
    rw [if_neg c] at hr
    by_cases c : x.op = 64526
    · rw [if_pos c] at hr; cases hr; exact ((((table_gr _ _ _).trans (table_gr _ _ _)).trans (fails_gr _ _)).trans (take_gr _ _)).mono (by omega)
    rw [if_neg c] at hr
    by_cases c : x.op = 64527
    · rw [if_pos c] at hr; cases hr; exact (table_gr _ _ _).trans (Uk _ _ _)
    rw [if_neg c] at hr
    by_cases c : x.op = 64528
    · rw [if_pos c] at hr; cases hr; exact (table_gr _ _ _).trans (Yt _ _)
    rw [if_neg c] at hr
    by_cases c : x.op = 64529
    · rw [if_pos c] at hr; cases hr; exact ((table_gr _ _ _).trans (take_gr _ _)).mono (by omega)
    rw [if_neg c] at hr
    cases hr
  split
  · refine Gr.mono (j := 1) ?_ (by omega)
    unfold moves
    simp only
    split
    · exact (((fails_gr _ _).trans (fails_gr _ _)).trans (take_gr _ _)).mono (by omega)
    · exact (((fails_gr _ _).trans (fails_gr _ _)).trans (want_gr _ _)).trans (Yt _ _)
  · exact ((fails_gr _ _).trans (Uk _ _ _)).mono (by simp)
end VS

end
end Go.Dx.SYtpkefdoleieloaa
