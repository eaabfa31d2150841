/- Texts merged: Vs0.lean, Vs1.lean, Rv0.lean, Rv1.lean, Rv2.lean, Vs2.lean. -/
import Derived.Test.YtpkefdoleieloaaDyVT
import Derived.Test.YtpkefdoleieloaaDy38
namespace Go.Dx.SYtpkefdoleieloaa
open Go.Proofs
set_option linter.unusedVariables false
set_option linter.unusedSimpArgs false
section
/- Types of bodies: what val computes, in plain words. -/
structure Ins where
  op : Int
  a : Nat
  b : Nat
  n : Nat
  l : List Nat
  t : Int
structure Mo where
  types : List (List Nat × List Nat)
  funcs : List Nat
  tables : List Nat
  mems : Nat
  globals : List (Nat × Bool)
  elems : List Nat
  counts : Bool
  count : Nat
  datas : Nat
  decl : List Bool
structure VB where
  op : Int
  fr : List Nat
  to : List Nat
  ht : Nat
  dead : Bool
structure VS where
  l : List Nat
  op : List VB
  bad : Bool
namespace VS
def top (s : VS) : VB := s.op.getLastD ⟨0,[],[],0,false⟩
def fails (b : Bool) (s : VS) : VS := { s with bad := s.bad || b }
def push (ts : List Nat) (s : VS) : VS := { s with l := s.l ++ ts }
def pop (s : VS) : Nat × VS := if s.l.length = s.top.ht then (0,s.fails (!s.top.dead)) else (s.l.getLastD 0,{ s with l := s.l.dropLast })
def want (t : Nat) (s : VS) : Nat × VS := (s.pop.1,s.pop.2.fails (decide (s.pop.1 ≠ t ∧ s.pop.1 ≠ 0 ∧ t ≠ 0)))
def takeR : List Nat → VS → List Nat × VS
  | [],s => ([],s)
  | t :: r,s => ((takeR r (s.want t).2).1 ++ [(s.want t).1],(takeR r (s.want t).2).2)
def take (ts : List Nat) (s : VS) : List Nat × VS := takeR ts.reverse s
def opens (op : Int) (fr to : List Nat) (s : VS) : VS := { s with op := s.op ++ [⟨op,fr,to,s.l.length,false⟩],l := s.l ++ fr }
def shut (s : VS) (b : VB) : VS := { l := s.l.take b.ht,op := s.op.dropLast,bad := s.bad || decide (s.l.length ≠ b.ht) }
def closes (s : VS) : VB × VS := (s.top,(s.take s.top.to).2.shut s.top)
def rests (s : VS) : VS := { s with l := s.l.take s.top.ht,op := s.op.dropLast ++ [{ s.top with dead := true }] }
def function (M : Mo) (t : Nat) (s : VS) : (List Nat × List Nat) × VS := if t < M.types.length then (M.types.getD t ([],[]),s) else (([],[]),s.fails true)
def signature (M : Mo) (t : Int) (s : VS) : (List Nat × List Nat) × VS :=
  if t = -64 then (([],[]),s) else if t < 0 then (([],[((t + 128) % 256).toNat]),s) else function M t.toNat s
def labels (b : VB) : List Nat := if b.op = 3 then b.fr else b.to
def label (n : Nat) (s : VS) : List Nat × VS := if n < s.op.length then (labels (s.op.getD (s.op.length - 1 - n) ⟨0,[],[],0,false⟩),s) else ([],s.fails true)
def table (M : Mo) (n : Nat) (s : VS) : Nat × VS := if n < M.tables.length then (M.tables.getD n 0,s) else (0,s.fails true)
def elem (M : Mo) (n : Nat) (s : VS) : Nat × VS := if n < M.elems.length then (M.elems.getD n 0,s) else (0,s.fails true)
def glob (M : Mo) (n : Nat) (s : VS) : (Nat × Bool) × VS := if n < M.globals.length then (M.globals.getD n (0,false),s) else ((0,false),s.fails true)
def loc (L : List Nat) (n : Nat) (s : VS) : Nat × VS := if n < L.length then (L.getD n 0,s) else (0,s.fails true)
def memory (M : Mo) (s : VS) : VS := s.fails (decide (M.mems = 0))
def data (M : Mo) (n : Nat) (s : VS) : VS := if M.counts = true then s.fails (decide (n ≥ M.count)) else s.fails (decide ¬ n < M.datas)
def own (t : Nat) : Bool := decide (t = 112 ∨ t = 111)
def fits (i o : List Nat) (s : VS) : VS := (s.take i).2.push o
def branch (last : List Nat) (s : VS) (n : Nat) : VS :=
  (((s.label n).2.fails (decide ((s.label n).1.length ≠ last.length))).take (s.label n).1).2.push (((s.label n).2.fails (decide ((s.label n).1.length ≠ last.length))).take (s.label n).1).1
def branches (x : Ins) (s : VS) : VS :=
  let s0 := (s.want 127).2
  (((x.l.foldl (branch (s0.label x.a).1) (s0.label x.a).2).take (s0.label x.a).1).2).rests
def calls (M : Mo) (f : Nat) (s : VS) : VS :=
  if f < M.funcs.length then fits ((s.function M (M.funcs.getD f 0)).1.1) ((s.function M (M.funcs.getD f 0)).1.2) (s.function M (M.funcs.getD f 0)).2 else s.fails true
def blk (M : Mo) (x : Ins) (s : VS) : VS :=
  let s1 := if x.op = 4 then (s.want 127).2 else s
  let r := s1.signature M x.t
  ((r.2.take r.1.1).2).opens x.op r.1.1 r.1.2
def els (s : VS) : VS := (s.closes.2.fails (decide (s.closes.1.op ≠ 4))).opens 5 s.closes.1.fr s.closes.1.to
def ends (s : VS) : VS :=
  let s1 := s.closes.2.fails (decide (s.closes.1.op = 4 ∧ s.closes.1.fr ≠ s.closes.1.to))
  if s1.op = [] then s1 else s1.push s.closes.1.to
def callI (M : Mo) (x : Ins) (s : VS) : VS :=
  let s1 := ((s.table M x.b).2.fails (decide ((s.table M x.b).1 ≠ 112)))
  let r := ((s1.want 127).2).function M x.a
  fits r.1.1 r.1.2 r.2
def control (M : Mo) (x : Ins) (s : VS) : Option VS :=
  if x.op = 0 then some s.rests
  else if x.op = 1 then some s
  else if x.op = 2 ∨ x.op = 3 ∨ x.op = 4 then some (s.blk M x)
  else if x.op = 5 then some s.els
  else if x.op = 11 then some s.ends
  else if x.op = 12 then some ((s.label x.a).2.take (s.label x.a).1).2.rests
  else if x.op = 13 then some (fits ((s.want 127).2.label x.a).1 ((s.want 127).2.label x.a).1 ((s.want 127).2.label x.a).2)
  else if x.op = 14 then some (s.branches x)
  else if x.op = 15 then some (s.take (s.op.headD ⟨0,[],[],0,false⟩).to).2.rests
  else if x.op = 16 then some (s.calls M x.a)
  else if x.op = 17 then some (s.callI M x)
  else none
def choose (s : VS) : VS :=
  let s1 := (s.want 127).2
  let a := s1.pop.1
  let b := s1.pop.2.pop.1
  (s1.pop.2.pop.2.fails (own a || own b || decide (a ≠ b ∧ a ≠ 0 ∧ b ≠ 0))).push [if a = 0 then b else a]
def places (M : Mo) (L : List Nat) (x : Ins) (s : VS) : Option VS :=
  if x.op = 26 then some s.pop.2
  else if x.op = 27 then some s.choose
  else if x.op = 28 then some (fits [x.a % 256,x.a % 256,127] [x.a % 256] s)
  else if x.op = 32 then some ((s.loc L x.a).2.push [(s.loc L x.a).1])
  else if x.op = 33 then some ((s.loc L x.a).2.want (s.loc L x.a).1).2
  else if x.op = 34 then some (((s.loc L x.a).2.want (s.loc L x.a).1).2.push [(s.loc L x.a).1])
  else if x.op = 35 then some ((s.glob M x.a).2.push [(s.glob M x.a).1.1])
  else if x.op = 36 then some (((s.glob M x.a).2.fails (!(s.glob M x.a).1.2)).want (s.glob M x.a).1.1).2
  else if x.op = 65 then some (s.push [127])
  else if x.op = 66 then some (s.push [126])
  else if x.op = 208 then some (s.push [x.a % 256])
  else if x.op = 209 then some ((s.pop.2.fails (!(own s.pop.1 || decide (s.pop.1 = 0)))).push [127])
  else if x.op = 210 then some ((s.fails (!(decide (x.a < M.funcs.length) && M.decl.getD x.a false))).push [112])
  else none
def bulk (M : Mo) (x : Ins) (s : VS) : Option VS :=
  if x.op = 37 then some (((s.table M x.a).2.want 127).2.push [(s.table M x.a).1])
  else if x.op = 38 then some ((s.table M x.a).2.take [127,(s.table M x.a).1]).2
  else if x.op = 63 then some ((s.memory M).push [127])
  else if x.op = 64 then some (((s.memory M).want 127).2.push [127])
  else if x.op = 64520 then some (((s.memory M).data M x.a).take [127,127,127]).2
  else if x.op = 64521 then some (s.data M x.a)
  else if x.op = 64522 ∨ x.op = 64523 then some ((s.memory M).take [127,127,127]).2
  else if x.op = 64524 then some ((((s.elem M x.a).2.table M x.b).2.fails (decide ((s.elem M x.a).1 ≠ ((s.elem M x.a).2.table M x.b).1))).take [127,127,127]).2
  else if x.op = 64525 then some (s.elem M x.a).2
  else if x.op = 64526 then some ((((s.table M x.a).2.table M x.b).2.fails (decide ((s.table M x.a).1 ≠ ((s.table M x.a).2.table M x.b).1))).take [127,127,127]).2
  else if x.op = 64527 then some (fits [(s.table M x.a).1,127] [127] (s.table M x.a).2)
  else if x.op = 64528 then some ((s.table M x.a).2.push [127])
  else if x.op = 64529 then some ((s.table M x.a).2.take [127,(s.table M x.a).1,127]).2
  else none
def width (op : Int) : Nat :=
  if op = 44 ∨ op = 45 ∨ op = 48 ∨ op = 49 ∨ op = 58 ∨ op = 60 then 1
  else if op = 46 ∨ op = 47 ∨ op = 50 ∨ op = 51 ∨ op = 59 ∨ op = 61 then 2
  else if op = 40 ∨ op = 52 ∨ op = 53 ∨ op = 54 ∨ op = 62 then 4
  else if op = 41 ∨ op = 55 then 8 else 0
def wide (op : Int) : Bool := decide (op = 41 ∨ 48 ≤ op ∧ op ≤ 53 ∨ op = 55 ∨ 60 ≤ op ∧ op ≤ 62)
def moves (M : Mo) (x : Ins) (s : VS) : VS :=
  let s1 := (s.memory M).fails (decide (x.a > 31 ∨ 2 ^ (x.a % 32) > width x.op))
  let t := if wide x.op = true then 126 else 127
  if x.op ≥ 54 then (s1.take [127,t]).2 else (s1.want 127).2.push [t]
def numbers (op : Int) : List Nat × Nat :=
  if op = 69 ∨ 103 ≤ op ∧ op ≤ 105 ∨ op = 192 ∨ op = 193 then ([127],127)
  else if 70 ≤ op ∧ op ≤ 79 ∨ 106 ≤ op ∧ op ≤ 120 then ([127,127],127)
  else if op = 80 ∨ op = 167 then ([126],127)
  else if 81 ≤ op ∧ op ≤ 90 then ([126,126],127)
  else if 121 ≤ op ∧ op ≤ 123 ∨ 194 ≤ op ∧ op ≤ 196 then ([126],126)
  else if 124 ≤ op ∧ op ≤ 138 then ([126,126],126)
  else if op = 172 ∨ op = 173 then ([127],126)
  else ([],0)
def one (M : Mo) (L : List Nat) (x : Ins) (s : VS) : VS :=
  match s.control M x with
  | some r => r
  | none => match s.places M L x with
    | some r => r
    | none => match s.bulk M x with
      | some r => r
      | none => if width x.op > 0 then s.moves M x else fits (numbers x.op).1 [(numbers x.op).2] (s.fails (decide ((numbers x.op).2 = 0)))
def run (M : Mo) (L : List Nat) : List Ins → VS → Bool
  | [],s => decide (s.op = [])
  | x :: r,s => if (s.one M L x).bad = true then false else if (s.one M L x).op = [] then decide (r = []) else run M L r (s.one M L x)
def start (rs : List Nat) : VS := ⟨[],[⟨2,[],rs,0,false⟩],false⟩
def body (M : Mo) (L rs : List Nat) (b : List Ins) : Bool := run M L b (start rs)
structure Wf (s : VS) : Prop where
  up : s.op.Pairwise fun a b => a.ht ≤ b.ht
  le : ∀ b ∈ s.op,b.ht ≤ s.l.length
end VS
instance : DecidableEq VB := fun a b => by
  cases a; cases b; simp only [VB.mk.injEq]; exact inferInstance

end
section
/- Types of bodies: heights go up, whatever is done. -/
namespace VS
theorem top_eq {s : VS} (h : s.op ≠ []) : s.op = s.op.dropLast ++ [s.top] := by
  unfold top
  rw [List.getLastD_eq_getLast?,List.getLast?_eq_some_getLast h]
  exact (List.dropLast_concat_getLast h).symm
theorem top_mem {s : VS} (h : s.op ≠ []) : s.top ∈ s.op := by
  have e := top_eq h
  generalize s.top = b at e
  rw [e]; simp
theorem top_get {s : VS} (h : s.op ≠ []) : s.op[s.op.length - 1]? = some s.top := by
  unfold top
  rw [List.getLastD_eq_getLast?,List.getLast?_eq_getElem?]
  have : s.op.length - 1 < s.op.length := by have := List.length_pos_iff.2 h; omega
  rw [List.getElem?_eq_getElem this]; rfl
structure Kp (s s' : VS) : Prop where
  op : s'.op = s.op
  wf : Wf s → s.op ≠ [] → Wf s'
  le : Wf s → s.op ≠ [] → s.top.ht ≤ s'.l.length
theorem Kp.top {s s' : VS} (k : Kp s s') : s'.top = s.top := by unfold VS.top; rw [k.op]
theorem Kp.ne {s s' : VS} (k : Kp s s') (h : s.op ≠ []) : s'.op ≠ [] := by rw [k.op]; exact h
theorem Kp.refl (s : VS) : Kp s s := ⟨rfl,fun w _ => w,fun w h => w.le _ (top_mem h)⟩
theorem Kp.trans {s s' s'' : VS} (k : Kp s s') (q : Kp s' s'') : Kp s s'' :=
  ⟨by rw [q.op,k.op],fun w h => q.wf (k.wf w h) (k.ne h),fun w h => by have := q.le (k.wf w h) (k.ne h); rwa [k.top] at this⟩
theorem fails_kp (b : Bool) (s : VS) : Kp s (s.fails b) := ⟨rfl,fun w _ => ⟨w.up,w.le⟩,fun w h => w.le _ (top_mem h)⟩
theorem push_kp (ts : List Nat) (s : VS) : Kp s (s.push ts) :=
  ⟨rfl,fun w _ => ⟨w.up,fun b hb => by have := w.le b hb; simp [push]; omega⟩,fun w h => by have := w.le _ (top_mem h); simp [push]; omega⟩
theorem le_top {s : VS} (w : Wf s) (h : s.op ≠ []) : ∀ b ∈ s.op,b.ht ≤ s.top.ht := by
  intro b hb
  have e := top_eq h
  have u := w.up
  generalize s.top = t at e ⊢
  rw [e] at u hb
  rw [List.pairwise_append] at u
  rcases List.mem_append.1 hb with q | q
  · exact u.2.2 b q t (by simp)
  · rw [List.mem_singleton] at q; subst q; exact Nat.le_refl _
theorem pop_kp (s : VS) : Kp s s.pop.2 := by
  unfold pop
  split
  · exact fails_kp _ s
  · rename_i hn
    have key : Wf s → s.op ≠ [] → s.top.ht ≤ s.l.length - 1 := fun w h => by
      have := w.le _ (top_mem h); omega
    refine ⟨rfl,fun w h => ⟨w.up,fun b hb => ?_⟩,fun w h => ?_⟩
    · have h1 := le_top w h b hb
      have h2 := key w h
      simp; omega
    · have h2 := key w h
      simp; omega
theorem want_kp (t : Nat) (s : VS) : Kp s (s.want t).2 := (pop_kp s).trans (fails_kp _ _)
theorem takeR_kp : ∀ (ts : List Nat) (s : VS),Kp s (takeR ts s).2
  | [],s => Kp.refl s
  | t :: r,s => (want_kp t s).trans (takeR_kp r _)
theorem take_kp (ts : List Nat) (s : VS) : Kp s (s.take ts).2 := takeR_kp _ s
theorem takeR_len : ∀ (ts : List Nat) (s : VS),(takeR ts s).1.length = ts.length
  | [],s => rfl
  | t :: r,s => by simp [takeR,takeR_len r]
theorem take_len (ts : List Nat) (s : VS) : (s.take ts).1.length = ts.length := by rw [take,takeR_len,List.length_reverse]
theorem function_kp (M : Mo) (t : Nat) (s : VS) : Kp s (s.function M t).2 := by unfold function; split; exact Kp.refl s; exact fails_kp _ _
theorem signature_kp (M : Mo) (t : Int) (s : VS) : Kp s (s.signature M t).2 := by
  unfold signature
  split
  · exact Kp.refl s
  · split
    · exact Kp.refl s
    · exact function_kp _ _ _
theorem label_kp (n : Nat) (s : VS) : Kp s (s.label n).2 := by unfold label; split; exact Kp.refl s; exact fails_kp _ _
theorem table_kp (M : Mo) (n : Nat) (s : VS) : Kp s (s.table M n).2 := by unfold table; split; exact Kp.refl s; exact fails_kp _ _
theorem elem_kp (M : Mo) (n : Nat) (s : VS) : Kp s (s.elem M n).2 := by unfold elem; split; exact Kp.refl s; exact fails_kp _ _
theorem glob_kp (M : Mo) (n : Nat) (s : VS) : Kp s (s.glob M n).2 := by unfold glob; split; exact Kp.refl s; exact fails_kp _ _
theorem loc_kp (L : List Nat) (n : Nat) (s : VS) : Kp s (s.loc L n).2 := by unfold loc; split; exact Kp.refl s; exact fails_kp _ _
theorem data_kp (M : Mo) (n : Nat) (s : VS) : Kp s (s.data M n) := by unfold data; split <;> exact fails_kp _ _
theorem Vl (i o : List Nat) (s : VS) : Kp s (fits i o s) := (take_kp i s).trans (push_kp o _)
theorem opens_wf (op : Int) (fr to : List Nat) {s : VS} (w : Wf s) : Wf (s.opens op fr to) ∧ (s.opens op fr to).op ≠ [] := by
  refine ⟨⟨?_,?_⟩,by simp [opens]⟩
  · show (s.op ++ [_]).Pairwise _
    rw [List.pairwise_append]
    exact ⟨w.up,List.pairwise_singleton _ _,fun a ha b hb => by rw [List.mem_singleton] at hb; subst hb; exact w.le a ha⟩
  · intro b hb
    show b.ht ≤ (s.l ++ fr).length
    rw [List.length_append]
    rcases List.mem_append.1 hb with q | q
    · have := w.le b q; omega
    · rw [List.mem_singleton] at q; subst q; show s.l.length ≤ _; omega
theorem shut_wf {s : VS} (w : Wf s) (h : s.op ≠ []) (hl : s.top.ht ≤ s.l.length) : Wf (s.shut s.top) := by
  have e := top_eq h
  have u := w.up
  refine ⟨?_,?_⟩
  · show s.op.dropLast.Pairwise _
    exact u.sublist (List.dropLast_sublist _)
  · intro b hb
    have hb' : b ∈ s.op.dropLast := hb
    have : b.ht ≤ s.top.ht := le_top w h b (List.dropLast_subset _ hb')
    show b.ht ≤ (s.l.take s.top.ht).length
    rw [List.length_take]; omega
theorem closes_wf {s : VS} (w : Wf s) (h : s.op ≠ []) : Wf s.closes.2 ∧ s.closes.2.op = s.op.dropLast := by
  have k := take_kp s.top.to s
  have w' := k.wf w h
  have t' := k.top
  have := shut_wf w' (k.ne h) (by rw [t']; exact k.le w h)
  rw [t'] at this
  refine ⟨this,?_⟩
  show (s.take s.top.to).2.op.dropLast = _
  rw [k.op]
theorem rests_wf {s : VS} (w : Wf s) (h : s.op ≠ []) : Wf s.rests ∧ s.rests.op ≠ [] := by
  have e := top_eq h
  have u := w.up
  have lt := le_top w h
  have hl := w.le _ (top_mem h)
  refine ⟨⟨?_,?_⟩,by simp [rests]⟩
  · show (s.op.dropLast ++ [{ s.top with dead := true }]).Pairwise _
    rw [List.pairwise_append]
    refine ⟨u.sublist (List.dropLast_sublist _),List.pairwise_singleton _ _,fun a ha b hb => ?_⟩
    rw [List.mem_singleton] at hb
    subst hb
    exact lt a (List.dropLast_subset _ ha)
  · intro b hb
    show b.ht ≤ (s.l.take s.top.ht).length
    rw [List.length_take]
    rcases List.mem_append.1 hb with q | q
    · have := lt b (List.dropLast_subset _ q); omega
    · rw [List.mem_singleton] at q; subst q; show s.top.ht ≤ _; omega
theorem branch_kp (last : List Nat) (s : VS) (n : Nat) : Kp s (branch last s n) :=
  (((label_kp n s).trans (fails_kp _ _)).trans (take_kp _ _)).trans (push_kp _ _)
theorem branchesL_kp (last : List Nat) : ∀ (ns : List Nat) (s : VS),Kp s (ns.foldl (branch last) s)
  | [],s => Kp.refl s
  | n :: r,s => (branch_kp last s n).trans (branchesL_kp last r _)
end VS

end
section
/- Types of bodies: what the document's checker computes; the two are the same. -/
namespace VS
def popR (w : Nat) (s : VS) : Nat × VS :=
  if s.l.length = s.top.ht then (w,s.fails (!s.top.dead))
  else if s.l.getLastD 0 = 0 then (w,{ s with l := s.l.dropLast })
  else (s.l.getLastD 0,{ l := s.l.dropLast,op := s.op,bad := s.bad || decide (w ≠ 0 ∧ s.l.getLastD 0 ≠ w) })
def popsR' : List Nat → VS → VS
  | [],s => s
  | t :: r,s => popsR' r (s.popR t).2
def popsR (ts : List Nat) (s : VS) : VS := popsR' ts.reverse s
theorem popR_2 (t : Nat) (s : VS) : (s.popR t).2 = (s.want t).2 := by
  unfold popR want pop
  split
  · simp [fails]
  · split
    · rename_i h; simp [fails]; simp_all
    · rename_i h
      simp only [fails,VS.mk.injEq,true_and]
      congr 1
      apply Bool.eq_iff_iff.2
      simp only [decide_eq_true_eq]
      constructor
      · rintro ⟨a,b⟩; exact ⟨b,h,a⟩
      · rintro ⟨a,b,c⟩; exact ⟨c,a⟩
theorem popsR'_eq : ∀ (ts : List Nat) (s : VS),popsR' ts s = (takeR ts s).2
  | [],s => rfl
  | t :: r,s => by rw [popsR',popR_2,popsR'_eq r]; rfl
theorem popsR_eq (ts : List Nat) (s : VS) : s.popsR ts = (s.take ts).2 := popsR'_eq _ _
def fitsR (i o : List Nat) (s : VS) : VS := (s.popsR i).push o
theorem Yi (i o : List Nat) (s : VS) : fitsR i o s = fits i o s := by rw [fitsR,popsR_eq]; rfl
def leaveR (s : VS) : VB × VS := (s.top,{ l := (s.popsR s.top.to).l,op := (s.popsR s.top.to).op.dropLast,bad := (s.popsR s.top.to).bad || decide ((s.popsR s.top.to).l.length ≠ s.top.ht) })
def Al (s s' : VS) : Prop := (s.bad = true ∧ s'.bad = true) ∨ s = s'
theorem Al.rfl' (s : VS) : Al s s := .inr rfl
theorem Xr {s : VS} {b : Bool} (h : s.bad = true) : (s.fails b).bad = true := by simp [fails,h]
theorem Yt {s : VS} {t : List Nat} (h : s.bad = true) : (s.push t).bad = true := h
theorem pop_bad {s : VS} (h : s.bad = true) : s.pop.2.bad = true := by unfold pop; split; exact Xr h; exact h
theorem Jt {s : VS} {t : Nat} (h : s.bad = true) : (s.want t).2.bad = true := Xr (pop_bad h)
theorem Qi : ∀ {ts : List Nat} {s : VS},s.bad = true → (takeR ts s).2.bad = true
  | [],s,h => h
  | t :: r,s,h => Qi (ts := r) (Jt h)
theorem Xt {s : VS} {t : List Nat} (h : s.bad = true) : (s.take t).2.bad = true := Qi h
theorem opens_bad {s : VS} {op : Int} {a b : List Nat} (h : s.bad = true) : (s.opens op a b).bad = true := h
theorem Jp {s : VS} (h : s.bad = true) : s.rests.bad = true := h
theorem Vc {s : VS} {i o : List Nat} (h : s.bad = true) : (fits i o s).bad = true := Yt (Xt h)
theorem leave_al (s : VS) : s.leaveR.1 = s.closes.1 ∧ Al s.leaveR.2 s.closes.2 ∧ s.leaveR.2.op = s.closes.2.op := by
  refine ⟨rfl,?_,?_⟩
  · unfold leaveR closes shut
    simp only [popsR_eq]
    by_cases h : (s.take s.top.to).2.l.length = s.top.ht
    · right
      simp only [VS.mk.injEq,and_true]
      rw [← h,List.take_length]
    · left
      simp [h]
  · unfold leaveR closes shut
    simp only [popsR_eq]
def keepsR : List Nat → VS → List Nat × VS
  | [],s => ([],s)
  | t :: r,s => if s.l.length = s.top.ht then ([],s.fails (!s.top.dead))
    else ((keepsR r { l := s.l.dropLast,op := s.op,bad := s.bad || decide (s.l.getLastD 0 ≠ 0 ∧ s.l.getLastD 0 ≠ t) }).1 ++ [s.l.getLastD 0],(keepsR r { l := s.l.dropLast,op := s.op,bad := s.bad || decide (s.l.getLastD 0 ≠ 0 ∧ s.l.getLastD 0 ≠ t) }).2)
def keeps (ts : List Nat) (s : VS) : VS := (keepsR ts.reverse s).2.push (keepsR ts.reverse s).1
def branchesR (last : List Nat) : List Nat → VS → VS
  | [],s => s
  | n :: r,s => if s.bad = true then s else branchesR last r (((s.label n).2.fails (decide ((s.label n).1.length ≠ last.length))).keeps (s.label n).1)
def jumpR (M : Mo) (x : Ins) (s : VS) : VS :=
  if x.op = 12 then ((s.label x.a).2.popsR (s.label x.a).1).rests
  else if x.op = 13 then fitsR ((s.popR 127).2.label x.a).1 ((s.popR 127).2.label x.a).1 ((s.popR 127).2.label x.a).2
  else if x.op = 14 then ((branchesR ((s.popR 127).2.label x.a).1 x.l ((s.popR 127).2.label x.a).2).popsR ((s.popR 127).2.label x.a).1).rests
  else if x.op = 15 then (s.popsR (s.op.headD ⟨0,[],[],0,false⟩).to).rests
  else if x.op = 16 then (if x.a < M.funcs.length then (if M.funcs.getD x.a 0 < M.types.length then fitsR (M.types.getD (M.funcs.getD x.a 0) ([],[])).1 (M.types.getD (M.funcs.getD x.a 0) ([],[])).2 s else s.fails true) else s.fails true)
  else if x.op = 17 then (if x.b < M.tables.length ∧ M.tables.getD x.b 0 = 112 then (if x.a < M.types.length then fitsR (M.types.getD x.a ([],[])).1 (M.types.getD x.a ([],[])).2 (s.popR 127).2 else (s.popR 127).2.fails true) else s.fails true)
  else s
def namesR (M : Mo) (L : List Nat) (x : Ins) (s : VS) : VS :=
  if x.op ≥ 35 then (if x.a < M.globals.length then (if x.op = 35 then s.push [(M.globals.getD x.a (0,false)).1] else ((s.fails (!(M.globals.getD x.a (0,false)).2)).popR (M.globals.getD x.a (0,false)).1).2) else s.fails true)
  else if x.a < L.length then (if x.op = 32 then s.push [L.getD x.a 0] else if x.op = 33 then (s.popR (L.getD x.a 0)).2 else fitsR [L.getD x.a 0] [L.getD x.a 0] s) else s.fails true
def tableR (M : Mo) (n : Nat) (s : VS) : Nat × VS := if n < M.tables.length then (M.tables.getD n 0,s) else (112,s.fails true)
def tablesR (M : Mo) (x : Ins) (s : VS) : VS :=
  if x.op = 37 then fitsR [127] [(s.tableR M x.a).1] (s.tableR M x.a).2
  else if x.op = 38 then fitsR [127,(s.tableR M x.a).1] [] (s.tableR M x.a).2
  else if x.op = 64524 then fitsR [127,127,127] [] ((s.tableR M x.b).2.fails (decide (¬ x.a < M.elems.length ∨ M.elems.getD x.a 0 ≠ (s.tableR M x.b).1)))
  else if x.op = 64525 then s.fails (decide ¬ x.a < M.elems.length)
  else if x.op = 64526 then fitsR [127,127,127] [] (((s.tableR M x.a).2.tableR M x.b).2.fails (decide ((s.tableR M x.a).1 ≠ ((s.tableR M x.a).2.tableR M x.b).1)))
  else if x.op = 64527 then fitsR [(s.tableR M x.a).1,127] [127] (s.tableR M x.a).2
  else if x.op = 64528 then (s.tableR M x.a).2.push [127]
  else fitsR [127,(s.tableR M x.a).1,127] [] (s.tableR M x.a).2
def movesR (M : Mo) (x : Ins) (s : VS) : VS :=
  let s1 := (s.memory M).fails (decide (x.a > 3 ∨ 2 ^ x.a > width x.op))
  let t := if x.op = 40 ∨ 44 ≤ x.op ∧ x.op ≤ 47 ∨ x.op = 54 ∨ x.op = 58 ∨ x.op = 59 then 127 else 126
  if x.op ≥ 54 then fitsR [127,t] [] s1 else fitsR [127] [t] s1
def bulkR (M : Mo) (x : Ins) (s : VS) : VS :=
  let n := if M.counts = true then M.count else M.datas
  let s1 := if x.op = 64520 ∨ x.op = 64521 then s.fails (decide (x.a ≥ n)) else s
  if x.op = 64521 then s1 else fitsR [127,127,127] [] (s1.memory M)
def numR (op : Int) (s : VS) : VS :=
  if op = 69 then fitsR [127] [127] s
  else if 70 ≤ op ∧ op ≤ 79 then fitsR [127,127] [127] s
  else if op = 80 then fitsR [126] [127] s
  else if 81 ≤ op ∧ op ≤ 90 then fitsR [126,126] [127] s
  else if 103 ≤ op ∧ op ≤ 105 ∨ op = 192 ∨ op = 193 then fitsR [127] [127] s
  else if 106 ≤ op ∧ op ≤ 120 then fitsR [127,127] [127] s
  else if 121 ≤ op ∧ op ≤ 123 ∨ 194 ≤ op ∧ op ≤ 196 then fitsR [126] [126] s
  else if 124 ≤ op ∧ op ≤ 138 then fitsR [126,126] [126] s
  else if op = 167 then fitsR [126] [127] s
  else if op = 172 ∨ op = 173 then fitsR [127] [126] s
  else s.fails true
def chooseR (s : VS) : VS :=
  let s1 := (s.popR 127).2
  let a := (s1.popR 0).1
  let b := ((s1.popR 0).2.popR 0).1
  ((s1.popR 0).2.popR 0).2.fails (own a || own b || decide (a ≠ b ∧ a ≠ 0 ∧ b ≠ 0)) |>.push [max a b]
def typedR (M : Mo) (t : Int) (s : VS) : (List Nat × List Nat) × VS :=
  if t = -64 then (([],[]),s) else if t < 0 then (([],[((t + 128) % 256).toNat]),s) else if t.toNat < M.types.length then (M.types.getD t.toNat ([],[]),s) else (([],[]),s.fails true)
def blkR (M : Mo) (x : Ins) (s : VS) : VS :=
  let r := s.typedR M x.t
  let s1 := if x.op = 4 then (r.2.popR 127).2 else r.2
  (s1.popsR r.1.1).opens x.op r.1.1 r.1.2
def elsR (s : VS) : VS := (s.leaveR.2.fails (decide (s.leaveR.1.op ≠ 4))).opens 5 s.leaveR.1.fr s.leaveR.1.to
def endsR (s : VS) : VS :=
  let s1 := s.leaveR.2.fails (decide (s.leaveR.1.op = 4 ∧ s.leaveR.1.fr ≠ s.leaveR.1.to))
  if s1.op = [] then s1 else s1.push s.leaveR.1.to
def oneR (M : Mo) (L : List Nat) (x : Ins) (s : VS) : VS :=
  if x.op = 0 then s.rests
  else if x.op = 1 then s
  else if x.op ≥ 2 ∧ x.op ≤ 4 then s.blkR M x
  else if x.op = 5 then s.elsR
  else if x.op = 11 then s.endsR
  else if x.op ≥ 12 ∧ x.op ≤ 17 then s.jumpR M x
  else if x.op = 26 then (s.popR 0).2
  else if x.op = 27 then s.chooseR
  else if x.op = 28 then fitsR [x.a % 256,x.a % 256,127] [x.a % 256] s
  else if x.op ≥ 32 ∧ x.op ≤ 36 then s.namesR M L x
  else if x.op = 37 ∨ x.op = 38 ∨ x.op ≥ 64524 ∧ x.op ≤ 64529 then s.tablesR M x
  else if x.op = 208 then s.push [x.a % 256]
  else if x.op = 209 then ((s.popR 0).2.fails (decide ((s.popR 0).1 ≠ 0 ∧ ¬ ((s.popR 0).1 = 112 ∨ (s.popR 0).1 = 111)))).push [127]
  else if x.op = 210 then (s.fails (decide (¬ x.a < M.decl.length ∨ M.decl.getD x.a false = false))).push [112]
  else if x.op = 65 then s.push [127]
  else if x.op = 66 then s.push [126]
  else if x.op = 63 then (s.memory M).push [127]
  else if x.op = 64 then fitsR [127] [127] (s.memory M)
  else if width x.op > 0 then s.movesR M x
  else if x.op ≥ 64520 ∧ x.op ≤ 64523 then s.bulkR M x
  else numR x.op s
end VS

end
section
/- Types of bodies: val's checker and the document's go on alike. -/
namespace VS
theorem Yj (s : VS) : s.fails false = s := by simp [fails]
theorem Ui : ∀ {ts : List Nat} {s : VS},s.bad = true → (keepsR ts s).2.bad = true
  | [],s,h => h
  | t :: r,s,h => by
    unfold keepsR
    split
    · exact Xr h
    · exact Ui (ts := r) (by simp [h])
theorem branch_bad {last : List Nat} {s : VS} {n : Nat} (h : s.bad = true) : (branch last s n).bad = true := by
  refine Yt (Xt (Xr ?_))
  unfold label; split; exact h; exact Xr h
theorem Vq {last : List Nat} : ∀ {ns : List Nat} {s : VS},s.bad = true → (ns.foldl (branch last) s).bad = true
  | [],s,h => h
  | n :: r,s,h => Vq (ns := r) (branch_bad h)
theorem Kq {last : List Nat} : ∀ {ns : List Nat} {s : VS},s.bad = true → (branchesR last ns s).bad = true
  | [],s,h => h
  | n :: r,s,h => by unfold branchesR; rw [if_pos h]; exact h
def Sm (s s' : VS) : Prop := s.op = s'.op ∧ s.bad = false ∧ s'.bad = false ∧ ∃ (B R : List Nat) (k : Nat),B.length = s'.top.ht ∧ s.l = B ++ List.replicate k 0 ++ R ∧ s'.l = B ++ R ∧ (k ≠ 0 → s'.top.dead = true)
def Sb (s s' : VS) : Prop := (s.bad = true ∧ s'.bad = true) ∨ Sm s s'
theorem Sm.push {s s' : VS} (q : Sm s s') (ts : List Nat) : Sm (s.push ts) (s'.push ts) := by
  obtain ⟨h1,h2,h3,B,R,k,h4,h5,h6,h7⟩ := q
  exact ⟨h1,h2,h3,B,R ++ ts,k,h4,by simp [VS.push,h5],by simp [VS.push,h6],h7⟩
theorem Sb.push {s s' : VS} (q : Sb s s') (ts : List Nat) : Sb (s.push ts) (s'.push ts) := q.elim (fun q => .inl ⟨Yt q.1,Yt q.2⟩) fun q => .inr (q.push ts)
theorem top_of {s s' : VS} (h : s.op = s'.op) : s.top = s'.top := by unfold top; rw [h]
theorem push_push (s : VS) (a b : List Nat) : s.push (a ++ b) = (s.push a).push b := by simp [push]
theorem Zh (l : List Nat) (x d : Nat) : (l ++ [x]).getLastD d = x := by simp [List.getLastD_eq_getLast?]
theorem zeros_take : ∀ (ts : List Nat) {s : VS} {B : List Nat} {k : Nat},s.bad = false → s.l = B ++ List.replicate k 0 → B.length = s.top.ht → s.top.dead = true →
    ∃ k',((takeR ts s).2.push (takeR ts s).1).l = B ++ List.replicate k' 0 ∧ (takeR ts s).2.op = s.op ∧ (takeR ts s).2.bad = false
  | [],s,B,k,hb,hl,hB,hd => ⟨k,by simp [takeR,push,hl],rfl,hb⟩
  | t :: r,s,B,k,hb,hl,hB,hd => by
    have key : ∃ k1,(s.want t).2.l = B ++ List.replicate k1 0 ∧ (s.want t).1 = 0 ∧ (s.want t).2.op = s.op ∧ (s.want t).2.bad = false := by
      unfold want pop
      by_cases he : s.l.length = s.top.ht
      · rw [if_pos he]
        have : k = 0 := by rw [hl,List.length_append,hB,List.length_replicate] at he; omega
        subst this
        exact ⟨0,by simp [fails,hl],rfl,rfl,by simp [fails,hb,hd]⟩
      · rw [if_neg he]
        obtain ⟨k,rfl⟩ : ∃ k',k = k' + 1 := ⟨k - 1,by
          have : k ≠ 0 := fun q => he (by subst q; rw [hl]; simp [hB])
          omega⟩
        rw [List.replicate_succ',← List.append_assoc] at hl
        have h0 : s.l.getLastD 0 = 0 := by rw [hl,Zh]
        exact ⟨k,by simp [fails,hl],h0,rfl,by simp only [fails,h0]; simp [hb]⟩
    obtain ⟨k1,a1,a2,a3,a4⟩ := key
    obtain ⟨k2,b1,b2,b3⟩ := zeros_take r a4 a1 (by rw [top_of a3]; exact hB) (by rw [top_of a3]; exact hd)
    refine ⟨k2 + 1,?_,by rw [← a3]; exact b2,b3⟩
    show ((takeR r (s.want t).2).2.push ((takeR r (s.want t).2).1 ++ [(s.want t).1])).l = _
    rw [push_push]
    simp only [push] at b1 ⊢
    rw [b1,a2,List.replicate_succ']; simp
theorem keeps_take : ∀ (ts : List Nat) {s s' : VS},(∀ t ∈ ts,t ≠ 0) → Sm s s' → Sb ((takeR ts s).2.push (takeR ts s).1) ((keepsR ts s').2.push (keepsR ts s').1)
  | [],s,s',_,q => .inr (q.push [])
  | t :: r,s,s',ht,q => by
    have q0 := q
    obtain ⟨h1,h2,h3,B,R,k,h4,h5,h6,h7⟩ := q
    have htop := top_of h1
    by_cases hR : R = []
    · subst hR
      have he : s'.l.length = s'.top.ht := by rw [h6]; simp [h4]
      have eK : keepsR (t :: r) s' = ([],s'.fails (!s'.top.dead)) := by unfold keepsR; rw [if_pos he]
      rw [eK]
      cases hd : s'.top.dead with
      | true =>
        obtain ⟨k',c1,c2,c3⟩ := zeros_take (t :: r) h2 (B := B) (k := k) (by simpa using h5) (by rw [htop]; exact h4) (by rw [htop]; exact hd)
        refine .inr ⟨?_,?_,?_,B,[],k',?_,by simpa using c1,by simp [push,fails,h6],fun _ => hd⟩
        · show (takeR (t :: r) s).2.op = s'.op
          rw [c2,h1]
        · exact c3
        · simp [push,fails,h3]
        · exact h4
      | false =>
        have hk : k = 0 := Decidable.byContradiction fun q => by have := h7 q; rw [hd] at this; cases this
        subst hk
        refine .inl ⟨Yt ?_,by simp [push,fails]⟩
        refine Qi (ts := r) (Xr ?_)
        unfold pop
        rw [if_pos (by rw [h5,htop]; simp [h4])]
        simp [fails,htop,hd]
    · obtain ⟨R',u,rfl⟩ : ∃ R' u,R = R' ++ [u] := ⟨R.dropLast,R.getLast hR,(List.dropLast_concat_getLast hR).symm⟩
      have hne : ¬ s'.l.length = s'.top.ht := by rw [h6]; simp [h4]
      have hne2 : ¬ s.l.length = s.top.ht := by rw [h5,htop]; simp [h4]
      have e1 : s'.l.getLastD 0 = u := by rw [h6,← List.append_assoc,Zh]
      have e2 : s.l.getLastD 0 = u := by rw [h5,← List.append_assoc,Zh]
      have d1 : s'.l.dropLast = B ++ R' := by rw [h6,← List.append_assoc]; simp
      have d2 : s.l.dropLast = B ++ List.replicate k 0 ++ R' := by rw [h5,← List.append_assoc]; simp
      have eK : keepsR (t :: r) s' = ((keepsR r { l := s'.l.dropLast,op := s'.op,bad := s'.bad || decide (u ≠ 0 ∧ u ≠ t) }).1 ++ [u],(keepsR r { l := s'.l.dropLast,op := s'.op,bad := s'.bad || decide (u ≠ 0 ∧ u ≠ t) }).2) := by
        conv => lhs; unfold keepsR
        rw [if_neg hne,e1]
      have eW : s.want t = (u,{ l := s.l.dropLast,op := s.op,bad := s.bad || decide (u ≠ t ∧ u ≠ 0 ∧ t ≠ 0) }) := by
        unfold want pop
        rw [if_neg hne2,e2]
        rfl
      have ht0 : t ≠ 0 := ht t List.mem_cons_self
      have eB : decide (u ≠ t ∧ u ≠ 0 ∧ t ≠ 0) = decide (u ≠ 0 ∧ u ≠ t) := by
        apply Bool.eq_iff_iff.2
        simp only [decide_eq_true_eq]
        exact ⟨fun ⟨a,b,_⟩ => ⟨b,a⟩,fun ⟨a,b⟩ => ⟨b,a,ht0⟩⟩
      rw [eK]
      show Sb ((takeR r (s.want t).2).2.push ((takeR r (s.want t).2).1 ++ [(s.want t).1])) _
      rw [eW,eB]
      simp only
      rw [push_push,push_push]
      refine Sb.push ?_ [u]
      cases hbd : decide (u ≠ 0 ∧ u ≠ t) with
      | true => exact .inl ⟨Yt (Qi (by simp)),Yt (Ui (by simp))⟩
      | false =>
        refine keeps_take r (fun t h => ht t (List.mem_cons_of_mem _ h)) ⟨h1,by simp [h2],by simp [h3],B,R',k,h4,d2,d1,h7⟩
def NZ (s : VS) : Prop := ∀ b ∈ s.op,(∀ t ∈ b.fr,t ≠ 0) ∧ ∀ t ∈ b.to,t ≠ 0
theorem label_nz {s : VS} (z : NZ s) (n : Nat) : ∀ t ∈ (s.label n).1,t ≠ 0 := by
  unfold label
  split
  · rename_i h
    have hlt : s.op.length - 1 - n < s.op.length := by omega
    have e : s.op.getD (s.op.length - 1 - n) ⟨0,[],[],0,false⟩ = s.op[s.op.length - 1 - n] := by simp [List.getD,hlt]
    rw [e]
    have := z _ (List.getElem_mem hlt)
    unfold labels
    split
    · exact this.1
    · exact this.2
  · intro t h; cases h
theorem label_same {s s' : VS} (h : s.op = s'.op) (n : Nat) : (s.label n).1 = (s'.label n).1 := by
  unfold label
  rw [h]
  split <;> rfl
theorem branches_sb {last : List Nat} : ∀ (ns : List Nat) {s s' : VS},NZ s → Sm s s' → Sb (ns.foldl (branch last) s) (branchesR last ns s')
  | [],s,s',z,q => .inr q
  | n :: r,s,s',z,q => by
    obtain ⟨h1,h2,h3,h4⟩ := id q
    unfold branchesR
    rw [if_neg (by rw [h3]; simp)]
    have hl := label_same h1 n
    show Sb (r.foldl (branch last) (branch last s n)) _
    have kp := branch_kp last s n
    have key : Sb (branch last s n) (((s'.label n).2.fails (decide ((s'.label n).1.length ≠ last.length))).keeps (s'.label n).1) := by
      unfold branch keeps take
      rw [← hl]
      by_cases hn : n < s.op.length
      · have e1 : (s.label n).2 = s := by unfold label; rw [if_pos hn]
        have e2 : (s'.label n).2 = s' := by unfold label; rw [if_pos (by rw [← h1]; exact hn)]
        rw [e1,e2]
        cases hd : decide ((s.label n).1.length ≠ last.length) with
        | true => exact .inl ⟨Yt (Qi (by simp [fails])),Yt (Ui (by simp [fails]))⟩
        | false =>
          rw [Yj,Yj]
          exact keeps_take _ (fun t h => label_nz z n t (by simpa using h)) q
      · have e1 : (s.label n).2 = s.fails true := by unfold label; rw [if_neg hn]
        have e2 : (s'.label n).2 = s'.fails true := by unfold label; rw [if_neg (by rw [← h1]; exact hn)]
        rw [e1,e2]
        exact .inl ⟨Yt (Qi (by simp [fails])),Yt (Ui (by simp [fails]))⟩
    rcases key with ⟨k1,k2⟩ | k
    · exact .inl ⟨Vq k1,Kq k2⟩
    · exact branches_sb r (by unfold NZ; rw [kp.op]; exact z) k
theorem Sm.take {s s' : VS} (q : Sm s s') : ∀ (ts : List Nat),Sb (takeR ts s).2 (takeR ts s').2 := by
  intro ts
  induction ts generalizing s s' with
  | nil => exact .inr q
  | cons t r ih =>
    have key : Sb (s.want t).2 (s'.want t).2 := by
      obtain ⟨h1,h2,h3,B,R,k,h4,h5,h6,h7⟩ := q
      have htop := top_of h1
      by_cases hR : R = []
      · subst hR
        have he : s'.l.length = s'.top.ht := by rw [h6]; simp [h4]
        unfold want pop
        rw [if_pos he]
        by_cases hk : k = 0
        · subst hk
          rw [if_pos (by rw [h5,htop]; simp [h4]),htop]
          cases hd : s'.top.dead with
          | false => exact .inl ⟨by simp [fails],by simp [fails]⟩
          | true => exact .inr ⟨h1,by simp [fails,h2],by simp [fails,h3],B,[],0,h4,by simp [fails,h5],by simp [fails,h6],fun q => absurd rfl q⟩
        · obtain ⟨k,rfl⟩ : ∃ k',k = k' + 1 := ⟨k - 1,by omega⟩
          have hd := h7 hk
          rw [List.append_nil,List.replicate_succ',← List.append_assoc] at h5
          rw [if_neg (by rw [h5,htop]; simp [h4])]
          have h0 : s.l.getLastD 0 = 0 := by rw [h5,Zh]
          rw [h0,hd]
          exact .inr ⟨h1,by simp [fails,h2],by simp [fails,h3],B,[],k,h4,by simp [fails,h5],by simp [fails,h6],fun _ => hd⟩
      · obtain ⟨R',u,rfl⟩ : ∃ R' u,R = R' ++ [u] := ⟨R.dropLast,R.getLast hR,(List.dropLast_concat_getLast hR).symm⟩
        have hne : ¬ s'.l.length = s'.top.ht := by rw [h6]; simp [h4]
        have hne2 : ¬ s.l.length = s.top.ht := by rw [h5,htop]; simp [h4]
        have e1 : s'.l.getLastD 0 = u := by rw [h6,← List.append_assoc,Zh]
        have e2 : s.l.getLastD 0 = u := by rw [h5,← List.append_assoc,Zh]
        have d1 : s'.l.dropLast = B ++ R' := by rw [h6,← List.append_assoc]; simp
        have d2 : s.l.dropLast = B ++ List.replicate k 0 ++ R' := by rw [h5,← List.append_assoc]; simp
        unfold want pop
        rw [if_neg hne,if_neg hne2,e1,e2]
        cases hbd : decide (u ≠ t ∧ u ≠ 0 ∧ t ≠ 0) with
        | true => exact .inl ⟨by simp [fails],by simp [fails]⟩
        | false => exact .inr ⟨h1,by simp [fails,h2],by simp [fails,h3],B,R',k,h4,d2,d1,h7⟩
    rcases key with ⟨k1,k2⟩ | k
    · exact .inl ⟨Qi (ts := r) k1,Qi (ts := r) k2⟩
    · exact ih k
theorem Sm.rests {s s' : VS} (q : Sm s s') : s.rests = s'.rests := by
  obtain ⟨h1,h2,h3,B,R,k,h4,h5,h6,h7⟩ := q
  have htop := top_of h1
  unfold VS.rests
  rw [htop,h1,h2,h3,h5,h6,← h4,List.append_assoc,List.take_left' rfl,List.take_left' rfl]
theorem branches_al (x : Ins) {s : VS} (w : Wf s) (h : s.op ≠ []) (z : NZ s) :
    Al (((branchesR ((s.want 127).2.label x.a).1 x.l ((s.want 127).2.label x.a).2).popsR ((s.want 127).2.label x.a).1).rests) (s.branches x) := by
  have k1 := (want_kp 127 s).trans (label_kp x.a _)
  unfold branches
  rw [popsR_eq]
  simp only
  cases hb : ((s.want 127).2.label x.a).2.bad with
  | true => exact .inl ⟨Jp (Xt (Kq hb)),Jp (Xt (Vq hb))⟩
  | false =>
    have w1 := k1.wf w h
    have le := k1.le w h
    rw [← k1.top] at le
    have sm : Sm ((s.want 127).2.label x.a).2 ((s.want 127).2.label x.a).2 := ⟨rfl,hb,hb,_,_,0,(List.length_take_of_le le),by simp only [List.replicate_zero,List.append_nil]; exact (List.take_append_drop _ _).symm,(List.take_append_drop _ _).symm,fun q => absurd rfl q⟩
    rcases branches_sb (last := ((s.want 127).2.label x.a).1) x.l (by unfold NZ; rw [k1.op]; exact z) sm with ⟨c1,c2⟩ | c
    · exact .inl ⟨Jp (Xt c2),Jp (Xt c1)⟩
    · rcases c.take (((s.want 127).2.label x.a).1.reverse) with ⟨d1,d2⟩ | d
      · exact .inl ⟨Jp d2,Jp d1⟩
      · exact .inr d.rests.symm
end VS

end
section
/- Types of bodies: val's checker and the document's go on alike: all instructions, whole bodies. -/
namespace VS
theorem Al.of {s s' : VS} (f g : VS → VS) (q : Al s s') (hf : ∀ s,s.bad = true → (f s).bad = true) (hg : ∀ s,s.bad = true → (g s).bad = true) (he : f s' = g s') : Al (f s) (g s') := by
  rcases q with ⟨a,b⟩ | rfl
  · exact .inl ⟨hf _ a,hg _ b⟩
  · rw [he]; exact .inr rfl
theorem want_fails (b : Bool) (t : Nat) (s : VS) : (s.fails b).want t = ((s.want t).1,(s.want t).2.fails b) := by
  have hp : (s.fails b).pop = (s.pop.1,s.pop.2.fails b) := by
    unfold pop
    show (if s.l.length = s.top.ht then _ else _) = _
    split
    · simp [fails,top,Bool.or_right_comm]
    · simp [fails]
  unfold want
  rw [hp]
  simp [fails,Bool.or_right_comm]
theorem popR0 (s : VS) : s.popR 0 = s.pop := by
  unfold popR pop
  split
  · rfl
  · split
    · rename_i h; simp_all
    · simp
theorem Je (s : VS) : s.push [] = s := by simp [push]
theorem typedR_eq (M : Mo) (t : Int) (s : VS) : s.typedR M t = s.signature M t := by
  unfold typedR signature function
  rfl
theorem signature_fails (M : Mo) (t : Int) (s : VS) : ∃ b,(s.signature M t).2 = s.fails b ∧ ∀ s' : VS,s'.signature M t = ((s.signature M t).1,s'.fails b) := by
  unfold signature function
  split
  · exact ⟨false,(Yj _).symm,fun s' => by rw [Yj]⟩
  · split
    · exact ⟨false,(Yj _).symm,fun s' => by rw [Yj]⟩
    · split
      · exact ⟨false,(Yj _).symm,fun s' => by rw [Yj]⟩
      · exact ⟨true,rfl,fun s' => rfl⟩
theorem blk_eq (M : Mo) (x : Ins) (s : VS) : s.blkR M x = s.blk M x := by
  unfold blkR blk
  simp only [typedR_eq,popR_2,popsR_eq]
  split
  · obtain ⟨b,h1,h2⟩ := signature_fails M x.t s
    rw [h2 (s.want 127).2,h1]
    simp only
    rw [want_fails]
  · rfl
theorem els_al (s : VS) : Al s.elsR s.els := by
  obtain ⟨h1,h2,h3⟩ := leave_al s
  unfold elsR els
  rw [h1]
  exact Al.of (fun z => (z.fails _).opens 5 _ _) (fun z => (z.fails _).opens 5 _ _) h2 (fun z q => opens_bad (Xr q)) (fun z q => opens_bad (Xr q)) rfl
theorem ends_al (s : VS) : Al s.endsR s.ends := by
  obtain ⟨h1,h2,h3⟩ := leave_al s
  unfold endsR ends
  rw [h1]
  simp only
  refine Al.of (fun z => if (z.fails _).op = [] then z.fails _ else (z.fails _).push _) (fun z => if (z.fails _).op = [] then z.fails _ else (z.fails _).push _) h2 ?_ ?_ rfl
  all_goals
    intro z q
    split
    · exact Xr q
    · exact Yt (Xr q)
theorem jump_al (M : Mo) (x : Ins) {s : VS} (w : Wf s) (h : s.op ≠ []) (z : NZ s) (hx : x.op ≥ 12 ∧ x.op ≤ 17) : ∃ r,s.control M x = some r ∧ Al (s.jumpR M x) r := by
  have hc : x.op = 12 ∨ x.op = 13 ∨ x.op = 14 ∨ x.op = 15 ∨ x.op = 16 ∨ x.op = 17 := by omega
  rcases hc with e | e | e | e | e | e
  · refine ⟨_,by simp [control,e]; rfl,?_⟩
    simp [jumpR,e,popsR_eq]; exact Al.rfl' _
  · refine ⟨_,by simp [control,e]; rfl,?_⟩
    simp [jumpR,e,Yi,popR_2]; exact Al.rfl' _
  · refine ⟨_,by simp [control,e]; rfl,?_⟩
    simp only [jumpR,e,popR_2]
    exact branches_al x w h z
  · refine ⟨_,by simp [control,e]; rfl,?_⟩
    simp [jumpR,e,popsR_eq]; exact Al.rfl' _
  · refine ⟨_,by simp [control,e]; rfl,?_⟩
    simp only [jumpR,e]
    unfold calls function
    simp only [Yi]
    rw [if_neg (by decide),if_neg (by decide),if_neg (by decide),if_neg (by decide),if_pos trivial]
    split
    · split
      · exact Al.rfl' _
      · exact .inl ⟨by simp [fails],Vc (by simp [fails])⟩
    · exact Al.rfl' _
  · refine ⟨_,by simp [control,e]; rfl,?_⟩
    simp only [jumpR,e,popR_2]
    unfold callI function
    simp only [Yi]
    rw [if_neg (by decide),if_neg (by decide),if_neg (by decide),if_neg (by decide),if_neg (by decide),if_pos trivial]
    by_cases hb : x.b < M.tables.length ∧ M.tables.getD x.b 0 = 112
    · rw [if_pos hb]
      have : (s.table M x.b).2.fails (decide ((s.table M x.b).1 ≠ 112)) = s := by
        unfold table
        rw [if_pos hb.1,hb.2]
        exact Yj s
      rw [this]
      split
      · exact Al.rfl' _
      · exact .inl ⟨by simp [fails],Vc (by simp [fails])⟩
    · rw [if_neg hb]
      have : ((s.table M x.b).2.fails (decide ((s.table M x.b).1 ≠ 112))).bad = true := by
        unfold table
        split
        · rename_i h1
          have : M.tables.getD x.b 0 ≠ 112 := fun q => hb ⟨h1,q⟩
          show (_ || decide _) = true
          rw [decide_eq_true this,Bool.or_true]
        · simp [fails]
      refine .inl ⟨by simp [fails],Vc ?_⟩
      split
      · exact Jt this
      · exact Xr (Jt this)
theorem choose_al (s : VS) : Al s.chooseR s.choose := by
  unfold chooseR choose
  simp only [popR0,popR_2]
  by_cases h : (own (s.want 127).2.pop.1 || own (s.want 127).2.pop.2.pop.1 || decide ((s.want 127).2.pop.1 ≠ (s.want 127).2.pop.2.pop.1 ∧ (s.want 127).2.pop.1 ≠ 0 ∧ (s.want 127).2.pop.2.pop.1 ≠ 0)) = true
  · rw [h]
    exact .inl ⟨by simp [fails,push],by simp [fails,push]⟩
  · rw [Bool.not_eq_true] at h
    rw [h]
    have h2 := of_decide_eq_false (Bool.or_eq_false_iff.1 h).2
    have e : max (s.want 127).2.pop.1 (s.want 127).2.pop.2.pop.1 = if (s.want 127).2.pop.1 = 0 then (s.want 127).2.pop.2.pop.1 else (s.want 127).2.pop.1 := by
      generalize (s.want 127).2.pop.1 = a at h2 ⊢
      generalize (s.want 127).2.pop.2.pop.1 = b at h2 ⊢
      split <;> omega
    rw [e]
    exact Al.rfl' _
theorem names_al (M : Mo) (L : List Nat) (x : Ins) (s : VS) (hx : x.op ≥ 32 ∧ x.op ≤ 36) : ∃ r,s.control M x = none ∧ s.places M L x = some r ∧ Al (s.namesR M L x) r := by
  have hc : x.op = 32 ∨ x.op = 33 ∨ x.op = 34 ∨ x.op = 35 ∨ x.op = 36 := by omega
  rcases hc with e | e | e | e | e
  all_goals refine ⟨_,by simp [control,e],by simp [places,e]; rfl,?_⟩
  · simp [namesR,e]
    unfold loc
    split
    · exact Al.rfl' _
    · exact .inl ⟨by simp [fails],by simp [fails,push]⟩
  · simp [namesR,e,popR_2]
    unfold loc
    split
    · exact Al.rfl' _
    · exact .inl ⟨by simp [fails],Jt (by simp [fails])⟩
  · simp [namesR,e,Yi]
    unfold loc
    split
    · exact Al.rfl' _
    · exact .inl ⟨by simp [fails],Yt (Jt (by simp [fails]))⟩
  · simp [namesR,e]
    unfold glob
    split
    · exact Al.rfl' _
    · exact .inl ⟨by simp [fails],by simp [fails,push]⟩
  · simp [namesR,e,popR_2]
    unfold glob
    split
    · exact Al.rfl' _
    · exact .inl ⟨by simp [fails],Jt (Xr (by simp [fails]))⟩
theorem tables_al (M : Mo) (L : List Nat) (x : Ins) (s : VS) (hx : x.op = 37 ∨ x.op = 38 ∨ x.op ≥ 64524 ∧ x.op ≤ 64529) : ∃ r,s.control M x = none ∧ s.places M L x = none ∧ s.bulk M x = some r ∧ Al (s.tablesR M x) r := by
  have hc : x.op = 37 ∨ x.op = 38 ∨ x.op = 64524 ∨ x.op = 64525 ∨ x.op = 64526 ∨ x.op = 64527 ∨ x.op = 64528 ∨ x.op = 64529 := by omega
  rcases hc with e | e | e | e | e | e | e | e
  all_goals refine ⟨_,by simp [control,e],by simp [places,e],by simp only [bulk,e]; rfl,?_⟩
  · simp [tablesR,e,Yi]
    unfold table tableR
    split
    · exact Al.rfl' _
    · exact .inl ⟨Vc (by simp [fails]),Yt (Jt (by simp [fails]))⟩
  · simp [tablesR,e,Yi]
    unfold table tableR fits
    rw [Je]
    split
    · exact Al.rfl' _
    · exact .inl ⟨Xt (by simp [fails]),Xt (by simp [fails])⟩
  · simp only [tablesR,e,Yi,fits,Je]
    rw [if_neg (by decide),if_neg (by decide),if_pos trivial]
    unfold table tableR elem
    by_cases h1 : x.b < M.tables.length <;> by_cases h2 : x.a < M.elems.length
    · simp only [if_pos h1,if_pos h2]
      refine .inr ?_
      congr 3
      simp [h2]
    · simp only [if_pos h1,if_neg h2]
      exact .inl ⟨Xt (by simp [fails,h2]),Xt (Xr (by simp [fails]))⟩
    · simp only [if_neg h1,if_pos h2]
      exact .inl ⟨Xt (by simp [fails]),Xt (by simp [fails])⟩
    · simp only [if_neg h1,if_neg h2]
      exact .inl ⟨Xt (by simp [fails]),Xt (by simp [fails])⟩
  · simp [tablesR,e]
    unfold elem
    by_cases h2 : x.a < M.elems.length
    · rw [if_pos h2,decide_eq_false (by omega),Yj]; exact Al.rfl' _
    · rw [if_neg h2,decide_eq_true (by omega)]; exact Al.rfl' _
  · simp only [tablesR,e,Yi,fits,Je]
    rw [if_neg (by decide),if_neg (by decide),if_neg (by decide),if_neg (by decide),if_pos trivial]
    unfold table tableR
    by_cases h1 : x.a < M.tables.length <;> by_cases h2 : x.b < M.tables.length
    · simp only [if_pos h1,if_pos h2]; exact Al.rfl' _
    · simp only [if_pos h1,if_neg h2]
      exact .inl ⟨Xt (Xr (by simp [fails])),Xt (Xr (by simp [fails]))⟩
    · simp only [if_neg h1,if_pos h2]
      exact .inl ⟨Xt (Xr (by simp [fails])),Xt (Xr (by simp [fails]))⟩
    · simp only [if_neg h1,if_neg h2]
      exact .inl ⟨Xt (Xr (by simp [fails])),Xt (Xr (by simp [fails]))⟩
  · simp [tablesR,e,Yi]
    unfold table tableR
    split
    · exact Al.rfl' _
    · exact .inl ⟨Vc (by simp [fails]),Vc (by simp [fails])⟩
  · simp [tablesR,e]
    unfold table tableR
    split
    · exact Al.rfl' _
    · exact .inl ⟨by simp [fails,push],by simp [fails,push]⟩
  · simp only [tablesR,e,Yi,fits,Je]
    rw [if_neg (by decide),if_neg (by decide),if_neg (by decide),if_neg (by decide),if_neg (by decide),if_neg (by decide),if_neg (by decide)]
    unfold table tableR
    split
    · exact Al.rfl' _
    · exact .inl ⟨Xt (by simp [fails]),Xt (by simp [fails])⟩
theorem width_le (op : Int) : width op ≤ 8 := by unfold width; repeat' split <;> try omega
theorem moves_eq (M : Mo) (x : Ins) (s : VS) (hw : width x.op > 0) : s.movesR M x = s.moves M x := by
  unfold movesR moves
  simp only [Yi]
  have e1 : decide (x.a > 3 ∨ 2 ^ x.a > width x.op) = decide (x.a > 31 ∨ 2 ^ (x.a % 32) > width x.op) := by
    apply Bool.eq_iff_iff.2
    simp only [decide_eq_true_eq]
    have h8 := width_le x.op
    by_cases h3 : x.a ≤ 3
    · rw [Nat.mod_eq_of_lt (by omega)]
      constructor
      · rintro (q | q)
        · omega
        · exact .inr q
      · rintro (q | q)
        · omega
        · exact .inr q
    · constructor
      · intro _
        by_cases h31 : x.a > 31
        · exact .inl h31
        · refine .inr ?_
          rw [Nat.mod_eq_of_lt (by omega)]
          have : 2 ^ 4 ≤ 2 ^ x.a := Nat.pow_le_pow_right (by decide) (by omega)
          omega
      · intro _; exact .inl (by omega)
  rw [e1]
  have e2 : (if x.op = 40 ∨ 44 ≤ x.op ∧ x.op ≤ 47 ∨ x.op = 54 ∨ x.op = 58 ∨ x.op = 59 then 127 else 126) = (if wide x.op = true then 126 else 127) := by
    unfold wide
    simp only [decide_eq_true_eq]
    have hc : 40 ≤ x.op ∧ x.op ≤ 62 ∧ x.op ≠ 42 ∧ x.op ≠ 43 ∧ x.op ≠ 56 ∧ x.op ≠ 57 := by
      unfold width at hw
      repeat' split at hw
      all_goals omega
    by_cases h : x.op = 41 ∨ 48 ≤ x.op ∧ x.op ≤ 53 ∨ x.op = 55 ∨ 60 ≤ x.op ∧ x.op ≤ 62
    · rw [if_pos h,if_neg (by omega)]
    · rw [if_neg h,if_pos (by omega)]
  rw [e2]
  split
  · unfold fits; rw [Je]
  · rfl
theorem data_eq (M : Mo) (n : Nat) (s : VS) : s.data M n = s.fails (decide (n ≥ if M.counts = true then M.count else M.datas)) := by
  unfold data
  split
  · rfl
  · congr 1
    apply Bool.eq_iff_iff.2
    simp only [decide_eq_true_eq]; omega
theorem mem_fails (M : Mo) (s : VS) (b : Bool) : (s.fails b).memory M = (s.memory M).fails b := by simp [memory,fails,Bool.or_right_comm]
theorem bulk_al (M : Mo) (L : List Nat) (x : Ins) (s : VS) (hx : x.op ≥ 64520 ∧ x.op ≤ 64523) : ∃ r,s.control M x = none ∧ s.places M L x = none ∧ s.bulk M x = some r ∧ Al (s.bulkR M x) r := by
  have hc : x.op = 64520 ∨ x.op = 64521 ∨ x.op = 64522 ∨ x.op = 64523 := by omega
  rcases hc with e | e | e | e
  all_goals refine ⟨_,by simp [control,e],by simp [places,e],by simp only [bulk,e]; rfl,?_⟩
  · simp only [bulkR,e,Yi,fits,Je,data_eq]
    refine .inr ?_
    simp only [true_or,if_true]
    rw [if_neg (by decide),mem_fails]
  · simp only [bulkR,e,data_eq]
    refine .inr ?_
    simp
  · simp only [bulkR,e,Yi,fits,Je]
    refine .inr ?_
    simp
  · simp only [bulkR,e,Yi,fits,Je]
    refine .inr ?_
    simp
theorem numbers_al (op : Int) (s : VS) : Al (numR op s) (fits (numbers op).1 [(numbers op).2] (s.fails (decide ((numbers op).2 = 0)))) := by
  unfold numR numbers
  simp only [Yi]
  repeat' split
  all_goals first
    | (exfalso; omega)
    | (simp only [show decide ((127 : Nat) = 0) = false from rfl,show decide ((126 : Nat) = 0) = false from rfl,Yj]; exact Al.rfl' _)
    | exact .inl ⟨by simp [fails],Vc (by simp [fails])⟩
theorem one_al (M : Mo) (L : List Nat) (x : Ins) {s : VS} (w : Wf s) (h : s.op ≠ []) (z : NZ s) (hd : M.decl.length = M.funcs.length) : Al (s.oneR M L x) (s.one M L x) := by
  by_cases h0 : x.op = 0
  · simp [oneR,one,control,h0]; exact Al.rfl' _
  by_cases h1 : x.op = 1
  · simp [oneR,one,control,h1]; exact Al.rfl' _
  by_cases h2 : x.op ≥ 2 ∧ x.op ≤ 4
  · have h3 : x.op = 2 ∨ x.op = 3 ∨ x.op = 4 := by omega
    simp only [oneR,one,control,if_neg h0,if_neg h1,if_pos h2,if_pos h3]
    rw [blk_eq]; exact Al.rfl' _
  have h2' : ¬ (x.op = 2 ∨ x.op = 3 ∨ x.op = 4) := by omega
  by_cases h5 : x.op = 5
  · simp only [oneR,one,control,if_neg h0,if_neg h1,if_neg h2,if_neg h2',if_pos h5]
    exact els_al s
  by_cases h11 : x.op = 11
  · simp only [oneR,one,control,if_neg h0,if_neg h1,if_neg h2,if_neg h2',if_neg h5,if_pos h11]
    exact ends_al s
  by_cases h12 : x.op ≥ 12 ∧ x.op ≤ 17
  · obtain ⟨r,e1,e2⟩ := jump_al M x w h z h12
    simp only [oneR,one,e1,if_neg h0,if_neg h1,if_neg h2,if_neg h5,if_neg h11,if_pos h12]
    exact e2
  have hC : s.control M x = none := by
    simp only [control,if_neg h0,if_neg h1,if_neg h2',if_neg h5,if_neg h11,if_neg (show ¬ x.op = 12 by omega),if_neg (show ¬ x.op = 13 by omega),if_neg (show ¬ x.op = 14 by omega),if_neg (show ¬ x.op = 15 by omega),if_neg (show ¬ x.op = 16 by omega),if_neg (show ¬ x.op = 17 by omega)]
  have oR : s.oneR M L x = if x.op = 26 then (s.popR 0).2 else if x.op = 27 then s.chooseR else if x.op = 28 then fitsR [x.a % 256,x.a % 256,127] [x.a % 256] s else if x.op ≥ 32 ∧ x.op ≤ 36 then s.namesR M L x else if x.op = 37 ∨ x.op = 38 ∨ x.op ≥ 64524 ∧ x.op ≤ 64529 then s.tablesR M x else if x.op = 208 then s.push [x.a % 256] else if x.op = 209 then ((s.popR 0).2.fails (decide ((s.popR 0).1 ≠ 0 ∧ ¬ ((s.popR 0).1 = 112 ∨ (s.popR 0).1 = 111)))).push [127] else if x.op = 210 then (s.fails (decide (¬ x.a < M.decl.length ∨ M.decl.getD x.a false = false))).push [112] else if x.op = 65 then s.push [127] else if x.op = 66 then s.push [126] else if x.op = 63 then (s.memory M).push [127] else if x.op = 64 then fitsR [127] [127] (s.memory M) else if width x.op > 0 then s.movesR M x else if x.op ≥ 64520 ∧ x.op ≤ 64523 then s.bulkR M x else numR x.op s := by
    simp only [oneR,if_neg h0,if_neg h1,if_neg h2,if_neg h5,if_neg h11,if_neg h12]
  rw [oR]
  have oV : s.one M L x = match s.places M L x with | some r => r | none => match s.bulk M x with | some r => r | none => if width x.op > 0 then s.moves M x else fits (numbers x.op).1 [(numbers x.op).2] (s.fails (decide ((numbers x.op).2 = 0))) := by
    simp only [one,hC] <;> rfl
  rw [oV]
  clear oR oV
  by_cases k : x.op = 26
  · simp only [places,k,if_true,popR0]; exact Al.rfl' _
  rw [if_neg k]
  by_cases k2 : x.op = 27
  · simp only [places,k2,if_true]; exact choose_al s
  rw [if_neg k2]
  by_cases k3 : x.op = 28
  · simp only [places,k3,if_true,Yi]; exact Al.rfl' _
  rw [if_neg k3]
  by_cases k4 : x.op ≥ 32 ∧ x.op ≤ 36
  · obtain ⟨r,_,e1,e2⟩ := names_al M L x s k4
    rw [if_pos k4,e1]; exact e2
  rw [if_neg k4]
  by_cases k5 : x.op = 37 ∨ x.op = 38 ∨ x.op ≥ 64524 ∧ x.op ≤ 64529
  · obtain ⟨r,_,e1,e2,e3⟩ := tables_al M L x s k5
    rw [if_pos k5,e1,e2]; exact e3
  rw [if_neg k5]
  by_cases k6 : x.op = 208
  · simp only [places,k6,if_true]; exact Al.rfl' _
  rw [if_neg k6]
  by_cases k7 : x.op = 209
  · simp only [places,k7,if_true,popR0]
    refine .inr ?_
    simp only [show ¬ ((209 : Int) = 26) by decide,show ¬ ((209 : Int) = 27) by decide,show ¬ ((209 : Int) = 28) by decide,show ¬ ((209 : Int) = 32) by decide,show ¬ ((209 : Int) = 33) by decide,show ¬ ((209 : Int) = 34) by decide,show ¬ ((209 : Int) = 35) by decide,show ¬ ((209 : Int) = 36) by decide,show ¬ ((209 : Int) = 65) by decide,show ¬ ((209 : Int) = 66) by decide,show ¬ ((209 : Int) = 208) by decide,if_false]
    congr 2
    unfold own
    apply Bool.eq_iff_iff.2
    simp
    constructor
    · rintro ⟨a,b,c⟩; exact ⟨⟨b,c⟩,a⟩
    · rintro ⟨⟨b,c⟩,a⟩; exact ⟨a,b,c⟩
  rw [if_neg k7]
  by_cases k8 : x.op = 210
  · simp only [places,k8,if_true]
    refine .inr ?_
    simp only [show ¬ ((210 : Int) = 26) by decide,show ¬ ((210 : Int) = 27) by decide,show ¬ ((210 : Int) = 28) by decide,show ¬ ((210 : Int) = 32) by decide,show ¬ ((210 : Int) = 33) by decide,show ¬ ((210 : Int) = 34) by decide,show ¬ ((210 : Int) = 35) by decide,show ¬ ((210 : Int) = 36) by decide,show ¬ ((210 : Int) = 65) by decide,show ¬ ((210 : Int) = 66) by decide,show ¬ ((210 : Int) = 208) by decide,show ¬ ((210 : Int) = 209) by decide,if_false]
    congr 2
    rw [hd]
    by_cases q : x.a < M.funcs.length <;> simp [q]
  rw [if_neg k8]
  by_cases k9 : x.op = 65
  · simp only [places,k9,if_true]; exact Al.rfl' _
  rw [if_neg k9]
  by_cases k10 : x.op = 66
  · simp only [places,k10,if_true]; exact Al.rfl' _
  rw [if_neg k10]
  have hP : s.places M L x = none := by
    simp only [places,if_neg k,if_neg k2,if_neg k3,if_neg k6,if_neg k7,if_neg k8,if_neg k9,if_neg k10,if_neg (show ¬ x.op = 32 by omega),if_neg (show ¬ x.op = 33 by omega),if_neg (show ¬ x.op = 34 by omega),if_neg (show ¬ x.op = 35 by omega),if_neg (show ¬ x.op = 36 by omega)]
  rw [hP]
  by_cases k11 : x.op = 63
  · simp only [bulk,k11,if_true]; exact Al.rfl' _
  rw [if_neg k11]
  by_cases k12 : x.op = 64
  · simp only [bulk,k12,if_true,Yi]; exact Al.rfl' _
  rw [if_neg k12]
  by_cases k13 : x.op ≥ 64520 ∧ x.op ≤ 64523
  · obtain ⟨r,_,_,e1,e2⟩ := bulk_al M L x s k13
    have hw : ¬ width x.op > 0 := by
      unfold width
      rw [if_neg (by omega),if_neg (by omega),if_neg (by omega),if_neg (by omega)]; omega
    rw [if_neg hw,if_pos k13,e1]; exact e2
  have hB : s.bulk M x = none := by
    simp only [bulk,if_neg k11,if_neg k12,if_neg (show ¬ x.op = 37 by omega),if_neg (show ¬ x.op = 38 by omega),if_neg (show ¬ x.op = 64520 by omega),if_neg (show ¬ x.op = 64521 by omega),if_neg (show ¬ (x.op = 64522 ∨ x.op = 64523) by omega),if_neg (show ¬ x.op = 64524 by omega),if_neg (show ¬ x.op = 64525 by omega),if_neg (show ¬ x.op = 64526 by omega),if_neg (show ¬ x.op = 64527 by omega),if_neg (show ¬ x.op = 64528 by omega),if_neg (show ¬ x.op = 64529 by omega)]
  rw [hB,if_neg k13]
  simp only
  split
  · rename_i hw; rw [moves_eq M x s hw]; exact Al.rfl' _
  · exact numbers_al x.op s
end VS

end
section
/- Types of bodies: heights and labels behind each instruction; whole bodies alike. -/
namespace VS
def LP (P : List Nat → Prop) (s : VS) : Prop := ∀ b ∈ s.op,P b.fr ∧ P b.to
def Gd (P : List Nat → Prop) (s s' : VS) : Prop := Wf s → s.op ≠ [] → Wf s' ∧ (LP P s → LP P s')
variable {P : List Nat → Prop}
theorem Kp.gd {s s' : VS} (k : Kp s s') : Gd P s s' := fun w h => ⟨k.wf w h,fun z => by unfold LP; rw [k.op]; exact z⟩
theorem Kp.then_gd {s s' s'' : VS} (k : Kp s s') (g : Gd P s' s'') : Gd P s s'' := fun w h =>
  ⟨(g (k.wf w h) (k.ne h)).1,fun z => (g (k.wf w h) (k.ne h)).2 (by unfold LP; rw [k.op]; exact z)⟩
theorem Gk (s : VS) : Gd P s s.rests := fun w h => ⟨(rests_wf w h).1,fun z b hb => by
  rcases List.mem_append.1 hb with q | q
  · exact z b (List.dropLast_subset _ q)
  · rw [List.mem_singleton] at q; subst q; exact z s.top (top_mem h)⟩
theorem opens_gd (op : Int) (fr to : List Nat) (s : VS) (hf : P fr) (ht : P to) : Gd P s (s.opens op fr to) := fun w h => ⟨(opens_wf op fr to w).1,fun z b hb => by
  rcases List.mem_append.1 hb with q | q
  · exact z b q
  · rw [List.mem_singleton] at q; subst q; exact ⟨hf,ht⟩⟩
def Mo.Lp (P : List Nat → Prop) (M : Mo) : Prop := P [] ∧ ∀ t ∈ M.types,P t.1 ∧ P t.2
theorem function_nz {M : Mo} (hM : Mo.Lp P M) (t : Nat) (s : VS) : P (s.function M t).1.1 ∧ P (s.function M t).1.2 := by
  unfold function
  split
  · rename_i h
    have e : M.types.getD t ([],[]) = M.types[t] := by simp [List.getD,h]
    rw [e]; exact hM.2 _ (List.getElem_mem h)
  · exact ⟨hM.1,hM.1⟩
theorem signature_nz {M : Mo} (hM : Mo.Lp P M) (t : Int) (s : VS) (ht : P [((t + 128) % 256).toNat]) : P (s.signature M t).1.1 ∧ P (s.signature M t).1.2 := by
  unfold signature
  split
  · exact ⟨hM.1,hM.1⟩
  · split
    · exact ⟨hM.1,ht⟩
    · exact function_nz hM _ _
theorem blk_kp (M : Mo) (x : Ins) (s : VS) : ∃ s1,Kp s s1 ∧ s.blk M x = ((s1.signature M x.t).2.take (s1.signature M x.t).1.1).2.opens x.op (s1.signature M x.t).1.1 (s1.signature M x.t).1.2 := by
  unfold blk
  split
  · exact ⟨_,want_kp _ _,rfl⟩
  · exact ⟨_,Kp.refl _,rfl⟩
theorem els_wf {s : VS} (w : Wf s) (h : s.op ≠ []) : Wf s.els ∧ s.els.op ≠ [] := opens_wf _ _ _ ⟨(closes_wf w h).1.up,(closes_wf w h).1.le⟩
theorem ends_wf {s : VS} (w : Wf s) (h : s.op ≠ []) : Wf s.ends ∧ s.ends.op = s.op.dropLast := by
  obtain ⟨w1,e1⟩ := closes_wf w h
  unfold ends
  simp only
  split
  · exact ⟨⟨w1.up,w1.le⟩,e1⟩
  · refine ⟨⟨w1.up,fun b hb => ?_⟩,e1⟩
    have := w1.le b hb
    simp [push,fails]; omega
theorem blk_gd {M : Mo} (hM : Mo.Lp P M) (x : Ins) (s : VS) (ht : P [((x.t + 128) % 256).toNat]) : Gd P s (s.blk M x) := by
  obtain ⟨s1,k,e⟩ := blk_kp M x s
  rw [e]
  have n := signature_nz hM x.t s1 ht
  exact k.then_gd (((signature_kp M x.t s1).trans (take_kp _ _)).then_gd (opens_gd _ _ _ _ n.1 n.2))
theorem closes_nz {s : VS} (w : Wf s) (h : s.op ≠ []) (z : LP P s) : LP P s.closes.2 := by
  unfold LP
  rw [(closes_wf w h).2]
  exact fun b hb => z b (List.dropLast_subset _ hb)
theorem els_gd (s : VS) : Gd P s s.els := fun w h => ⟨(els_wf w h).1,fun z b hb => by
  rcases List.mem_append.1 hb with q | q
  · exact closes_nz w h z b q
  · rw [List.mem_singleton] at q; subst q; exact z s.top (top_mem h)⟩
theorem ends_gd (s : VS) : Gd P s s.ends := fun w h => ⟨(ends_wf w h).1,fun z => by
  unfold LP
  rw [(ends_wf w h).2]
  exact fun b hb => z b (List.dropLast_subset _ hb)⟩
theorem branches_gd (x : Ins) (s : VS) : Gd P s (s.branches x) := by
  unfold branches
  exact ((((want_kp 127 s).trans (label_kp _ _)).trans (branchesL_kp _ _ _)).trans (take_kp _ _)).then_gd (Gk _)
theorem calls_kp (M : Mo) (f : Nat) (s : VS) : Kp s (s.calls M f) := by
  unfold calls
  split
  · exact (function_kp _ _ _).trans (Vl _ _ _)
  · exact fails_kp _ _
theorem callI_kp (M : Mo) (x : Ins) (s : VS) : Kp s (s.callI M x) := by
  unfold callI
  exact ((((table_kp M x.b s).trans (fails_kp _ _)).trans (want_kp _ _)).trans (function_kp _ _ _)).trans (Vl _ _ _)
theorem control_gd {M : Mo} (hM : Mo.Lp P M) (x : Ins) {s r : VS} (ht : x.op = 2 ∨ x.op = 3 ∨ x.op = 4 → P [((x.t + 128) % 256).toNat]) (hr : s.control M x = some r) : Gd P s r := by
  unfold control at hr
  by_cases c : x.op = 0
  · rw [if_pos c] at hr; cases hr; exact Gk s
  rw [if_neg c] at hr
  by_cases c : x.op = 1
  · rw [if_pos c] at hr; cases hr; exact (Kp.refl _).gd
  rw [if_neg c] at hr
  by_cases c : x.op = 2 ∨ x.op = 3 ∨ x.op = 4
  · rw [if_pos c] at hr; cases hr; exact blk_gd hM x s (ht c)
  rw [if_neg c] at hr
  by_cases c : x.op = 5
  · rw [if_pos c] at hr; cases hr; exact els_gd s
  rw [if_neg c] at hr
  by_cases c : x.op = 11
  · rw [if_pos c] at hr; cases hr; exact ends_gd s
  rw [if_neg c] at hr
  by_cases c : x.op = 12
  · rw [if_pos c] at hr; cases hr; exact ((label_kp _ _).trans (take_kp _ _)).then_gd (Gk _)
  rw [if_neg c] at hr
  by_cases c : x.op = 13
  · rw [if_pos c] at hr; cases hr; exact (((want_kp _ _).trans (label_kp _ _)).trans (Vl _ _ _)).gd
  rw [if_neg c] at hr
  by_cases c : x.op = 14
  · rw [if_pos c] at hr; cases hr; exact branches_gd x s
  rw [if_neg c] at hr
  by_cases c : x.op = 15
  · rw [if_pos c] at hr; cases hr; exact (take_kp _ _).then_gd (Gk _)
  rw [if_neg c] at hr
  by_cases c : x.op = 16
  · rw [if_pos c] at hr; cases hr; exact (calls_kp _ _ _).gd
  rw [if_neg c] at hr
  by_cases c : x.op = 17
  · rw [if_pos c] at hr; cases hr; exact (callI_kp _ _ _).gd
  rw [if_neg c] at hr
  cases hr
theorem choose_kp (s : VS) : Kp s s.choose := by
  unfold choose
  exact ((((want_kp _ _).trans (pop_kp _)).trans (pop_kp _)).trans (fails_kp _ _)).trans (push_kp _ _)
theorem memory_kp (M : Mo) (s : VS) : Kp s (s.memory M) := fails_kp _ _
theorem places_kp (M : Mo) (L : List Nat) (x : Ins) {s r : VS} (hr : s.places M L x = some r) : Kp s r := by
  unfold places at hr
  by_cases c : x.op = 26
  · rw [if_pos c] at hr; cases hr; exact pop_kp s
  rw [if_neg c] at hr
  by_cases c : x.op = 27
  · rw [if_pos c] at hr; cases hr; exact choose_kp s
  rw [if_neg c] at hr
  by_cases c : x.op = 28
  · rw [if_pos c] at hr; cases hr; exact Vl _ _ _
  rw [if_neg c] at hr
  by_cases c : x.op = 32
  · rw [if_pos c] at hr; cases hr; exact (loc_kp _ _ _).trans (push_kp _ _)
  rw [if_neg c] at hr
  by_cases c : x.op = 33
  · rw [if_pos c] at hr; cases hr; exact (loc_kp _ _ _).trans (want_kp _ _)
  rw [if_neg c] at hr
  by_cases c : x.op = 34
  · rw [if_pos c] at hr; cases hr; exact ((loc_kp _ _ _).trans (want_kp _ _)).trans (push_kp _ _)
  rw [if_neg c] at hr
  by_cases c : x.op = 35
  · rw [if_pos c] at hr; cases hr; exact (glob_kp _ _ _).trans (push_kp _ _)
  rw [if_neg c] at hr
  by_cases c : x.op = 36
  · rw [if_pos c] at hr; cases hr; exact ((glob_kp _ _ _).trans (fails_kp _ _)).trans (want_kp _ _)
  rw [if_neg c] at hr
  by_cases c : x.op = 65
  · rw [if_pos c] at hr; cases hr; exact push_kp _ _
  rw [if_neg c] at hr
  by_cases c : x.op = 66
  · rw [if_pos c] at hr; cases hr; exact push_kp _ _
  rw [if_neg c] at hr
  by_cases c : x.op = 208
  · rw [if_pos c] at hr; cases hr; exact push_kp _ _
  rw [if_neg c] at hr
  by_cases c : x.op = 209
  · rw [if_pos c] at hr; cases hr; exact ((pop_kp _).trans (fails_kp _ _)).trans (push_kp _ _)
  rw [if_neg c] at hr
  by_cases c : x.op = 210
  · rw [if_pos c] at hr; cases hr; exact (fails_kp _ _).trans (push_kp _ _)
  rw [if_neg c] at hr
  cases hr
theorem bulk_kp (M : Mo) (x : Ins) {s r : VS} (hr : s.bulk M x = some r) : Kp s r := by
  unfold bulk at hr
  by_cases c : x.op = 37
  · rw [if_pos c] at hr; cases hr; exact ((table_kp _ _ _).trans (want_kp _ _)).trans (push_kp _ _)
  rw [if_neg c] at hr
  by_cases c : x.op = 38
  · rw [if_pos c] at hr; cases hr; exact (table_kp _ _ _).trans (take_kp _ _)
  rw [if_neg c] at hr
  by_cases c : x.op = 63
  · rw [if_pos c] at hr; cases hr; exact (memory_kp _ _).trans (push_kp _ _)
  rw [if_neg c] at hr
  by_cases c : x.op = 64
  · rw [if_pos c] at hr; cases hr; exact ((memory_kp _ _).trans (want_kp _ _)).trans (push_kp _ _)
  rw [if_neg c] at hr
  by_cases c : x.op = 64520
  · rw [if_pos c] at hr; cases hr; exact ((memory_kp _ _).trans (data_kp _ _ _)).trans (take_kp _ _)
  rw [if_neg c] at hr
  by_cases c : x.op = 64521
  · rw [if_pos c] at hr; cases hr; exact data_kp _ _ _
  rw [if_neg c] at hr
  by_cases c : x.op = 64522 ∨ x.op = 64523
  · rw [if_pos c] at hr; cases hr; exact (memory_kp _ _).trans (take_kp _ _)
  rw [if_neg c] at hr
  by_cases c : x.op = 64524
  · rw [if_pos c] at hr; cases hr; exact (((elem_kp _ _ _).trans (table_kp _ _ _)).trans (fails_kp _ _)).trans (take_kp _ _)
  rw [if_neg c] at hr
  by_cases c : x.op = 64525
  · rw [if_pos c] at hr; cases hr; exact elem_kp _ _ _
  rw [if_neg c] at hr
  by_cases c : x.op = 64526
  · rw [if_pos c] at hr; cases hr; exact (((table_kp _ _ _).trans (table_kp _ _ _)).trans (fails_kp _ _)).trans (take_kp _ _)
  rw [if_neg c] at hr
  by_cases c : x.op = 64527
  · rw [if_pos c] at hr; cases hr; exact (table_kp _ _ _).trans (Vl _ _ _)
  rw [if_neg c] at hr
  by_cases c : x.op = 64528
  · rw [if_pos c] at hr; cases hr; exact (table_kp _ _ _).trans (push_kp _ _)
  rw [if_neg c] at hr
  by_cases c : x.op = 64529
  · rw [if_pos c] at hr; cases hr; exact (table_kp _ _ _).trans (take_kp _ _)
  rw [if_neg c] at hr
  cases hr
theorem moves_kp (M : Mo) (x : Ins) (s : VS) : Kp s (s.moves M x) := by
  unfold moves
  simp only
  split
  · exact ((memory_kp _ _).trans (fails_kp _ _)).trans (take_kp _ _)
  · exact (((memory_kp _ _).trans (fails_kp _ _)).trans (want_kp _ _)).trans (push_kp _ _)
theorem one_gd {M : Mo} (hM : Mo.Lp P M) (L : List Nat) (x : Ins) (s : VS) (ht : x.op = 2 ∨ x.op = 3 ∨ x.op = 4 → P [((x.t + 128) % 256).toNat]) : Gd P s (s.one M L x) := by
  unfold one
  split
  · rename_i r hr; exact control_gd hM x ht hr
  split
  · rename_i r hr; exact (places_kp M L x hr).gd
  split
  · rename_i r hr; exact (bulk_kp M x hr).gd
  split
  · exact (moves_kp M x s).gd
  · exact ((fails_kp _ _).trans (Vl _ _ _)).gd
def Gr (k : Nat) (s s' : VS) : Prop := s'.l.length ≤ s.l.length + k
theorem Gr.trans {j k : Nat} {s s' s'' : VS} (a : Gr j s s') (b : Gr k s' s'') : Gr (j + k) s s'' := by unfold Gr at *; omega
theorem Gr.mono {j k : Nat} {s s' : VS} (a : Gr j s s') (h : j ≤ k) : Gr k s s' := by unfold Gr at *; omega
theorem fails_gr (b : Bool) (s : VS) : Gr 0 s (s.fails b) := Nat.le_refl _
theorem Ys (t : List Nat) (s : VS) : Gr t.length s (s.push t) := by unfold Gr push; simp
theorem pop_gr (s : VS) : Gr 0 s s.pop.2 := by
  unfold Gr pop; split
  · exact Nat.le_refl _
  · simp
theorem want_gr (t : Nat) (s : VS) : Gr 0 s (s.want t).2 := pop_gr s
theorem takeR_gr : ∀ (ts : List Nat) (s : VS),Gr 0 s (takeR ts s).2
  | [],s => Nat.le_refl _
  | t :: r,s => (want_gr t s).trans (takeR_gr r _)
theorem take_gr (ts : List Nat) (s : VS) : Gr 0 s (s.take ts).2 := takeR_gr _ _
theorem function_gr (M : Mo) (t : Nat) (s : VS) : Gr 0 s (s.function M t).2 := by unfold function; split <;> exact Nat.le_refl _
theorem signature_gr (M : Mo) (t : Int) (s : VS) : Gr 0 s (s.signature M t).2 := by
  unfold signature; split
  · exact Nat.le_refl _
  · split
    · exact Nat.le_refl _
    · exact function_gr _ _ _
theorem label_gr (n : Nat) (s : VS) : Gr 0 s (s.label n).2 := by unfold label; split <;> exact Nat.le_refl _
theorem table_gr (M : Mo) (n : Nat) (s : VS) : Gr 0 s (s.table M n).2 := by unfold table; split <;> exact Nat.le_refl _
theorem elem_gr (M : Mo) (n : Nat) (s : VS) : Gr 0 s (s.elem M n).2 := by unfold elem; split <;> exact Nat.le_refl _
theorem glob_gr (M : Mo) (n : Nat) (s : VS) : Gr 0 s (s.glob M n).2 := by unfold glob; split <;> exact Nat.le_refl _
theorem loc_gr (L : List Nat) (n : Nat) (s : VS) : Gr 0 s (s.loc L n).2 := by unfold loc; split <;> exact Nat.le_refl _
theorem data_gr (M : Mo) (n : Nat) (s : VS) : Gr 0 s (s.data M n) := by unfold data; split <;> exact Nat.le_refl _
theorem Kf (i o : List Nat) (s : VS) : Gr o.length s (fits i o s) := ((take_gr i s).trans (Ys o _)).mono (by omega)
theorem Gj (s : VS) : Gr 0 s s.rests := by unfold Gr rests; simp; omega
theorem opens_gr (op : Int) (fr to : List Nat) (s : VS) : Gr fr.length s (s.opens op fr to) := by unfold Gr opens; simp
theorem closes_gr (s : VS) : Gr 0 s s.closes.2 := by
  have := take_gr s.top.to s
  unfold Gr at *
  unfold closes shut
  simp
  omega
abbrev short (l : List Nat) : Prop := l.length ≤ 8
theorem label_short {s : VS} (z : LP short s) (n : Nat) : (s.label n).1.length ≤ 8 := by
  unfold label
  split
  · rename_i h
    have hlt : s.op.length - 1 - n < s.op.length := by omega
    have e : s.op.getD (s.op.length - 1 - n) ⟨0,[],[],0,false⟩ = s.op[s.op.length - 1 - n] := by simp [List.getD,hlt]
    rw [e]
    have := z _ (List.getElem_mem hlt)
    unfold labels
    split
    · exact this.1
    · exact this.2
  · exact Nat.zero_le _
theorem branchesL_gr (last : List Nat) : ∀ (ns : List Nat) {s : VS},LP short s → Gr (8 * ns.length) s (ns.foldl (branch last) s)
  | [],s,z => Nat.le_refl _
  | n :: r,s,z => by
    have k := branch_kp last s n
    have h1 : Gr 8 s (branch last s n) := by
      unfold branch
      refine Gr.mono ((((label_gr n s).trans (fails_gr _ _)).trans (take_gr _ _)).trans (Ys _ _)) ?_
      rw [take_len]
      have := label_short z n
      omega
    have h2 := branchesL_gr last r (s := branch last s n) (by unfold LP; rw [k.op]; exact z)
    exact (h1.trans h2).mono (by simp; omega)
theorem LP.kp {s s' : VS} (z : LP P s) (k : Kp s s') : LP P s' := by unfold LP; rw [k.op]; exact z
theorem one_gr {M : Mo} (hM : Mo.Lp short M) (L : List Nat) (x : Ins) {s : VS} (h : s.op ≠ []) (z : LP short s) : Gr (8 * x.l.length + 8) s (s.one M L x) := by
  have hs : ∀ s' : VS,(s'.function M x.a).1.2.length ≤ 8 := fun s' => (function_nz hM _ _).2
  have top8 := z _ (top_mem h)
  unfold one
  split
  · rename_i r hr
    unfold control at hr
    by_cases c : x.op = 0
    · rw [if_pos c] at hr; cases hr; exact (Gj s).mono (by omega)
    rw [if_neg c] at hr
    by_cases c : x.op = 1
    · rw [if_pos c] at hr; cases hr; exact Gr.mono (j := 0) (Nat.le_refl _) (by omega)
    rw [if_neg c] at hr
    by_cases c : x.op = 2 ∨ x.op = 3 ∨ x.op = 4
    · rw [if_pos c] at hr; cases hr
      unfold blk
      have e : ∀ s1 : VS,(s1.signature M x.t).1.1.length ≤ 8 := fun s1 => (signature_nz hM x.t s1 (by show 1 ≤ 8; omega)).1
      refine Gr.mono (j := 0 + (0 + 0 + 8)) (Gr.trans (s' := if x.op = 4 then (s.want 127).2 else s) ?_ (((signature_gr _ _ _).trans (take_gr _ _)).trans ((opens_gr _ _ _ _).mono (e _)))) (by omega)
      split
      · exact want_gr _ _
      · exact Nat.le_refl _
    rw [if_neg c] at hr
    by_cases c : x.op = 5
    · rw [if_pos c] at hr; cases hr
      exact (((closes_gr s).trans (fails_gr _ _)).trans (opens_gr _ _ _ _)).mono (by show 0 + 0 + s.top.fr.length ≤ _; have := top8.1; omega)
    rw [if_neg c] at hr
    by_cases c : x.op = 11
    · rw [if_pos c] at hr; cases hr
      unfold ends
      simp only
      split
      · exact ((closes_gr s).trans (fails_gr _ _)).mono (by omega)
      · exact (((closes_gr s).trans (fails_gr _ _)).trans (Ys _ _)).mono (by show 0 + 0 + s.top.to.length ≤ _; have := top8.2; omega)
    rw [if_neg c] at hr
    by_cases c : x.op = 12
    · rw [if_pos c] at hr; cases hr; exact (((label_gr _ _).trans (take_gr _ _)).trans (Gj _)).mono (by omega)
    rw [if_neg c] at hr
    by_cases c : x.op = 13
    · rw [if_pos c] at hr; cases hr; exact (((want_gr _ _).trans (label_gr _ _)).trans (Kf _ _ _)).mono (by have := label_short (z.kp (want_kp 127 s)) x.a; omega)
    rw [if_neg c] at hr
    by_cases c : x.op = 14
    · rw [if_pos c] at hr; cases hr
      unfold branches
      exact (((((want_gr 127 s).trans (label_gr _ _)).trans (branchesL_gr _ x.l (z.kp ((want_kp _ _).trans (label_kp _ _))))).trans (take_gr _ _)).trans (Gj _)).mono (by omega)
    rw [if_neg c] at hr
    by_cases c : x.op = 15
    · rw [if_pos c] at hr; cases hr; exact ((take_gr _ _).trans (Gj _)).mono (by omega)
    rw [if_neg c] at hr
    by_cases c : x.op = 16
    · rw [if_pos c] at hr; cases hr
      unfold calls
      split
      · exact ((function_gr _ _ _).trans ((Kf _ _ _).mono (function_nz hM _ _).2)).mono (by omega)
      · exact (fails_gr _ _).mono (by omega)
    rw [if_neg c] at hr
    by_cases c : x.op = 17
    · rw [if_pos c] at hr; cases hr
      unfold callI
      exact (((((table_gr M x.b s).trans (fails_gr _ _)).trans (want_gr _ _)).trans (function_gr _ _ _)).trans ((Kf _ _ _).mono (hs _))).mono (by omega)
    rw [if_neg c] at hr
    cases hr
  split
  · rename_i r hr
    refine Gr.mono (j := 1) ?_ (by omega)
    unfold places at hr
    by_cases c : x.op = 26
    · rw [if_pos c] at hr; cases hr; exact (pop_gr s).mono (by omega)
    rw [if_neg c] at hr
    by_cases c : x.op = 27
    · rw [if_pos c] at hr; cases hr
      unfold choose
      exact ((((want_gr _ _).trans (pop_gr _)).trans (pop_gr _)).trans (fails_gr _ _)).trans (Ys _ _)
    rw [if_neg c] at hr
    by_cases c : x.op = 28
    · rw [if_pos c] at hr; cases hr; exact Kf _ _ _
    rw [if_neg c] at hr
    by_cases c : x.op = 32
    · rw [if_pos c] at hr; cases hr; exact (loc_gr _ _ _).trans (Ys _ _)
    rw [if_neg c] at hr
    by_cases c : x.op = 33
    · rw [if_pos c] at hr; cases hr; exact ((loc_gr _ _ _).trans (want_gr _ _)).mono (by omega)
    rw [if_neg c] at hr
    by_cases c : x.op = 34
    · rw [if_pos c] at hr; cases hr; exact ((loc_gr _ _ _).trans (want_gr _ _)).trans (Ys _ _)
    rw [if_neg c] at hr
    by_cases c : x.op = 35
    · rw [if_pos c] at hr; cases hr; exact (glob_gr _ _ _).trans (Ys _ _)
    rw [if_neg c] at hr
    by_cases c : x.op = 36
    · rw [if_pos c] at hr; cases hr; exact (((glob_gr _ _ _).trans (fails_gr _ _)).trans (want_gr _ _)).mono (by omega)
    rw [if_neg c] at hr
    by_cases c : x.op = 65
    · rw [if_pos c] at hr; cases hr; exact Ys _ _
    rw [if_neg c] at hr
    by_cases c : x.op = 66
    · rw [if_pos c] at hr; cases hr; exact Ys _ _
    rw [if_neg c] at hr
    by_cases c : x.op = 208
    · rw [if_pos c] at hr; cases hr; exact Ys _ _
    rw [if_neg c] at hr
    by_cases c : x.op = 209
    · rw [if_pos c] at hr; cases hr; exact ((pop_gr _).trans (fails_gr _ _)).trans (Ys _ _)
    rw [if_neg c] at hr
    by_cases c : x.op = 210
    · rw [if_pos c] at hr; cases hr; exact (fails_gr _ _).trans (Ys _ _)
    rw [if_neg c] at hr
    cases hr
  split
  · rename_i r hr
    refine Gr.mono (j := 1) ?_ (by omega)
    unfold bulk at hr
    by_cases c : x.op = 37
    · rw [if_pos c] at hr; cases hr; exact ((table_gr _ _ _).trans (want_gr _ _)).trans (Ys _ _)
    rw [if_neg c] at hr
    by_cases c : x.op = 38
    · rw [if_pos c] at hr; cases hr; exact ((table_gr _ _ _).trans (take_gr _ _)).mono (by omega)
    rw [if_neg c] at hr
    by_cases c : x.op = 63
    · rw [if_pos c] at hr; cases hr; exact (fails_gr _ _).trans (Ys _ _)
    rw [if_neg c] at hr
    by_cases c : x.op = 64
    · rw [if_pos c] at hr; cases hr; exact ((fails_gr _ _).trans (want_gr _ _)).trans (Ys _ _)
    rw [if_neg c] at hr
    by_cases c : x.op = 64520
    · rw [if_pos c] at hr; cases hr; exact (((fails_gr _ _).trans (data_gr _ _ _)).trans (take_gr _ _)).mono (by omega)
    rw [if_neg c] at hr
    by_cases c : x.op = 64521
    · rw [if_pos c] at hr; cases hr; exact (data_gr _ _ _).mono (by omega)
    rw [if_neg c] at hr
    by_cases c : x.op = 64522 ∨ x.op = 64523
    · rw [if_pos c] at hr; cases hr; exact ((fails_gr _ _).trans (take_gr _ _)).mono (by omega)
    rw [if_neg c] at hr
    by_cases c : x.op = 64524
    · rw [if_pos c] at hr; cases hr; exact ((((elem_gr _ _ _).trans (table_gr _ _ _)).trans (fails_gr _ _)).trans (take_gr _ _)).mono (by omega)
    rw [if_neg c] at hr
    by_cases c : x.op = 64525
    · rw [if_pos c] at hr; cases hr; exact (elem_gr _ _ _).mono (by omega)
    rw [if_neg c] at hr
    by_cases c : x.op = 64526
    · rw [if_pos c] at hr; cases hr; exact ((((table_gr _ _ _).trans (table_gr _ _ _)).trans (fails_gr _ _)).trans (take_gr _ _)).mono (by omega)
    rw [if_neg c] at hr
    by_cases c : x.op = 64527
    · rw [if_pos c] at hr; cases hr; exact (table_gr _ _ _).trans (Kf _ _ _)
    rw [if_neg c] at hr
    by_cases c : x.op = 64528
    · rw [if_pos c] at hr; cases hr; exact (table_gr _ _ _).trans (Ys _ _)
    rw [if_neg c] at hr
    by_cases c : x.op = 64529
    · rw [if_pos c] at hr; cases hr; exact ((table_gr _ _ _).trans (take_gr _ _)).mono (by omega)
    rw [if_neg c] at hr
    cases hr
  split
  · refine Gr.mono (j := 1) ?_ (by omega)
    unfold moves
    simp only
    split
    · exact (((fails_gr _ _).trans (fails_gr _ _)).trans (take_gr _ _)).mono (by omega)
    · exact (((fails_gr _ _).trans (fails_gr _ _)).trans (want_gr _ _)).trans (Ys _ _)
  · exact ((fails_gr _ _).trans (Kf _ _ _)).mono (by simp)
def runR (M : Mo) (L : List Nat) : List Ins → VS → Bool
  | [],s => !s.bad && decide (s.op = [])
  | x :: r,s => if s.bad = true then false else if s.op = [] then false else runR M L r (s.oneR M L x)
abbrev nz (l : List Nat) : Prop := ∀ t ∈ l,t ≠ 0
theorem run_al {M : Mo} (hM : Mo.Lp nz M) (hd : M.decl.length = M.funcs.length) (L : List Nat) : ∀ (b : List Ins) {s : VS},(∀ x ∈ b,x.op = 2 ∨ x.op = 3 ∨ x.op = 4 → nz [((x.t + 128) % 256).toNat]) → Wf s → s.op ≠ [] → NZ s → s.bad = false → runR M L b s = run M L b s
  | [],s,_,w,h,z,hb => by simp [runR,run,hb]
  | x :: r,s,ht,w,h,z,hb => by
    unfold runR run
    rw [if_neg (by rw [hb]; simp),if_neg h]
    rcases one_al M L x w h z hd with ⟨a1,a2⟩ | a
    · rw [if_pos a2]
      cases r with
      | nil => simp [runR,a1]
      | cons y r => unfold runR; rw [if_pos a1]
    · rw [a]
      cases hb2 : (s.one M L x).bad with
      | true =>
        rw [if_pos rfl]
        cases r with
        | nil => simp [runR,hb2]
        | cons y r => unfold runR; rw [if_pos hb2]
      | false =>
        rw [if_neg (by simp)]
        by_cases ho : (s.one M L x).op = []
        · rw [if_pos ho]
          cases r with
          | nil => simp [runR,hb2,ho]
          | cons y r => unfold runR; rw [if_neg (by rw [hb2]; simp),if_pos ho]; simp
        · rw [if_neg ho]
          have g := one_gd hM L x s (ht x List.mem_cons_self) w h
          exact run_al hM hd L r (fun y hy => ht y (List.mem_cons_of_mem _ hy)) g.1 ho (g.2 z) hb2
theorem start_ok (rs : List Nat) (hr : ∀ t ∈ rs,t ≠ 0) : Wf (start rs) ∧ (start rs).op ≠ [] ∧ NZ (start rs) ∧ (start rs).bad = false := by
  refine ⟨⟨List.pairwise_singleton _ _,fun b hb => ?_⟩,by simp [start],fun b hb => ?_,rfl⟩
  · have hb' : b ∈ [(⟨2,[],rs,0,false⟩ : VB)] := hb
    rw [List.mem_singleton] at hb'; subst hb'; exact Nat.zero_le _
  · have hb' : b ∈ [(⟨2,[],rs,0,false⟩ : VB)] := hb
    rw [List.mem_singleton] at hb'; subst hb'; exact ⟨fun t h => (by cases h),hr⟩
end VS

end
end Go.Dx.SYtpkefdoleieloaa
