/- A deterministic reading of the model's code: a region that draws its order does, in whatever order, what is read in one. -/
import Derived.Test.YtpkefdoleieloaaCsz14
namespace Go.Dx
set_option linter.unusedVariables false
set_option linter.unusedSimpArgs false
def Vy (o : Oper) : List Nat := (o.after.toList.filter (Region.binds .any ·)).map (·.on)
def Vk (P : Program) (nt : Nat) (ops : Array Oper) (j : Nat) : Option SOp := match ops[j]? with
  | some o => Zm P nt ops o
  | none => none
def guardTmps : Option (Nat × Bool) → List Nat
  | some (t,_) => [t]
  | none => []
def SOp.reads (s : SOp) : List Nat := s.op.tmps ++ guardTmps s.guard
def chkOf (s : SOp) : Option SOp := match s with
  | ⟨some t,g,.ld n ag a⟩ => some ⟨none,g,.chk n ag a t⟩
  | ⟨some t,g,.slV size x lo hi m⟩ => some ⟨none,g,.chkV size x lo hi m t⟩
  | ⟨some t,g,.toStr x⟩ => some ⟨none,g,.chkS x t⟩
  | _ => none
def Qh (P : Program) (nt : Nat) (ops : Array Oper) : List Nat → Option (List SOp)
  | [] => some []
  | r :: rs => match (Vk P nt ops r).bind chkOf,Qh P nt ops rs with
    | some s,some l => some (s :: l)
    | _,_ => none
def Yr (P : Program) (nt : Nat) (ops : Array Oper) : List (Nat × List Nat) → Option (List SOp)
  | [] => some []
  | (j,cs) :: r => match Vk P nt ops j,Qh P nt ops cs,Yr P nt ops r with
    | some s,some c,some l => some (s :: (c ++ l))
    | _,_,_ => none
def Zb (P : Program) (nt : Nat) (ops : Array Oper) (j : Nat) : Option Nat := (Vk P nt ops j).bind (·.dst)
def Qz (P : Program) (nt : Nat) (ops : Array Oper) (j : Nat) : List Nat := match Vk P nt ops j with
  | some s => s.reads
  | none => []
def Jn (P : Program) (nt : Nat) (ops : Array Oper) (j : Nat) : Cls := match Vk P nt ops j with
  | some s => s.op.cls
  | none => .act
def stepOk (P : Program) (nt : Nat) (ops : Array Oper) (anc : Nat → List Nat) (pre : List Nat) (j : Nat) (cs : List Nat) : Bool :=
  !pre.contains j && decide (j < ops.size) && (Vk P nt ops j).isSome &&
  (match ops[j]? with | some o => (Vy o).all (pre.contains ·) && (anc j).all (fun i => (Vy o).any fun n => n.beq i || (anc n).contains i) | none => false) &&
  (match Zb P nt ops j with | some t => pre.all (fun k => Zb P nt ops k != some t) && pre.all (fun k => !(Qz P nt ops k).contains t || (anc j).contains k) | none => true) &&
  pre.all (fun k => match Zb P nt ops k with | some t => !(Qz P nt ops j).contains t || (anc j).contains k | none => true) &&
  pre.all (fun k => decide (Jn P nt ops k ≠ .act) || (anc j).contains k) &&
  (if Jn P nt ops j = .act then
    pre.all (fun r => decide (Jn P nt ops r ≠ .read) || (anc j).contains r || cs.contains r) &&
    cs.all (fun r => pre.contains r && (Qz P nt ops r).all fun u => pre.all (fun k => !(Zb P nt ops k == some u) || ((anc r).contains k && !(k.beq r) && !(anc k).contains r)) && !(Zb P nt ops j == some u))
   else cs.isEmpty)
def Yp (P : Program) (nt : Nat) (ops : Array Oper) (anc : Nat → List Nat) : List Nat → List (Nat × List Nat) → Bool
  | pre,[] => (List.range ops.size).all (pre.contains ·)
  | pre,(j,cs) :: r => stepOk P nt ops anc pre j cs && Yp P nt ops anc (pre ++ [j]) r
structure StepP (P : Program) (nt : Nat) (ops : Array Oper) (anc : Nat → List Nat) (pre : List Nat) (j : Nat) (cs : List Nat) : Prop where
  fresh : j ∉ pre
  lt : j < ops.size
  so : ∃ o s,ops[j]? = some o ∧ Vk P nt ops j = some s ∧ Zm P nt ops o = some s ∧ (∀ n ∈ Vy o,n ∈ pre) ∧ (∀ i ∈ anc j,∃ n ∈ Vy o,n = i ∨ i ∈ anc n)
  dst : ∀ t,Zb P nt ops j = some t → ∀ k ∈ pre,Zb P nt ops k ≠ some t
  war : ∀ t,Zb P nt ops j = some t → ∀ k ∈ pre,t ∈ Qz P nt ops k → k ∈ anc j
  raw : ∀ k ∈ pre,∀ t,Zb P nt ops k = some t → t ∈ Qz P nt ops j → k ∈ anc j
  act : ∀ k ∈ pre,Jn P nt ops k = .act → k ∈ anc j
  rd : Jn P nt ops j = .act → ∀ r ∈ pre,Jn P nt ops r = .read → r ∈ anc j ∨ r ∈ cs
  chk : Jn P nt ops j = .act → ∀ r ∈ cs,r ∈ pre ∧ ∀ u ∈ Qz P nt ops r,(∀ k ∈ pre,Zb P nt ops k = some u → k ≠ r ∧ r ∉ anc k) ∧ Zb P nt ops j ≠ some u
  nochk : Jn P nt ops j ≠ .act → cs = []
theorem Vb {P : Program} {nt : Nat} {ops : Array Oper} {anc : Nat → List Nat} {pre : List Nat} {j : Nat} {cs : List Nat} (h : stepOk P nt ops anc pre j cs = true) : StepP P nt ops anc pre j cs := by
  unfold stepOk at h
  simp only [Bool.and_eq_true] at h
  obtain ⟨⟨⟨⟨⟨⟨⟨h1,h2⟩,h3⟩,h4⟩,h5⟩,h6⟩,h7⟩,h8⟩ := h
  have hlt : j < ops.size := by simpa using h2
  have ho : ops[j]? = some ops[j] := by simp [hlt]
  refine ⟨by simpa using h1,hlt,?_,?_,?_,?_,?_,?_,?_,?_⟩
  · rw [ho] at h4
    simp only [Bool.and_eq_true,List.all_eq_true,List.any_eq_true] at h4
    obtain ⟨s,hs⟩ := Option.isSome_iff_exists.1 h3
    refine ⟨ops[j],s,ho,hs,?_,fun n hn => by simpa using h4.1 n hn,fun i hi => ?_⟩
    · unfold Vk at hs; rw [ho] at hs; exact hs
    · obtain ⟨n,hn,hq⟩ := h4.2 i hi
      refine ⟨n,hn,?_⟩
      simp only [Bool.or_eq_true,Ww,decide_eq_true_eq] at hq
      rcases hq with q | q
      · exact .inl q
      · exact .inr (by simpa using q)
  · intro t ht k hk
    rw [ht] at h5
    simp only [Bool.and_eq_true,List.all_eq_true] at h5
    simpa using h5.1 k hk
  · intro t ht k hk hr
    rw [ht] at h5
    simp only [Bool.and_eq_true,List.all_eq_true,Bool.or_eq_true,Bool.not_eq_true'] at h5
    rcases h5.2 k hk with q | q
    · simp at q; exact absurd hr q
    · simpa using q
  · intro k hk t ht hr
    have := List.all_eq_true.1 h6 k hk
    rw [ht] at this
    simp only [Bool.or_eq_true,Bool.not_eq_true'] at this
    rcases this with q | q
    · simp at q; exact absurd hr q
    · simpa using q
  · intro k hk hc
    have := List.all_eq_true.1 h7 k hk
    simp only [Bool.or_eq_true,decide_eq_true_eq] at this
    rcases this with q | q
    · exact absurd hc q
    · simpa using q
  · intro hc r hr hcr
    rw [if_pos hc] at h8
    simp only [Bool.and_eq_true] at h8
    have := List.all_eq_true.1 h8.1 r hr
    simp only [Bool.or_eq_true,decide_eq_true_eq] at this
    rcases this with (q | q) | q
    · exact absurd hcr q
    · exact .inl (by simpa using q)
    · exact .inr (by simpa using q)
  · intro hc r hr
    rw [if_pos hc] at h8
    simp only [Bool.and_eq_true] at h8
    have := List.all_eq_true.1 h8.2 r hr
    simp only [Bool.and_eq_true,List.all_eq_true] at this
    refine ⟨by simpa using this.1,fun u hu => ?_⟩
    obtain ⟨a,b⟩ := this.2 u hu
    refine ⟨fun k hk hd => ?_,by simpa using b⟩
    have := a k hk
    simp only [Bool.or_eq_true,Bool.not_eq_true'] at this
    rcases this with q | q
    · simp [hd] at q
    · simp only [Bool.and_eq_true,Bool.not_eq_true',Ww,decide_eq_false_iff_not] at q
      exact ⟨q.1.2,by simpa using q.2⟩
  · intro hc
    rw [if_neg hc] at h8
    simpa using h8
inductive Good (P : Program) (nt : Nat) (ops : Array Oper) (anc : Nat → List Nat) : List Nat → Prop
  | nil : Good P nt ops anc []
  | snoc (pre : List Nat) (j : Nat) (cs : List Nat) : Good P nt ops anc pre → StepP P nt ops anc pre j cs → Good P nt ops anc (pre ++ [j])
section
variable {P : Program} {nt : Nat} {ops : Array Oper} {anc : Nat → List Nat}
theorem Good.lt {pre : List Nat} (g : Good P nt ops anc pre) : ∀ j ∈ pre,j < ops.size := by
  induction g with
  | nil => intro j hj; cases hj
  | snoc pre k cs g s ih =>
    intro j hj
    rcases List.mem_append.1 hj with h | h
    · exact ih j h
    · simp at h; subst h; exact s.lt
theorem Good.so {pre : List Nat} (g : Good P nt ops anc pre) : ∀ j ∈ pre,∃ o s,ops[j]? = some o ∧ Vk P nt ops j = some s ∧ Zm P nt ops o = some s ∧ (∀ n ∈ Vy o,n ∈ pre) := by
  induction g with
  | nil => intro j hj; cases hj
  | snoc pre k cs g s ih =>
    intro j hj
    rcases List.mem_append.1 hj with h | h
    · obtain ⟨o,so,h1,h2,h3,h4⟩ := ih j h
      exact ⟨o,so,h1,h2,h3,fun n hn => List.mem_append.2 (.inl (h4 n hn))⟩
    · simp at h; subst h
      obtain ⟨o,so,h1,h2,h3,h4,_⟩ := s.so
      exact ⟨o,so,h1,h2,h3,fun n hn => List.mem_append.2 (.inl (h4 n hn))⟩
theorem Good.ancs {pre : List Nat} (g : Good P nt ops anc pre) {S : Nat → Prop} (hS : ∀ j o,S j → ops[j]? = some o → ∀ n ∈ Vy o,S n) :
    ∀ j ∈ pre,(∀ o,ops[j]? = some o → ∀ n ∈ Vy o,S n) → ∀ i ∈ anc j,S i := by
  induction g with
  | nil => intro j hj; cases hj
  | snoc pre k cs g s ih =>
    intro j hj hr i hi
    rcases List.mem_append.1 hj with h | h
    · exact ih j h hr i hi
    · simp at h; subst h
      obtain ⟨o,so,h1,h2,h3,h4,h5⟩ := s.so
      obtain ⟨n,hn,hq⟩ := h5 i hi
      have hSn := hr o h1 n hn
      rcases hq with rfl | hq
      · exact hSn
      · exact ih n (h4 n hn) (fun o' ho' m hm => hS n o' hSn ho' m hm) i hq
theorem Good.dst {pre : List Nat} (g : Good P nt ops anc pre) : ∀ j ∈ pre,∀ k ∈ pre,∀ t,Zb P nt ops j = some t → Zb P nt ops k = some t → j = k := by
  induction g with
  | nil => intro j hj; cases hj
  | snoc pre m cs g s ih =>
    intro j hj k hk t h1 h2
    rcases List.mem_append.1 hj with a | a <;> rcases List.mem_append.1 hk with b | b
    · exact ih j a k b t h1 h2
    · simp at b; subst b; exact absurd h1 (s.dst t h2 j a)
    · simp at a; subst a; exact absurd h2 (s.dst t h1 k b)
    · simp at a b; rw [a,b]
structure Inv (P : Program) (nt : Nat) (ops : Array Oper) (anc : Nat → List Nat) (e0 : Env) (E0 : Emb) (h0 : Heap) (w0 : World)
    (pre : List Nat) (S : Nat → Prop) (e : Env) (h : Heap) (E : Emb) (a : Act) (w : World) (vals : Nat → Value) (envs : Nat → Env) (ids : Nat → Nat) (mkd : Nat → Bool) : Prop where
  good : Good P nt ops anc pre
  sub : ∀ j,S j → j ∈ pre
  closed : ∀ j o,S j → ops[j]? = some o → ∀ n ∈ Vy o,S n
  r1 : ∀ j ∈ pre,∀ t,Zb P nt ops j = some t → e.get t = some (vals j)
  r2 : ∀ t,(∀ j ∈ pre,Zb P nt ops j ≠ some t) → e.get t = e0.get t
  r3 : ∀ j ∈ pre,∀ t ∈ Qz P nt ops j,(∃ k ∈ pre,k ∈ anc j ∧ Zb P nt ops k = some t ∧ (envs j).get t = some (vals k)) ∨ ((∀ k ∈ pre,Zb P nt ops k = some t → k = j ∨ j ∈ anc k) ∧ (envs j).get t = e0.get t)
  t1 : ∀ k,S k → ∀ t,Zb P nt ops k = some t → ∃ v',a.tmps[t]? = some v' ∧ VR E (vals k) v'
  t2 : ∀ t,(∀ k,S k → Zb P nt ops k ≠ some t) → ∀ v,e0.get t = some v → ∃ v',a.tmps[t]? = some v' ∧ VR E v v'
  late : ∀ j ∈ pre,¬ S j → ∃ s,Vk P nt ops j = some s ∧ ((s.wanted (envs j) = some false ∧ vals j = Xl) ∨ (s.wanted (envs j) = some true ∧
    ((s.op.cls = .pure ∧ s.op.run (envs j) h = some (vals j,h)) ∨ (s.op.cls = .read ∧ s.op.run (envs j) h = some (vals j,h)) ∨
     (s.op.cls = .make ∧ mkd j = true ∧ ∃ (ob : AObj) (mk : MkS),(∀ h2,s.op.run (envs j) h2 = some (mk.fn h2.next,h2.add ob)) ∧ h.get (ids j) = some ob ∧ E (ids j) = none ∧ h0.next ≤ ids j ∧ vals j = mk.fn (ids j)))))
  inj : ∀ j ∈ pre,∀ k ∈ pre,mkd j = true → mkd k = true → ids j = ids k → j = k
  bnd : ∀ j ∈ pre,mkd j = true → ids j < h.next
  wr : WR E h w
  stp : Stp E0 h0 w0 E h w
  size : a.tmps.size = nt
  defers : a.defers = []
theorem WR.adopt {E : Emb} {h : Heap} {w w' : World} (hw : WR E h w) {id : Nat} {ob : AObj} {cob : Obj} {en : Ent} (g : Grew w w' cob) (hb : en.block = w.heap.size) (hg : h.get id = some ob) (hn : E id = none)
    (ho : Jc (E.more id en) w' en ob) : WR (E.more id en) h w' := by
  have hext : ∀ i x,E i = some x → E.more id en i = some x := fun i x q => by
    rw [Emb.more_ne _ _ (fun z => by subst z; rw [hn] at q; cases q)]; exact q
  constructor
  · intro i e1 o1 x y
    by_cases hi : i = id
    · subst hi
      rw [Emb.more_same] at x; cases x
      rw [hg] at y; cases y
      exact ho
    · rw [Emb.more_ne _ _ hi] at x
      have := hw.obj i e1 o1 x y
      exact this.mono hext (g.old this.lt)
  · intro i i' e1 e2 o1 o2 hne x1 x2 y1 y2 z
    by_cases hi : i = id
    · subst hi
      rw [Emb.more_same] at x1; cases x1
      rw [Emb.more_ne _ _ (fun q => hne q.symm)] at x2
      have := (hw.obj i' e2 o2 x2 y2).lt
      omega
    · rw [Emb.more_ne _ _ hi] at x1
      by_cases hi' : i' = id
      · subst hi'
        rw [Emb.more_same] at x2; cases x2
        have := (hw.obj i e1 o1 x1 y1).lt
        omega
      · rw [Emb.more_ne _ _ hi'] at x2
        exact hw.inj i i' e1 e2 o1 o2 hne x1 x2 y1 y2 z
  · intro i e1 x
    by_cases hi : i = id
    · subst hi; exact Heap.get_lt hg
    · rw [Emb.more_ne _ _ hi] at x; exact hw.dom i e1 x
theorem Stp.adopt {E0 E : Emb} {h0 h : Heap} {w0 w w' : World} (hs : Stp E0 h0 w0 E h w) {id : Nat} {cob : Obj} {en : Ent} (g : Grew w w' cob) (hb : en.block = w.heap.size) (hn : E id = none) (hi0 : h0.next ≤ id) :
    Stp E0 h0 w0 (E.more id en) h w' where
  ext i x q := by
    have := hs.ext i x q
    rw [Emb.more_ne _ _ (fun z => by subst z; rw [hn] at this; cases this)]; exact this
  out i hi q := by
    obtain ⟨a,b⟩ := hs.out i hi q
    rw [Emb.more_ne _ _ (by omega)]; exact ⟨a,b⟩
  next := hs.next
  dead := hs.dead
  rw := hs.rw
  own b x := by
    obtain ⟨i,e1,o1,x1,x2,x3,rfl⟩ := x
    by_cases hi : i = id
    · subst hi
      rw [Emb.more_same] at x1; cases x1
      right; rw [hb]; exact hs.size
    · rw [Emb.more_ne _ _ hi] at x1
      exact hs.own _ ⟨i,e1,o1,x1,x2,x3,rfl⟩
  size := by have := hs.size; rw [g.heap]; simp; omega
  fr b hb' hn' := by rw [g.old (by have := hs.size; omega)]; exact hs.fr b hb' hn'
  os := g.os.trans hs.os
  tape := g.tape.trans hs.tape
  output := g.output.trans hs.output
theorem WR.addAlone {E : Emb} {h : Heap} {w : World} (hw : WR E h w) (ob : AObj) : WR E (h.add ob) w := by
  have key : ∀ i x o,E i = some x → (h.add ob).get i = some o → h.get i = some o := fun i x o q r => by
    have := hw.dom i x q
    rw [Heap.get_add,if_neg (by omega)] at r; exact r
  exact ⟨fun i x o q r => hw.obj i x o q (key i x o q r),fun i i' x y o o' hne q r s t z => hw.inj i i' x y o o' hne q r (key i x o q s) (key i' y o' r t) z,fun i x q => by have := hw.dom i x q; rw [Heap.next_add]; omega⟩
theorem Stp.addAlone {E0 E : Emb} {h0 h : Heap} {w0 w : World} (hs : Stp E0 h0 w0 E h w) (hw : WR E h w) (ob : AObj) : Stp E0 h0 w0 E (h.add ob) w where
  ext := hs.ext
  out i hi q := by
    obtain ⟨a,b⟩ := hs.out i hi q
    rw [Heap.get_add,if_neg (by have := hs.next; omega)]; exact ⟨a,b⟩
  next := by have := hs.next; rw [Heap.next_add]; omega
  dead i hi q := by rw [Heap.get_add,if_neg (by have := hs.next; omega)]; exact hs.dead i hi q
  rw i o o' q r := by
    have := Heap.get_lt q
    rw [Heap.get_add,if_neg (by have := hs.next; omega)] at r; exact hs.rw i o o' q r
  own b x := by
    obtain ⟨i,e1,o1,x1,x2,x3,rfl⟩ := x
    have := hw.dom i e1 x1
    rw [Heap.get_add,if_neg (by omega)] at x2
    exact hs.own _ ⟨i,e1,o1,x1,x2,x3,rfl⟩
  size := hs.size
  fr := hs.fr
  os := hs.os
  tape := hs.tape
  output := hs.output
theorem Fn.mono {f : Nat} {args : List Value} {h : Heap} {Q Q' : Value → Heap → Prop} (hf : Fn P f args h Q) (hq : ∀ v h',Q v h' → Q' v h') : Fn P f args h Q' :=
  ⟨hf.1,fun E w args' hw ha => (hf.2 E w args' hw ha).mono fun en w' ⟨v,h',E',v',q,r⟩ => ⟨v,h',E',v',hq v h' q,r⟩⟩
theorem Env.keep_get : ∀ (l : List Nat) (e : Env) (t : Nat),t ∈ l → (e.keep l).get t = e.get t
  | [],e,t,h => by cases h
  | k :: l,e,t,h => by
    simp only [Env.keep]
    by_cases hk : k = t
    · subst hk
      cases hg : e.get k with
      | none =>
        simp only
        cases hx : (e.keep l).get k with
        | none => rfl
        | some u => rw [Env.get_keep l e k u hx] at hg; cases hg
      | some u => simp [Env.get,Ww]
    · have ht : t ∈ l := by
        rcases List.mem_cons.1 h with q | q
        · exact absurd q.symm hk
        · exact q
      cases hg : e.get k with
      | none => exact Env.keep_get l e t ht
      | some u => simp only [Env.get,Ww]; simp [hk]; exact Env.keep_get l e t ht
theorem Ku : ∀ (l : List Nat) (e : Env) (t : Nat) (v : Value),(e.keep l).get t = some v → t ∈ l
  | [],e,t,v,h => by simp [Env.keep,Env.get] at h
  | k :: l,e,t,v,h => by
    simp only [Env.keep] at h
    split at h
    · simp only [Env.get,Ww] at h
      by_cases hk : k = t
      · subst hk; simp
      · simp [hk] at h; exact List.mem_cons_of_mem _ (Ku l e t v h)
    · exact List.mem_cons_of_mem _ (Ku l e t v h)
theorem Qy {s : SOp} {e e' : Env} (h : ∀ t ∈ s.reads,e'.get t = e.get t) : s.wanted e' = s.wanted e := by
  unfold SOp.wanted
  split
  · rfl
  · rename_i t b hg
    have : e'.get t = e.get t := h t (by unfold SOp.reads guardTmps; rw [hg]; simp)
    rw [this]
theorem Uu {so : SO} {e e' : Env} {h : Heap} (ht : ∀ t ∈ so.tmps,e'.get t = e.get t) : so.run e' h = so.run e h := by
  have ev : ∀ x : Arg,(∀ t ∈ x.tmps,t ∈ so.tmps) → x.ev e' = x.ev e := fun x hx => Arg.ev_congr fun t q => ht t (hx t q)
  have eo : ∀ x : Option Arg,(∀ t ∈ Qe x,t ∈ so.tmps) → Zr e' x = Zr e x := fun x hx => optEv_congr fun t q => ht t (hx t q)
  cases so <;> first
    | (refine run_congr ?_ ht; first | exact .inl rfl | exact .inr (.inl rfl) | exact .inr (.inr rfl))
    | rfl
    | (simp only [SO.run]
       repeat (first
         | rw [ev _ (by intro t q; simp only [SO.tmps,List.mem_append]; simp [q])]
         | rw [eo _ (by intro t q; simp only [SO.tmps,List.mem_append]; simp [q])]
         | rw [ht _ (by simp [SO.tmps])])
       done)
theorem one_core {i : Nat} {o : Oper} {so : SOp} {rest : List SOp} {e : Env} {h : Heap} {Q : Env → Heap → Prop} {QQ : Exit → Act → World → Prop} {K : Act → World → Prop} {E : Emb} {a : Act} {w : World}
    (ho : ops[i]? = some o) (hc : Zm P nt ops o = some so) (hw : Xd P (so :: rest) e h Q) (R : Rel E e h a w nt)
    (hK : ∀ v v' E1 h1 w1,Xd P rest (e.put so.dst v) h1 Q → VR E1 v v' → WR E1 h1 w1 → Stp E h w E1 h1 w1 → K (a.put o.dst v') w1) : wpOp P ops QQ i K a w := by
  obtain ⟨hop,hdst,hlt⟩ := Qg hc
  unfold wpOp
  rw [ho]
  simp only
  unfold Xd at hw
  cases hwt : so.wanted e with
  | none => rw [hwt] at hw; exact hw.elim
  | some b =>
    rw [hwt] at hw
    have hwanted := Ue R hc hwt
    rw [hwanted]
    cases b with
    | false =>
      simp only at hw
      simp only [Bool.false_eq_true,if_false]
      exact hK Xl Go.undef E h w hw VR.undef R.wr (Stp.refl _ _ _)
    | true =>
      simp only at hw
      simp only [if_true]
      left
      cases hcall : so.op.asCall with
      | none =>
        rw [hcall] at hw
        simp only at hw
        cases hrun : so.op.run e h with
        | none => rw [hrun] at hw; exact hw.elim
        | some vh =>
          obtain ⟨v,h1⟩ := vh
          rw [hrun] at hw
          simp only at hw
          obtain ⟨v',E1,w1,hr,hv,hw1,hs⟩ := exec_ok R hop hcall hrun
          unfold Oper.wp
          rcases hr with hr | ⟨hr,rfl⟩
          · rw [hr]; simp only [Oper.upon]; exact hK v v' E1 h1 w1 hw hv hw1 hs
          · rw [hr]; simp only [Oper.upon]; exact hK v _ E1 h1 w1 hw hv hw1 hs
      | some fa =>
        obtain ⟨F,Args⟩ := fa
        rw [hcall] at hw
        simp only at hw
        split at hw
        · rename_i f fi ca vs hF hA
          refine call_ok R hop hcall hF hA hw ?_
          intro v v' E1 h1 w1 hq hv hw1 hs
          exact hK v v' E1 h1 w1 hq hv hw1 hs
        · exact hw.elim
theorem call_tmps {so : SO} {F : Arg} {Args : List Arg} (h : so.asCall = some (F,Args)) : (∀ t ∈ F.tmps,t ∈ so.tmps) ∧ (∀ t ∈ Zv Args,t ∈ so.tmps) := by
  cases so <;> simp [SO.asCall] at h
  · obtain ⟨rfl,rfl⟩ := h
    exact ⟨fun t q => by simp [Arg.tmps] at q,fun t q => q⟩
  · obtain ⟨rfl,rfl⟩ := h
    exact ⟨fun t q => List.mem_append.2 (.inl q),fun t q => List.mem_append.2 (.inr q)⟩
theorem Kd {so : SO} (h : so.cls = .pure ∨ so.cls = .read ∨ so.cls = .make) : so.asCall = none := by
  cases so <;> first | rfl | (simp [SO.cls] at h)
theorem Wops_keep {so : SOp} {rest : List SOp} {e : Env} {h : Heap} {Q : Env → Heap → Prop} (hw : Xd P (so :: rest) e h Q) :
    Xd P [so] (e.keep so.reads) h (fun e2 h2 => ∃ v,e2 = (e.keep so.reads).put so.dst v ∧ Xd P rest (e.put so.dst v) h2 Q) := by
  have hk : ∀ t ∈ so.reads,(e.keep so.reads).get t = e.get t := fun t q => Env.keep_get _ _ _ q
  have hkt : ∀ t ∈ so.op.tmps,(e.keep so.reads).get t = e.get t := fun t q => hk t (List.mem_append.2 (.inl q))
  unfold Xd at hw ⊢
  rw [Qy hk]
  cases hwt : so.wanted e with
  | none => rw [hwt] at hw; exact hw.elim
  | some b =>
    rw [hwt] at hw
    cases b with
    | false => exact ⟨Xl,rfl,hw⟩
    | true =>
      simp only at hw ⊢
      cases hcall : so.op.asCall with
      | none =>
        rw [hcall] at hw
        simp only at hw ⊢
        rw [Uu hkt]
        cases hrun : so.op.run e h with
        | none => rw [hrun] at hw; exact hw.elim
        | some vh => rw [hrun] at hw; exact ⟨vh.1,rfl,hw⟩
      | some fa =>
        obtain ⟨F,Args⟩ := fa
        rw [hcall] at hw
        obtain ⟨q1,q2⟩ := call_tmps hcall
        simp only at hw ⊢
        rw [Arg.ev_congr (fun t q => hkt t (q1 t q)),Gl (fun t q => hkt t (q2 t q))]
        split at hw
        · rename_i f fi ca vs hF hA
          exact hw.mono fun v h' hq => ⟨v,rfl,hq⟩
        · exact hw.elim
theorem Vj {j : Nat} {s : SOp} (h : Vk P nt ops j = some s) : Qz P nt ops j = s.reads := by unfold Qz; rw [h]
theorem Yl {j : Nat} {s : SOp} (h : Vk P nt ops j = some s) : Zb P nt ops j = s.dst := by unfold Zb; rw [h]; rfl
theorem soAt_cls {j : Nat} {s : SOp} (h : Vk P nt ops j = some s) : Jn P nt ops j = s.op.cls := by unfold Jn; rw [h]
variable {e0 : Env} {E0 : Emb} {h0 : Heap} {w0 : World} {pre : List Nat} {S : Nat → Prop} {e : Env} {h : Heap} {E : Emb} {a : Act} {w : World} {vals : Nat → Value} {envs : Nat → Env} {ids : Nat → Nat} {mkd : Nat → Bool}
theorem Inv.advance (I : Inv P nt ops anc e0 E0 h0 w0 pre S e h E a w vals envs ids mkd) {j : Nat} {cs : List Nat} {s : SOp} {l : List SOp} {Q : Env → Heap → Prop} (st : StepP P nt ops anc pre j cs) (hs : Vk P nt ops j = some s) (hna : Jn P nt ops j ≠ .act)
    (hw : Xd P (s :: l) e h Q) : ∃ e' h' vals' envs' ids' mkd',Inv P nt ops anc e0 E0 h0 w0 (pre ++ [j]) S e' h' E a w vals' envs' ids' mkd' ∧ Xd P l e' h' Q := by
  have hnj : ¬ S j := fun q => st.fresh (I.sub j q)
  have hcls : s.op.cls = .pure ∨ s.op.cls = .read ∨ s.op.cls = .make := by
    rw [soAt_cls hs] at hna
    cases hc : s.op.cls <;> simp_all
  -- what is read
  have core : ∃ v h',Xd P l (e.put s.dst v) h' Q ∧ ((s.wanted e = some false ∧ v = Xl ∧ h' = h) ∨ (s.wanted e = some true ∧ ((s.op.cls = .pure ∧ s.op.run e h = some (v,h) ∧ h' = h) ∨ (s.op.cls = .read ∧ s.op.run e h = some (v,h) ∧ h' = h) ∨
      (s.op.cls = .make ∧ ∃ (ob : AObj) (mk : MkS),(∀ h2,s.op.run e h2 = some (mk.fn h2.next,h2.add ob)) ∧ h' = h.add ob ∧ v = mk.fn h.next)))) := by
    unfold Xd at hw
    cases hwt : s.wanted e with
    | none => rw [hwt] at hw; exact hw.elim
    | some b =>
      rw [hwt] at hw
      cases b with
      | false => exact ⟨Xl,h,hw,.inl ⟨rfl,rfl,rfl⟩⟩
      | true =>
        simp only at hw
        rw [Kd hcls] at hw
        simp only at hw
        cases hrun : s.op.run e h with
        | none => rw [hrun] at hw; exact hw.elim
        | some vh =>
          obtain ⟨v,h1⟩ := vh
          rw [hrun] at hw
          simp only at hw
          refine ⟨v,h1,hw,.inr ⟨rfl,?_⟩⟩
          rcases hcls with q | q | q
          · obtain ⟨rfl,_⟩ := run_pure q hrun; exact .inl ⟨q,rfl,rfl⟩
          · obtain ⟨rfl,_⟩ := run_read q hrun; exact .inr (.inl ⟨q,rfl,rfl⟩)
          · obtain ⟨ob,mk,r1,r2,r3⟩ := run_make q hrun; exact .inr (.inr ⟨q,ob,mk,r3,r1,r2⟩)
  obtain ⟨v,h',hl,hcase⟩ := core
  have hheap : h' = h ∨ ∃ ob,h' = h.add ob := by
    rcases hcase with ⟨_,_,q⟩ | ⟨_,⟨_,_,q⟩ | ⟨_,_,q⟩ | ⟨_,ob,mk,_,q,_⟩⟩
    · exact .inl q
    · exact .inl q
    · exact .inl q
    · exact .inr ⟨ob,q⟩
  have hmem : ∀ k,k ∈ pre ++ [j] ↔ k ∈ pre ∨ k = j := fun k => by simp
  have hne : ∀ k ∈ pre,k ≠ j := fun k hk q => st.fresh (q ▸ hk)
  refine ⟨e.put s.dst v,h',fun k => if k = j then v else vals k,fun k => if k = j then e else envs k,fun k => if k = j then h.next else ids k,fun k => if k = j then (decide (s.op.cls = .make) && decide (s.wanted e = some true)) else mkd k,?_,hl⟩
  refine ⟨.snoc pre j cs I.good st,fun k q => (hmem k).2 (.inl (I.sub k q)),I.closed,?_,?_,?_,?_,I.t2,?_,?_,?_,?_,?_,I.size,I.defers⟩
  · -- r1
    intro k hk t ht
    rw [Env.get_put]
    rcases (hmem k).1 hk with q | q
    · have : s.dst ≠ some t := fun z => st.dst t (by rw [Yl hs]; exact z) k q ht
      rw [if_neg this,if_neg (hne k q)]
      exact I.r1 k q t ht
    · subst q
      rw [Yl hs] at ht
      rw [if_pos ht,if_pos rfl]
  · -- r2
    intro t ht
    rw [Env.get_put]
    have : s.dst ≠ some t := fun z => ht j ((hmem j).2 (.inr rfl)) (by rw [Yl hs]; exact z)
    rw [if_neg this]
    exact I.r2 t fun k hk => ht k ((hmem k).2 (.inl hk))
  · -- r3
    intro k hk t ht
    rcases (hmem k).1 hk with q | q
    · simp only [if_neg (hne k q)]
      rcases I.r3 k q t ht with ⟨m,m1,m2,m3,m4⟩ | ⟨m1,m2⟩
      · exact .inl ⟨m,(hmem m).2 (.inl m1),m2,m3,by rw [if_neg (hne m m1)]; exact m4⟩
      · refine .inr ⟨fun m hm hd => ?_,m2⟩
        rcases (hmem m).1 hm with r | r
        · exact m1 m r hd
        · subst r; exact .inr (st.war t hd k q ht)
    · subst q
      simp only [if_true]
      by_cases hx : ∃ m ∈ pre,Zb P nt ops m = some t
      · obtain ⟨m,m1,m2⟩ := hx
        exact .inl ⟨m,(hmem m).2 (.inl m1),st.raw m m1 t m2 ht,m2,by rw [if_neg (hne m m1)]; exact I.r1 m m1 t m2⟩
      · refine .inr ⟨fun m hm hd => ?_,I.r2 t fun m hm hd => hx ⟨m,hm,hd⟩⟩
        rcases (hmem m).1 hm with r | r
        · exact absurd ⟨m,r,hd⟩ hx
        · exact .inl r
  · -- t1
    intro k hk t ht
    rw [if_neg (hne k (I.sub k hk))]
    exact I.t1 k hk t ht
  · -- late
    intro k hk hnk
    rcases (hmem k).1 hk with q | q
    · simp only [if_neg (hne k q)]
      obtain ⟨s2,h2,h3⟩ := I.late k q hnk
      refine ⟨s2,h2,?_⟩
      rcases h3 with h3 | ⟨h3,h4⟩
      · exact .inl h3
      · refine .inr ⟨h3,?_⟩
        rcases hheap with rfl | ⟨ob2,rfl⟩
        · exact h4
        · rcases h4 with ⟨c1,c2⟩ | ⟨c1,c2⟩ | ⟨c1,c2,ob,mk,c3,c4,c5,c6,c7⟩
          · exact .inl ⟨c1,(run_pure c1 c2).2 _⟩
          · exact .inr (.inl ⟨c1,(run_read c1 c2).2 _⟩)
          · exact .inr (.inr ⟨c1,c2,ob,mk,c3,Yu c4,c5,c6,c7⟩)
    · subst q
      simp only [if_true]
      refine ⟨s,hs,?_⟩
      rcases hcase with ⟨c1,c2,_⟩ | ⟨c1,⟨c2,c3,rfl⟩ | ⟨c2,c3,rfl⟩ | ⟨c2,ob,mk,c3,rfl,c4⟩⟩
      · exact .inl ⟨c1,c2⟩
      · exact .inr ⟨c1,.inl ⟨c2,c3⟩⟩
      · exact .inr ⟨c1,.inr (.inl ⟨c2,c3⟩)⟩
      · refine .inr ⟨c1,.inr (.inr ⟨c2,by simp [c1,c2],ob,mk,c3,by rw [Heap.get_add,if_pos rfl],?_,I.stp.next,c4⟩)⟩
        cases hE : E h.next with
        | none => rfl
        | some x => have := I.wr.dom _ _ hE; omega
  · -- inj
    intro k hk m hm h1 h2 h3
    rcases (hmem k).1 hk with q | q <;> rcases (hmem m).1 hm with r | r
    · simp only [if_neg (hne k q),if_neg (hne m r)] at h1 h2 h3; exact I.inj k q m r h1 h2 h3
    · subst r
      simp only [if_neg (hne k q),if_true] at h1 h3
      have := I.bnd k q h1
      omega
    · subst q
      simp only [if_neg (hne m r),if_true] at h2 h3
      have := I.bnd m r h2
      omega
    · rw [q,r]
  · -- bnd
    intro k hk h1
    rcases (hmem k).1 hk with q | q
    · simp only [if_neg (hne k q)] at h1 ⊢
      have := I.bnd k q h1
      rcases hheap with rfl | ⟨ob,rfl⟩
      · exact this
      · rw [Heap.next_add]; omega
    · subst q
      simp only [if_true] at h1 ⊢
      simp only [Bool.and_eq_true,decide_eq_true_eq] at h1
      rcases hcase with ⟨c1,_,_⟩ | ⟨_,⟨c2,_,_⟩ | ⟨c2,_,_⟩ | ⟨_,ob,mk,_,rfl,_⟩⟩
      · rw [h1.2] at c1; cases c1
      · rw [h1.1] at c2; cases c2
      · rw [h1.1] at c2; cases c2
      · rw [Heap.next_add]; omega
  · rcases hheap with rfl | ⟨ob,rfl⟩
    · exact I.wr
    · exact I.wr.addAlone ob
  · rcases hheap with rfl | ⟨ob,rfl⟩
    · exact I.stp
    · exact I.stp.addAlone I.wr ob
end
end Go.Dx
