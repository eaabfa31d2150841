/- A deterministic reading of the model's code: the relation's laws. -/
import Derived.Test.YtpkefdoleieloaaCsz2
import Derived.Laws.Sem
namespace Go.Dx
set_option linter.unusedVariables false
set_option linter.unusedSimpArgs false
/-! ### Values -/
mutual
theorem VR.mono {E E' : Emb} (hE : ∀ id en,E id = some en → E' id = some en) : ∀ {v v' : Value},VR E v v' → VR E' v v'
  | _,_,.bool b => .bool b
  | _,_,.int k n => .int k n
  | _,_,.str s => .str s
  | _,_,.pnil => .pnil
  | _,_,.ptr id off en h1 h2 => .ptr id off en (hE _ _ h1) h2
  | _,_,.snil => .snil
  | _,_,.sl id off len cap en a' cap' h1 h2 h3 h4 h5 h6 => .sl id off len cap en a' cap' (hE _ _ h1) h2 h3 h4 h5 h6
  | _,_,.mnil => .mnil
  | _,_,.mp id en h1 h2 => .mp id en (hE _ _ h1) h2
  | _,_,.nilF => .nilF
  | _,_,.nilI => .nilI
  | _,_,.fn f a a' b b' h1 h2 => .fn f a a' b b' (VRL.mono hE h1) (VRL.mono hE h2)
  | _,_,.agg a a' h => .agg a a' (VRL.mono hE h)
  | _,_,.tup a a' h => .tup a a' (VRL.mono hE h)
theorem VRL.mono {E E' : Emb} (hE : ∀ id en,E id = some en → E' id = some en) : ∀ {l l' : List Value},VRL E l l' → VRL E' l l'
  | _,_,.nil => .nil
  | _,_,.cons v v' l l' h1 h2 => .cons v v' l l' (VR.mono hE h1) (VRL.mono hE h2)
end
theorem VRL.length {E : Emb} : ∀ {l l' : List Value},VRL E l l' → l.length = l'.length
  | _,_,.nil => rfl
  | _,_,.cons _ _ _ _ _ h => by simp [VRL.length h]
theorem VRL.get {E : Emb} : ∀ {l l' : List Value},VRL E l l' → ∀ {i : Nat} {v : Value},l[i]? = some v → ∃ v',l'[i]? = some v' ∧ VR E v v'
  | _,_,.nil,i,v,h => by simp at h
  | _,_,.cons v v' l l' h1 h2,i,u,h => by
    cases i with
    | zero => simp at h; subst h; exact ⟨v',rfl,h1⟩
    | succ i => simp at h; obtain ⟨u',hu,hr⟩ := VRL.get h2 h; exact ⟨u',by simpa using hu,hr⟩
theorem VRL.append {E : Emb} : ∀ {a a' b b' : List Value},VRL E a a' → VRL E b b' → VRL E (a ++ b) (a' ++ b')
  | _,_,_,_,.nil,h => h
  | _,_,_,_,.cons v v' l l' h1 h2,h => .cons v v' _ _ h1 (VRL.append h2 h)
theorem VRL.drop {E : Emb} : ∀ {a a' : List Value} (n : Nat),VRL E a a' → VRL E (a.drop n) (a'.drop n)
  | _,_,0,h => h
  | _,_,n + 1,.nil => by simp; exact .nil
  | _,_,n + 1,.cons v v' l l' _ h => by simpa using VRL.drop n h
theorem VRL.take {E : Emb} : ∀ {a a' : List Value} (n : Nat),VRL E a a' → VRL E (a.take n) (a'.take n)
  | _,_,0,h => by simp; exact .nil
  | _,_,n + 1,.nil => by simp; exact .nil
  | _,_,n + 1,.cons v v' l l' h1 h => by simpa using VRL.cons _ _ _ _ h1 (VRL.take n h)
theorem VRL.set {E : Emb} : ∀ {a a' : List Value} (i : Nat) {v v' : Value},VRL E a a' → VR E v v' → VRL E (a.set i v) (a'.set i v')
  | _,_,_,_,_,.nil,_ => .nil
  | _,_,0,_,_,.cons _ _ l l' _ h,hv => .cons _ _ _ _ hv h
  | _,_,i + 1,_,_,.cons _ _ l l' h1 h,hv => .cons _ _ _ _ h1 (VRL.set i h hv)
theorem VRL.putL {E : Emb} : ∀ {c c' : List Value} {a a' : List Value} (i : Nat),VRL E a a' → VRL E c c' → VRL E (putL a i c) (putL a' i c')
  | _,_,_,_,_,h,.nil => h
  | _,_,_,_,i,h,.cons v v' l l' h1 h2 => VRL.putL (i + 1) (VRL.set i h h1) h2
theorem Zx {E : Emb} : ∀ (n : Nat) (v : Value),Yx n v = true → VR E v v := by
  intro n
  induction n with
  | zero =>
    intro v h
    unfold Yx at h
    split at h <;> first
      | exact .bool _ | exact .int _ _ | exact .str _ | exact .pnil | exact .snil | exact .mnil | exact .nilF | exact .nilI
      | exact .fn _ [] [] [] [] .nil .nil | simp_all
  | succ n ih =>
    have hl : ∀ (cs : List Value),cs.all (Yx n) = true → VRL E cs cs := by
      intro cs
      induction cs with
      | nil => intro _; exact .nil
      | cons c cs ih2 => intro h; simp only [List.all_cons,Bool.and_eq_true] at h; exact .cons _ _ _ _ (ih c h.1) (ih2 h.2)
    intro v h
    unfold Yx at h
    split at h <;> first
      | exact .bool _ | exact .int _ _ | exact .str _ | exact .pnil | exact .snil | exact .mnil | exact .nilF | exact .nilI
      | exact .fn _ [] [] [] [] .nil .nil
      | (rename_i heq; cases heq; exact .agg _ _ (hl _ h))
      | (rename_i heq; cases heq; exact .tup _ _ (hl _ h))
      | simp_all
theorem Zj {E : Emb} (n : Nat) : ∀ (cs : List Value),cs.all (Yx n) = true → VRL E cs cs
  | [],_ => .nil
  | c :: cs,h => by simp only [List.all_cons,Bool.and_eq_true] at h; exact .cons _ _ _ _ (Zx n c h.1) (Zj n cs h.2)
theorem VR.cells {E : Emb} {v v' : Value} (h : VR E v v') : VRL E v.cells.toList v'.cells.toList := by
  cases h with
  | agg a a' h => exact h
  | _ => simp only [Value.cells]; refine .cons _ _ _ _ ?_ .nil; constructor <;> assumption
theorem VR.isCell {E : Emb} {v v' : Value} (h : VR E v v') : Dx.isCell v' = Dx.isCell v := by cases h <;> rfl
theorem VRL.isCell {E : Emb} : ∀ {l l' : List Value},VRL E l l' → l'.all Dx.isCell = l.all Dx.isCell
  | _,_,.nil => rfl
  | _,_,.cons _ _ _ _ h1 h2 => by simp [VR.isCell h1,VRL.isCell h2]
theorem VR.undef {E : Emb} : VR E Xl Go.undef := .tup [] [] .nil
/-! ### Objects, steps -/
theorem EsR.mono {E E' : Emb} (hE : ∀ id en,E id = some en → E' id = some en) : ∀ {es : List (Value × Value)} {es' : List MapEntry},EsR E es es' → EsR E' es es'
  | [],[],_ => trivial
  | (_,_) :: _,_ :: _,h => ⟨h.1,h.2.1,h.2.2.1.mono hE,EsR.mono hE h.2.2.2⟩
  | [],_ :: _,h => h.elim
  | _ :: _,[],h => by simp [EsR] at h
theorem Jc.mono {E E' : Emb} {w w' : World} {en : Ent} {o : AObj} (hE : ∀ id en,E id = some en → E' id = some en) (hb : w'.heap[en.block]? = w.heap[en.block]?) (h : Jc E w en o) : Jc E' w' en o := by
  cases o with
  | cells vs esz ro =>
    obtain ⟨h1,h2,h3,h4,c,el,fr,h5,h6,h7,h8⟩ := h
    exact ⟨h1,h2,h3,h4,c,el,fr,by rw [hb]; exact h5,h6,fun i v hv => by obtain ⟨v',hv',hr⟩ := h7 i v hv; exact ⟨v',hv',hr.mono hE⟩,h8⟩
  | map es =>
    obtain ⟨h1,h2,es',cl,h3,h4⟩ := h
    exact ⟨h1,h2,es',cl,by rw [hb]; exact h3,h4.mono hE⟩
theorem Jc.lt {E : Emb} {w : World} {en : Ent} {o : AObj} (h : Jc E w en o) : en.block < w.heap.size := by
  cases o with
  | cells vs esz ro =>
    obtain ⟨_,_,_,_,c,el,fr,h5,_⟩ := h
    exact (Array.getElem?_eq_some_iff.1 h5).1
  | map es =>
    obtain ⟨_,_,es',cl,h3,_⟩ := h
    exact (Array.getElem?_eq_some_iff.1 h3).1
theorem Stp.refl (E : Emb) (h : Heap) (w : World) : Stp E h w E h w :=
  ⟨fun _ _ x => x,fun _ _ x => ⟨x,rfl⟩,Nat.le_refl _,fun _ _ x => x,fun _ _ _ x y => by rw [x] at y; cases y; rfl,fun _ x => .inl x,Nat.le_refl _,fun _ _ _ => rfl,rfl,rfl,rfl⟩
theorem Stp.trans {E E1 E2 : Emb} {h h1 h2 : Heap} {w w1 w2 : World} (a : Stp E h w E1 h1 w1) (b : Stp E1 h1 w1 E2 h2 w2) : Stp E h w E2 h2 w2 where
  ext id en x := b.ext _ _ (a.ext _ _ x)
  out id hi x := by
    obtain ⟨y1,y2⟩ := a.out id hi x
    obtain ⟨z1,z2⟩ := b.out id (Nat.lt_of_lt_of_le hi a.next) y1
    exact ⟨z1,z2.trans y2⟩
  next := Nat.le_trans a.next b.next
  dead id hi x := b.dead id (Nat.lt_of_lt_of_le hi a.next) (a.dead id hi x)
  rw id o o2 x z := by
    cases y : h1.get id with
    | none => rw [b.dead id (Nat.lt_of_lt_of_le (Heap.get_lt x) a.next) y] at z; cases z
    | some o1 => exact (b.rw id o1 o2 y z).trans (a.rw id o o1 x y)
  own bl x := by
    rcases b.own bl x with y | y
    · exact a.own bl y
    · exact .inr (Nat.le_trans a.size y)
  size := Nat.le_trans a.size b.size
  fr bl hb hn := by
    have : ¬ Own E1 h1 bl := fun x => by
      rcases a.own bl x with y | y
      · exact hn y
      · omega
    rw [b.fr bl (Nat.lt_of_lt_of_le hb a.size) this,a.fr bl hb hn]
  os := b.os.trans a.os
  tape := b.tape.trans a.tape
  output := b.output.trans a.output
def Emb.more (E : Emb) (id : Nat) (en : Ent) : Emb := fun i => bif i.beq id then some en else E i
theorem Ww (a b : Nat) : a.beq b = decide (a = b) := by
  cases h : a.beq b with
  | true => simp [Nat.eq_of_beq_eq_true h]
  | false => simp [Nat.ne_of_beq_eq_false h]
theorem Emb.more_same (E : Emb) (id : Nat) (en : Ent) : E.more id en id = some en := by simp [Emb.more]
theorem Emb.more_ne (E : Emb) {id i : Nat} (en : Ent) (h : i ≠ id) : E.more id en i = E i := by simp [Emb.more,Ww,h]
theorem Emb.more_ext {E : Emb} {h : Heap} {w : World} (hw : WR E h w) (en : Ent) : ∀ i e,E i = some e → E.more h.next en i = some e := fun i e x => by
  rw [Emb.more_ne _ _ (by have := hw.dom i e x; omega)]; exact x
structure Grew (w w' : World) (o : Obj) : Prop where
  heap : w'.heap = w.heap.push o
  os : w'.os = w.os
  tape : w'.tape = w.tape
  output : w'.output = w.output
theorem Grew.old {w w' : World} {o : Obj} (g : Grew w w' o) {b : Nat} (hb : b < w.heap.size) : w'.heap[b]? = w.heap[b]? := by
  rw [g.heap,Array.getElem?_push,if_neg (by omega)]
theorem Grew.new {w w' : World} {o : Obj} (g : Grew w w' o) : w'.heap[w.heap.size]? = some o := by
  rw [g.heap,Array.getElem?_push,if_pos rfl]
theorem WR.add {E : Emb} {h : Heap} {w w' : World} (hw : WR E h w) {o : AObj} {ob : Obj} (g : Grew w w' ob) {en : Ent} (hb : en.block = w.heap.size)
    (ho : Jc (E.more h.next en) w' en o) : WR (E.more h.next en) (h.add o) w' ∧ Stp E h w (E.more h.next en) (h.add o) w' := by
  have hext := Emb.more_ext hw en
  constructor
  · constructor
    · intro id e1 o1 h1 h2
      by_cases hi : id = h.next
      · subst hi
        rw [Emb.more_same] at h1; cases h1
        rw [Heap.get_add,if_pos rfl] at h2; cases h2
        exact ho
      · rw [Emb.more_ne _ _ hi] at h1
        rw [Heap.get_add,if_neg hi] at h2
        have := hw.obj id e1 o1 h1 h2
        exact this.mono hext (g.old this.lt)
    · intro id id' e1 e2 o1 o2 hne h1 h2 h3 h4 hr
      by_cases hi : id = h.next
      · subst hi
        rw [Emb.more_same] at h1; cases h1
        have hi' : id' ≠ h.next := fun x => hne x.symm
        rw [Emb.more_ne _ _ hi'] at h2
        rw [Heap.get_add,if_neg hi'] at h4
        have := (hw.obj id' e2 o2 h2 h4).lt
        omega
      · rw [Emb.more_ne _ _ hi] at h1
        rw [Heap.get_add,if_neg hi] at h3
        by_cases hi' : id' = h.next
        · subst hi'
          rw [Emb.more_same] at h2; cases h2
          have := (hw.obj id e1 o1 h1 h3).lt
          omega
        · rw [Emb.more_ne _ _ hi'] at h2
          rw [Heap.get_add,if_neg hi'] at h4
          exact hw.inj id id' e1 e2 o1 o2 hne h1 h2 h3 h4 hr
    · intro id e1 h1
      rw [Heap.next_add]
      by_cases hi : id = h.next
      · omega
      · rw [Emb.more_ne _ _ hi] at h1
        have := hw.dom id e1 h1
        omega
  · constructor
    · exact hext
    · intro id hi hn
      rw [Emb.more_ne _ _ (by omega),Heap.get_add,if_neg (by omega)]
      exact ⟨hn,rfl⟩
    · rw [Heap.next_add]; omega
    · intro id hi hn
      rw [Heap.get_add,if_neg (by omega)]; exact hn
    · intro id o1 o2 x y
      rw [Heap.get_add,if_neg (by have := Heap.get_lt x; omega),x] at y
      cases y; rfl
    · rintro b ⟨id,e1,o1,h1,h2,h3,rfl⟩
      by_cases hi : id = h.next
      · subst hi
        rw [Emb.more_same] at h1; cases h1
        right; omega
      · rw [Emb.more_ne _ _ hi] at h1
        rw [Heap.get_add,if_neg hi] at h2
        exact .inl ⟨id,e1,o1,h1,h2,h3,rfl⟩
    · rw [g.heap]; simp
    · intro b hb _; exact g.old hb
    · exact g.os
    · exact g.tape
    · exact g.output
structure Turned (w w' : World) (b : Nat) : Prop where
  size : w'.heap.size = w.heap.size
  old : ∀ i,i ≠ b → w'.heap[i]? = w.heap[i]?
  os : w'.os = w.os
  tape : w'.tape = w.tape
  output : w'.output = w.output
theorem WR.put {E : Emb} {h : Heap} {w w' : World} (hw : WR E h w) {id : Nat} {en : Ent} {o o' : AObj} (h1 : E id = some en) (h2 : h.get id = some o) (hr : o.rw = true) (hr' : o'.rw = true)
    (g : Turned w w' en.block) (ho : Jc E w' en o') : WR E (h.put id (some o')) w' ∧ Stp E h w E (h.put id (some o')) w' := by
  have hown : Own E h en.block := ⟨id,en,o,h1,h2,hr,rfl⟩
  constructor
  · constructor
    · intro i e1 o1 x y
      rw [Heap.get_put h2 hr] at y
      by_cases hi : i = id
      · subst hi; rw [if_pos rfl] at y; cases y; rw [h1] at x; cases x; exact ho
      · rw [if_neg hi] at y
        have hne := hw.inj id i en e1 o o1 (fun z => hi z.symm) h1 x h2 y hr
        exact (hw.obj i e1 o1 x y).mono (fun _ _ z => z) (g.old _ (fun z => hne z.symm))
    · intro i i' e1 e2 o1 o2 hne x1 x2 y1 y2 z
      rw [Heap.get_put h2 hr] at y1 y2
      by_cases hi : i = id
      · subst hi
        rw [if_neg (fun q => hne q.symm)] at y2
        rw [h1] at x1; cases x1
        exact hw.inj i i' _ e2 o o2 hne h1 x2 h2 y2 hr
      · rw [if_neg hi] at y1
        by_cases hi' : i' = id
        · subst hi'
          rw [h1] at x2; cases x2
          exact hw.inj i i' e1 _ o1 o hne x1 h1 y1 h2 z
        · rw [if_neg hi'] at y2
          exact hw.inj i i' e1 e2 o1 o2 hne x1 x2 y1 y2 z
    · intro i e1 x; rw [Heap.next_put]; exact hw.dom i e1 x
  · constructor
    · exact fun _ _ x => x
    · intro i hi hn
      rw [Heap.get_put h2 hr,if_neg (fun q => by subst q; rw [h1] at hn; cases hn)]
      exact ⟨hn,rfl⟩
    · rw [Heap.next_put]; exact Nat.le_refl _
    · intro i hi hn
      rw [Heap.get_put h2 hr,if_neg (fun q => by subst q; rw [h2] at hn; cases hn)]; exact hn
    · intro i o1 o2 x y
      rw [Heap.get_put h2 hr] at y
      by_cases hi : i = id
      · subst hi; rw [if_pos rfl] at y; cases y; rw [h2] at x; cases x; rw [hr,hr']
      · rw [if_neg hi,x] at y; cases y; rfl
    · rintro b ⟨i,e1,o1,x1,x2,x3,rfl⟩
      rw [Heap.get_put h2 hr] at x2
      by_cases hi : i = id
      · subst hi; rw [h1] at x1; cases x1; exact .inl hown
      · rw [if_neg hi] at x2; exact .inl ⟨i,e1,o1,x1,x2,x3,rfl⟩
    · rw [g.size]; exact Nat.le_refl _
    · intro b hb hn
      exact g.old b (fun q => by subst q; exact hn hown)
    · exact g.os
    · exact g.tape
    · exact g.output
theorem WR.kill {E : Emb} {h : Heap} {w : World} (hw : WR E h w) {id : Nat} {en : Ent} {o : AObj} (h1 : E id = some en) (h2 : h.get id = some o) (hr : o.rw = true) :
    WR E (h.put id none) w ∧ Stp E h w E (h.put id none) w ∧ ∀ i e1 o1,E i = some e1 → (h.put id none).get i = some o1 → e1.block ≠ en.block := by
  have hg : ∀ i,(h.put id none).get i = if i = id then none else h.get i := Heap.get_put h2 hr none
  refine ⟨⟨?_,?_,?_⟩,⟨?_,?_,?_,?_,?_,?_,?_,?_,rfl,rfl,rfl⟩,?_⟩
  · intro i e1 o1 x y
    rw [hg] at y
    by_cases hi : i = id
    · rw [if_pos hi] at y; cases y
    · rw [if_neg hi] at y; exact hw.obj i e1 o1 x y
  · intro i i' e1 e2 o1 o2 hne x1 x2 y1 y2 z
    rw [hg] at y1 y2
    by_cases hi : i = id
    · rw [if_pos hi] at y1; cases y1
    · by_cases hi' : i' = id
      · rw [if_pos hi'] at y2; cases y2
      · rw [if_neg hi] at y1; rw [if_neg hi'] at y2; exact hw.inj i i' e1 e2 o1 o2 hne x1 x2 y1 y2 z
  · intro i e1 x; rw [Heap.next_put]; exact hw.dom i e1 x
  · exact fun _ _ x => x
  · intro i hi hn
    rw [hg,if_neg (fun q => by subst q; rw [h1] at hn; cases hn)]
    exact ⟨hn,rfl⟩
  · rw [Heap.next_put]; exact Nat.le_refl _
  · intro i hi hn
    rw [hg]; split
    · rfl
    · exact hn
  · intro i o1 o2 x y
    rw [hg] at y
    by_cases hi : i = id
    · rw [if_pos hi] at y; cases y
    · rw [if_neg hi,x] at y; cases y; rfl
  · rintro b ⟨i,e1,o1,x1,x2,x3,rfl⟩
    rw [hg] at x2
    by_cases hi : i = id
    · rw [if_pos hi] at x2; cases x2
    · rw [if_neg hi] at x2; exact .inl ⟨i,e1,o1,x1,x2,x3,rfl⟩
  · exact Nat.le_refl _
  · intro _ _ _; rfl
  · intro i e1 o1 x1 x2 x4
    rw [hg] at x2
    by_cases hi : i = id
    · rw [if_pos hi] at x2; cases x2
    · rw [if_neg hi] at x2
      exact hw.inj id i en e1 o o1 (fun q => hi q.symm) h1 x1 h2 x2 hr x4.symm
theorem WR.swap {E : Emb} {h : Heap} {w w' : World} (hw : WR E h w) {id : Nat} {en en' : Ent} {o o' : AObj} (h1 : E id = some en) (h2 : h.get id = some o) (hr : o.rw = true)
    (hb : en'.block = en.block) (g : Turned w w' en.block) (ho : Jc (E.more h.next en') w' en' o') :
    WR (E.more h.next en') ((h.put id none).add o') w' ∧ Stp E h w (E.more h.next en') ((h.put id none).add o') w' := by
  obtain ⟨kw,ks,kn⟩ := hw.kill h1 h2 hr
  have hnx : (h.put id none).next = h.next := Heap.next_put _ _ _
  have hext := Emb.more_ext hw en'
  have hown : Own E h en.block := ⟨id,en,o,h1,h2,hr,rfl⟩
  have hg : ∀ i,((h.put id none).add o').get i = if i = h.next then some o' else (h.put id none).get i := fun i => by rw [Heap.get_add,hnx]
  constructor
  · constructor
    · intro i e1 o1 x y
      rw [hg] at y
      by_cases hi : i = h.next
      · subst hi
        rw [Emb.more_same] at x; cases x
        rw [if_pos rfl] at y; cases y
        exact ho
      · rw [Emb.more_ne _ _ hi] at x
        rw [if_neg hi] at y
        exact (kw.obj i e1 o1 x y).mono hext (g.old _ (kn i e1 o1 x y))
    · intro i i' e1 e2 o1 o2 hne x1 x2 y1 y2 z
      rw [hg] at y1 y2
      by_cases hi : i = h.next
      · subst hi
        rw [Emb.more_same] at x1; cases x1
        have hi' : i' ≠ h.next := fun q => hne q.symm
        rw [Emb.more_ne _ _ hi'] at x2
        rw [if_neg hi'] at y2
        have := kn i' e2 o2 x2 y2
        intro q; exact this (by rw [← q,hb])
      · rw [Emb.more_ne _ _ hi] at x1
        rw [if_neg hi] at y1
        by_cases hi' : i' = h.next
        · subst hi'
          rw [Emb.more_same] at x2; cases x2
          have := kn i e1 o1 x1 y1
          intro q; exact this (by rw [q,hb])
        · rw [Emb.more_ne _ _ hi'] at x2
          rw [if_neg hi'] at y2
          exact kw.inj i i' e1 e2 o1 o2 hne x1 x2 y1 y2 z
    · intro i e1 x
      rw [Heap.next_add,hnx]
      by_cases hi : i = h.next
      · omega
      · rw [Emb.more_ne _ _ hi] at x
        have := hw.dom i e1 x
        omega
  · constructor
    · exact hext
    · intro i hi hn
      obtain ⟨p,q⟩ := ks.out i hi hn
      rw [Emb.more_ne _ _ (by omega),hg,if_neg (by omega)]
      exact ⟨hn,q⟩
    · rw [Heap.next_add,hnx]; omega
    · intro i hi hn
      rw [hg,if_neg (by omega)]; exact ks.dead i hi hn
    · intro i o1 o2 x y
      rw [hg,if_neg (by have := Heap.get_lt x; omega)] at y
      exact ks.rw i o1 o2 x y
    · rintro b ⟨i,e1,o1,x1,x2,x3,rfl⟩
      rw [hg] at x2
      by_cases hi : i = h.next
      · subst hi
        rw [Emb.more_same] at x1; cases x1
        left; rw [hb]; exact hown
      · rw [Emb.more_ne _ _ hi] at x1
        rw [if_neg hi] at x2
        exact ks.own _ ⟨i,e1,o1,x1,x2,x3,rfl⟩
    · rw [g.size]; exact Nat.le_refl _
    · intro b hb' hn
      exact g.old b (fun q => by subst q; exact hn hown)
    · exact g.os
    · exact g.tape
    · exact g.output
end Go.Dx
