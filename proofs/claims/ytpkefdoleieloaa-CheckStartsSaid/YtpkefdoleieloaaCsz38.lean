/- A deterministic reading of the model's code: a call of what has no address, from the empty heap: from every heap it is so, what is new moved behind what is there. -/
import Derived.Test.YtpkefdoleieloaaCsz37
namespace Go.Dx
set_option linter.unusedVariables false
set_option linter.unusedSimpArgs false
def shV : Nat → Nat → Value → Value
  | n,k,.pointer (some ⟨id,off,none⟩) => .pointer (some ⟨id + k,off,none⟩)
  | n,k,.slice (some ⟨id,off,none⟩) m c => .slice (some ⟨id + k,off,none⟩) m c
  | n,k,.map (some id) => .map (some (id + k))
  | n + 1,k,.agg ⟨cs⟩ => .agg ⟨cs.map (shV n k)⟩
  | n + 1,k,.tuple ⟨cs⟩ => .tuple ⟨cs.map (shV n k)⟩
  | n + 1,k,.func f ⟨a⟩ ⟨b⟩ => .func f ⟨a.map (shV n k)⟩ ⟨b.map (shV n k)⟩
  | n,k,v => v
def Um : Nat → Value → Bool
  | 0,.agg _ => false
  | 0,.tuple _ => false
  | 0,.func _ ⟨[]⟩ ⟨[]⟩ => true
  | 0,.func _ _ _ => false
  | n + 1,.agg ⟨cs⟩ => cs.all (Um n)
  | n + 1,.tuple ⟨cs⟩ => cs.all (Um n)
  | n + 1,.func _ ⟨a⟩ ⟨b⟩ => a.all (Um n) && b.all (Um n)
  | n,v => true
def shO (k : Nat) : AObj → AObj
  | .cells vs e ro => .cells (vs.map (shV 1 k)) e ro
  | .map es => .map (es.map fun x => (x.1,shV 1 k x.2))
def okO : AObj → Bool
  | .cells vs e ro => !ro && vs.all (Um 1)
  | .map es => es.all fun x => Um 1 x.2
def okH (h0 : Heap) : Nat → Bool
  | 0 => true
  | m + 1 => okH h0 m && (match h0.get m with | some o => okO o | none => true)
def moved (h h0 : Heap) : Nat → Heap
  | 0 => h
  | m + 1 => match h0.get m with
    | some o => (moved h h0 m).add (shO h.next o)
    | none => ((moved h h0 m).add (.cells [] 0 false)).put (moved h h0 m).next none
theorem Qn (h h0 : Heap) : ∀ m,(moved h h0 m).next = h.next + m
  | 0 => rfl
  | m + 1 => by
    unfold moved
    split
    · rw [Heap.next_add,Qn h h0 m]; omega
    · rw [Heap.next_put,Heap.next_add,Qn h h0 m]; omega
theorem Vd (h h0 : Heap) : ∀ m j,(moved h h0 m).get j = if j < h.next then h.get j else if j < h.next + m then (h0.get (j - h.next)).map (shO h.next) else none
  | 0,j => by
    unfold moved
    split
    · rfl
    · rw [if_neg (by omega),Heap.get_none (by omega)]
  | m + 1,j => by
    unfold moved
    have hn := Qn h h0 m
    have ih := Vd h h0 m j
    split
    · rename_i o ho
      rw [Heap.get_add,hn]
      by_cases hj : j = h.next + m
      · subst hj
        rw [if_pos rfl,if_neg (by omega),if_pos (by omega),show h.next + m - h.next = m by omega,ho]; rfl
      · rw [if_neg hj,ih]
        by_cases h1 : j < h.next
        · rw [if_pos h1,if_pos h1]
        · rw [if_neg h1,if_neg h1]
          by_cases h2 : j < h.next + m
          · rw [if_pos h2,if_pos (by omega)]
          · rw [if_neg h2,if_neg (by omega)]
    · rename_i ho
      have ga : ((moved h h0 m).add (.cells [] 0 false)).get (moved h h0 m).next = some (.cells [] 0 false) := Jw _ _
      rw [Heap.get_put ga rfl,Heap.get_add,hn]
      by_cases hj : j = h.next + m
      · subst hj
        rw [if_pos rfl,if_neg (by omega),if_pos (by omega),show h.next + m - h.next = m by omega,ho]; rfl
      · rw [if_neg hj,if_neg hj,ih]
        by_cases h1 : j < h.next
        · rw [if_pos h1,if_pos h1]
        · rw [if_neg h1,if_neg h1]
          by_cases h2 : j < h.next + m
          · rw [if_pos h2,if_pos (by omega)]
          · rw [if_neg h2,if_neg (by omega)]
theorem okH_at {h0 : Heap} : ∀ {m : Nat},okH h0 m = true → ∀ i,i < m → ∀ o,h0.get i = some o → okO o = true
  | m + 1,h,i,hi,o,ho => by
    unfold okH at h
    rw [Bool.and_eq_true] at h
    by_cases e : i = m
    · subst e; have := h.2; rw [ho] at this; exact this
    · exact okH_at h.1 i (by omega) o ho
theorem shV_ok {E E2 : Emb} {k : Nat} (hE : ∀ id en,E id = some en → E2 (id + k) = some en) : ∀ (n : Nat) (v v' : Value),Um n v = true → VR E v v' → VR E2 (shV n k v) v' := by
  intro n
  induction n with
  | zero =>
    intro v v' ho hv
    cases hv with
    | bool b => exact .bool _
    | int a b => exact .int _ _
    | str s => exact .str _
    | pnil => exact .pnil
    | ptr id off en h1 h2 => exact .ptr _ _ _ (hE _ _ h1) h2
    | snil => exact .snil
    | sl id off len cap en a' cap' h1 h2 h3 h4 h5 h6 => exact .sl _ _ _ _ _ _ _ (hE _ _ h1) h2 h3 h4 h5 h6
    | mnil => exact .mnil
    | mp id en h1 h2 => exact .mp _ _ (hE _ _ h1) h2
    | nilF => exact .nilF
    | nilI => exact .nilI
    | fn f a a' b b' h1 h2 =>
      have : a = [] ∧ b = [] := by
        unfold Um at ho
        split at ho <;> simp_all
      obtain ⟨rfl,rfl⟩ := this
      cases h1; cases h2
      exact .fn _ _ _ _ _ .nil .nil
    | agg a a' h1 => simp [Um] at ho
    | tup a a' h1 => simp [Um] at ho
  | succ n ih =>
    have hl : ∀ (l l' : List Value),l.all (Um n) = true → VRL E l l' → VRL E2 (l.map (shV n k)) l' := by
      intro l
      induction l with
      | nil => intro l' _ q; cases q; exact .nil
      | cons c l ih2 =>
        intro l' q1 q2
        simp only [List.all_cons,Bool.and_eq_true] at q1
        cases q2 with
        | cons _ c' _ l2 r1 r2 => exact .cons _ _ _ _ (ih c c' q1.1 r1) (ih2 l2 q1.2 r2)
    intro v v' ho hv
    cases hv with
    | bool b => exact .bool _
    | int a b => exact .int _ _
    | str s => exact .str _
    | pnil => exact .pnil
    | ptr id off en h1 h2 => exact .ptr _ _ _ (hE _ _ h1) h2
    | snil => exact .snil
    | sl id off len cap en a' cap' h1 h2 h3 h4 h5 h6 => exact .sl _ _ _ _ _ _ _ (hE _ _ h1) h2 h3 h4 h5 h6
    | mnil => exact .mnil
    | mp id en h1 h2 => exact .mp _ _ (hE _ _ h1) h2
    | nilF => exact .nilF
    | nilI => exact .nilI
    | fn f a a' b b' h1 h2 =>
      simp only [Um,Bool.and_eq_true] at ho
      exact .fn _ _ _ _ _ (hl _ _ ho.1 h1) (hl _ _ ho.2 h2)
    | agg a a' h1 =>
      simp only [Um] at ho
      exact .agg _ _ (hl _ _ ho h1)
    | tup a a' h1 =>
      simp only [Um] at ho
      exact .tup _ _ (hl _ _ ho h1)
theorem EsR.moved {E E2 : Emb} {k : Nat} (hE : ∀ id en,E id = some en → E2 (id + k) = some en) : ∀ {es : List (Value × Value)} {l : List MapEntry},(es.all fun x => Um 1 x.2) = true → EsR E es l → EsR E2 (es.map fun x => (x.1,shV 1 k x.2)) l
  | [],[],_,_ => trivial
  | [],_ :: _,_,h => h.elim
  | _ :: _,[],_,h => h.elim
  | (a,b) :: r,e :: r',ho,h => by
    simp only [List.all_cons,Bool.and_eq_true] at ho
    exact ⟨h.1,h.2.1,shV_ok hE 1 _ _ ho.1 h.2.2.1,EsR.moved hE ho.2 h.2.2.2⟩
theorem okO_rw {o : AObj} (h : okO o = true) : o.rw = true := by
  cases o with
  | cells vs e ro => simp only [okO,Bool.and_eq_true] at h; exact h.1
  | map es => rfl
theorem Jc.moved {E E2 : Emb} {k : Nat} (hE : ∀ id en,E id = some en → E2 (id + k) = some en) {w : World} {en : Ent} {o : AObj} (ho : okO o = true) (h : Jc E w en o) : Jc E2 w en (shO k o) := by
  cases o with
  | cells vs esz ro =>
    obtain ⟨a1,a2,a3,a4,c,el,fr,b1,b2,b3,b4⟩ := h
    simp only [okO,Bool.and_eq_true] at ho
    refine ⟨a1,a2,a3,⟨by rw [List.length_map]; exact a4.1,a4.2⟩,c,el,fr,b1,b2,fun i v hv => ?_,b4⟩
    rw [List.getElem?_map] at hv
    obtain ⟨v0,hv0,rfl⟩ := Option.map_eq_some_iff.1 hv
    obtain ⟨v',q1,q2⟩ := b3 i v0 hv0
    exact ⟨v',q1,shV_ok hE 1 _ _ (List.all_eq_true.1 ho.2 _ (List.mem_of_getElem? hv0)) q2⟩
  | map es =>
    obtain ⟨a1,a2,es',ck,b1,b2⟩ := h
    exact ⟨a1,a2,es',ck,b1,EsR.moved hE ho b2⟩
theorem Jc.kept {E E2 : Emb} (hE : ∀ id en,E id = some en → E2 id = some en) {w w' : World} (hf : ∀ b,b < w.heap.size → w'.heap[b]? = w.heap[b]?) {en : Ent} {o : AObj} (h : Jc E w en o) : Jc E2 w' en o ∧ en.block < w.heap.size := by
  cases o with
  | cells vs esz ro =>
    obtain ⟨a1,a2,a3,a4,c,el,fr,b1,b2,b3,b4⟩ := h
    have hb := (Array.getElem?_eq_some_iff.1 b1).1
    refine ⟨⟨a1,a2,a3,a4,c,el,fr,by rw [hf _ hb]; exact b1,b2,fun i v hv => ?_,b4⟩,hb⟩
    obtain ⟨v',q1,q2⟩ := b3 i v hv
    exact ⟨v',q1,q2.mono hE⟩
  | map es =>
    obtain ⟨a1,a2,es',ck,b1,b2⟩ := h
    have hb := (Array.getElem?_eq_some_iff.1 b1).1
    exact ⟨⟨a1,a2,es',ck,by rw [hf _ hb]; exact b1,EsR.mono hE b2⟩,hb⟩
variable {P : Program}
theorem Fn.moved {f : Nat} {args : List Value} {v0 : Value} {h0 : Heap} {n : Nat} (hf : Fn P f args Heap.empty fun v h => v = v0 ∧ h = h0) (ha : args.all (Yx 3) = true) (hv : Um n v0 = true) (ho : okH h0 h0.next = true) (h : Heap) :
    Fn P f args h fun v h' => v = shV n h.next v0 ∧ h' = Dx.moved h h0 h0.next := by
  refine ⟨hf.1,fun E w args' hw hargs => ?_⟩
  have hargs' : args' = args := by
    have : ∀ (l l' : List Value),l.all (Yx 3) = true → VRL E l l' → l' = l := by
      intro l
      induction l with
      | nil => intro l' _ q; cases q; rfl
      | cons c l ih =>
        intro l' q1 q2
        simp only [List.all_cons,Bool.and_eq_true] at q1
        cases q2 with
        | cons _ c' _ l2 r1 r2 => rw [vfree_eq 3 c c' q1.1 r1,ih l2 q1.2 r2]
    exact this _ _ ha hargs
  subst hargs'
  refine (hf.2 (fun _ => none) w args' (WR.empty w) (Zj 3 _ ha)).mono ?_
  rintro en w' ⟨v,h',E',v',⟨rfl,rfl⟩,rfl,hvr,hw',hs⟩
  have hfr : ∀ b,b < w.heap.size → w'.heap[b]? = w.heap[b]? := fun b hb => hs.fr b hb fun ⟨_,_,_,q,_⟩ => by cases q
  have hE1 : ∀ id en,E id = some en → (fun i => if i < h.next then E i else E' (i - h.next)) id = some en := fun id en q => by
    simp only [if_pos (hw.dom id en q)]; exact q
  have hE2 : ∀ id en,E' id = some en → (fun i => if i < h.next then E i else E' (i - h.next)) (id + h.next) = some en := fun id en q => by
    simp only [if_neg (show ¬ id + h.next < h.next by omega),Nat.add_sub_cancel]; exact q
  -- what is new
  have hnew : ∀ id en o,¬ id < h.next → E' (id - h.next) = some en → (Dx.moved h h' h'.next).get id = some o → ∃ o0,h'.get (id - h.next) = some o0 ∧ o = shO h.next o0 ∧ okO o0 = true ∧ w.heap.size ≤ en.block := by
    intro id en o hid he hg
    rw [Vd,if_neg hid] at hg
    split at hg
    · rename_i hlt
      obtain ⟨o0,q1,q2⟩ := Option.map_eq_some_iff.1 hg
      have hok := okH_at ho (id - h.next) (by omega) o0 q1
      refine ⟨o0,q1,q2.symm,hok,?_⟩
      rcases hs.own en.block ⟨_,en,o0,he,q1,okO_rw hok,rfl⟩ with ⟨_,_,_,q,_⟩ | q
      · cases q
      · exact q
    · cases hg
  have hold : ∀ id,id < h.next → (Dx.moved h h' h'.next).get id = h.get id := fun id hid => by rw [Vd,if_pos hid]
  refine ⟨_,_,fun i => if i < h.next then E i else E' (i - h.next),v',⟨rfl,rfl⟩,rfl,shV_ok hE2 n _ _ hv hvr,⟨?_,?_,?_⟩,?_⟩
  · intro id en o he hg
    by_cases hid : id < h.next
    · simp only [if_pos hid] at he
      rw [hold id hid] at hg
      exact (Jc.kept hE1 hfr (hw.obj id en o he hg)).1
    · simp only [if_neg hid] at he
      obtain ⟨o0,q1,rfl,q3,_⟩ := hnew id en o hid he hg
      exact Jc.moved hE2 q3 (hw'.obj _ en o0 he q1)
  · intro id id' en en' o o' hne he he' hg hg' hr
    by_cases hid : id < h.next
    · simp only [if_pos hid] at he
      rw [hold id hid] at hg
      have hb := (Jc.kept hE1 hfr (hw.obj id en o he hg)).2
      by_cases hid' : id' < h.next
      · simp only [if_pos hid'] at he'
        rw [hold id' hid'] at hg'
        exact hw.inj id id' en en' o o' hne he he' hg hg' hr
      · simp only [if_neg hid'] at he'
        obtain ⟨_,_,_,_,q⟩ := hnew id' en' o' hid' he' hg'
        omega
    · simp only [if_neg hid] at he
      obtain ⟨o0,q1,rfl,q3,q4⟩ := hnew id en o hid he hg
      by_cases hid' : id' < h.next
      · simp only [if_pos hid'] at he'
        rw [hold id' hid'] at hg'
        have hb := (Jc.kept hE1 hfr (hw.obj id' en' o' he' hg')).2
        omega
      · simp only [if_neg hid'] at he'
        obtain ⟨o1,r1,rfl,r3,r4⟩ := hnew id' en' o' hid' he' hg'
        exact hw'.inj (id - h.next) (id' - h.next) en en' o0 o1 (by omega) he he' q1 r1 (okO_rw q3)
  · intro id en he
    rw [Qn]
    by_cases hid : id < h.next
    · omega
    · simp only [if_neg hid] at he
      have := hw'.dom _ en he
      omega
  · refine ⟨hE1,fun id hid q => ⟨by simp only [if_pos hid]; exact q,hold id hid⟩,by rw [Qn]; omega,fun id hid q => by rw [hold id hid]; exact q,fun id o o' q1 q2 => ?_,?_,hs.size,fun b hb _ => hfr b hb,hs.os,hs.tape,hs.output⟩
    · rw [hold id (Heap.get_lt q1),q1] at q2
      cases q2; rfl
    · rintro b ⟨id,en,o,he,hg,hr,rfl⟩
      by_cases hid : id < h.next
      · simp only [if_pos hid] at he
        rw [hold id hid] at hg
        exact .inl ⟨id,en,o,he,hg,hr,rfl⟩
      · simp only [if_neg hid] at he
        obtain ⟨_,_,_,_,q⟩ := hnew id en o hid he hg
        exact .inr q
theorem moved_ext (h h0 : Heap) (m : Nat) : Xe h (moved h h0 m) := ⟨by rw [Qn]; omega,fun i hi _ => by rw [Vd,if_pos hi]⟩
theorem moved_at {h h0 : Heap} {m i : Nat} {o : AObj} (hi : i < m) (ho : h0.get i = some o) : At (moved h h0 m) (h.next + i) (shO h.next o) := by
  show (moved h h0 m).get (h.next + i) = _
  rw [Vd,if_neg (by omega),if_pos (by omega),show h.next + i - h.next = i by omega,ho]; rfl
end Go.Dx
