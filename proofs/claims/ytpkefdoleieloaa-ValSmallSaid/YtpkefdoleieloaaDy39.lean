/- A deterministic reading of the model's code: a call of one address, of cells that stay, from a heap of those cells alone: from every heap that has them it is so, what is new moved behind what is there. -/
import Derived.Test.YtpkefdoleieloaaDy38
namespace Go.Dx
set_option linter.unusedVariables false
set_option linter.unusedSimpArgs false
def no0 : Nat → Value → Bool
  | _,.pointer (some ⟨id,_,none⟩) => !(id.beq 0)
  | _,.slice (some ⟨id,_,none⟩) _ _ => !(id.beq 0)
  | _,.map (some id) => !(id.beq 0)
  | n + 1,.agg ⟨cs⟩ => cs.all (no0 n)
  | n + 1,.tuple ⟨cs⟩ => cs.all (no0 n)
  | _,.agg _ => false
  | _,.tuple _ => false
  | _,.func _ _ _ => false
  | _,_ => true
def E0 (E : Emb) : Emb := fun i => if i = 0 then none else E i
theorem no0_at {E : Emb} {id : Nat} {en : Ent} (h : (!(id.beq 0)) = true) (he : E id = some en) : E0 E id = some en := by
  have : id ≠ 0 := fun e => by subst e; cases h
  unfold E0; rw [if_neg this]; exact he
theorem VR.no0 {E : Emb} : ∀ (n : Nat) (v v' : Value),no0 n v = true → VR E v v' → VR (E0 E) v v' := by
  intro n
  induction n with
  | zero =>
    intro v v' ho hv
    cases hv with
    | bool b => exact .bool _
    | int a b => exact .int _ _
    | str s => exact .str _
    | pnil => exact .pnil
    | ptr id off en h1 h2 => exact .ptr _ _ _ (no0_at ho h1) h2
    | snil => exact .snil
    | sl id off len cap en a' cap' h1 h2 h3 h4 h5 h6 => exact .sl _ _ _ _ _ _ _ (no0_at ho h1) h2 h3 h4 h5 h6
    | mnil => exact .mnil
    | mp id en h1 h2 => exact .mp _ _ (no0_at ho h1) h2
    | nilF => exact .nilF
    | nilI => exact .nilI
    | fn f a a' b b' h1 h2 => simp [Dx.no0] at ho
    | agg a a' h1 => simp [Dx.no0] at ho
    | tup a a' h1 => simp [Dx.no0] at ho
  | succ n ih =>
    have hl : ∀ (l l' : List Value),l.all (Dx.no0 n) = true → VRL E l l' → VRL (E0 E) l l' := by
      intro l
      induction l with
      | nil => intro l' _ q; cases q; exact .nil
      | cons c l ih2 =>
        intro l' q1 q2
        simp only [List.all_cons,Bool.and_eq_true] at q1
        cases q2 with
        | cons _ c' _ l2 r1 r2 => exact .cons _ _ _ _ (ih c c' q1.1 r1) (ih2 l2 q1.2 r2)
    intro v v' ho hv
    cases hv with
    | bool b => exact .bool _
    | int a b => exact .int _ _
    | str s => exact .str _
    | pnil => exact .pnil
    | ptr id off en h1 h2 => exact .ptr _ _ _ (no0_at ho h1) h2
    | snil => exact .snil
    | sl id off len cap en a' cap' h1 h2 h3 h4 h5 h6 => exact .sl _ _ _ _ _ _ _ (no0_at ho h1) h2 h3 h4 h5 h6
    | mnil => exact .mnil
    | mp id en h1 h2 => exact .mp _ _ (no0_at ho h1) h2
    | nilF => exact .nilF
    | nilI => exact .nilI
    | fn f a a' b b' h1 h2 => simp [Dx.no0] at ho
    | agg a a' h1 =>
      simp only [Dx.no0] at ho
      exact .agg _ _ (hl _ _ ho h1)
    | tup a a' h1 =>
      simp only [Dx.no0] at ho
      exact .tup _ _ (hl _ _ ho h1)
def okO1 : AObj → Bool
  | .cells vs e ro => !ro && (vs.all (Uq 1) && vs.all (no0 1))
  | .map _ => false
def gk (h0 : Heap) (i : Nat) : Option AObj := match h0.get i with
  | some o => bif okO1 o then some o else none
  | none => none
theorem gk_some {h0 : Heap} {i : Nat} {o : AObj} (h : gk h0 i = some o) : h0.get i = some o ∧ okO1 o = true := by
  unfold gk at h
  split at h
  · rename_i o' ho
    cases hk : okO1 o' with
    | true => rw [hk] at h; cases h; exact ⟨ho,hk⟩
    | false => rw [hk] at h; cases h
  · cases h
def moved1 (h h0 : Heap) : Nat → Heap
  | 0 => h
  | m + 1 => match gk h0 (m + 1) with
    | some o => (moved1 h h0 m).add (shO (h.next - 1) o)
    | none => ((moved1 h h0 m).add (.cells [] 0 false)).put (moved1 h h0 m).next none
theorem Zm (h h0 : Heap) : ∀ m,(moved1 h h0 m).next = h.next + m
  | 0 => rfl
  | m + 1 => by
    unfold moved1
    split
    · rw [Heap.next_add,Zm h h0 m]; omega
    · rw [Heap.next_put,Heap.next_add,Zm h h0 m]; omega
theorem Jz (h h0 : Heap) : ∀ m j,(moved1 h h0 m).get j = if j < h.next then h.get j else if j < h.next + m then (gk h0 (j - h.next + 1)).map (shO (h.next - 1)) else none
  | 0,j => by
    unfold moved1
    split
    · rfl
    · rw [if_neg (by omega),Heap.get_none (by omega)]
  | m + 1,j => by
    unfold moved1
    have hn := Zm h h0 m
    have ih := Jz h h0 m j
    split
    · rename_i o ho
      rw [Heap.get_add,hn]
      by_cases hj : j = h.next + m
      · subst hj
        rw [if_pos rfl,if_neg (by omega),if_pos (by omega),show h.next + m - h.next = m by omega,ho]; rfl
      · rw [if_neg hj,ih]
        by_cases h1 : j < h.next
        · rw [if_pos h1,if_pos h1]
        · rw [if_neg h1,if_neg h1]
          by_cases h2 : j < h.next + m
          · rw [if_pos h2,if_pos (by omega)]
          · rw [if_neg h2,if_neg (by omega)]
    · rename_i ho
      have ga : ((moved1 h h0 m).add (.cells [] 0 false)).get (moved1 h h0 m).next = some (.cells [] 0 false) := Qs _ _
      rw [Heap.get_put ga rfl,Heap.get_add,hn]
      by_cases hj : j = h.next + m
      · subst hj
        rw [if_pos rfl,if_neg (by omega),if_pos (by omega),show h.next + m - h.next = m by omega,ho]; rfl
      · rw [if_neg hj,if_neg hj,ih]
        by_cases h1 : j < h.next
        · rw [if_pos h1,if_pos h1]
        · rw [if_neg h1,if_neg h1]
          by_cases h2 : j < h.next + m
          · rw [if_pos h2,if_pos (by omega)]
          · rw [if_neg h2,if_neg (by omega)]
theorem okO1_rw {o : AObj} (h : okO1 o = true) : o.rw = true ∧ okO o = true := by
  cases o with
  | cells vs e ro => simp only [okO1,Bool.and_eq_true] at h; exact ⟨h.1,by simp only [okO,Bool.and_eq_true]; exact ⟨h.1,h.2.1⟩⟩
  | map es => simp [okO1] at h
theorem Za.no0 {E : Emb} {w : World} {en : Ent} {o : AObj} (ho : okO1 o = true) (h : Za E w en o) : Za (E0 E) w en o := by
  cases o with
  | map es => simp [okO1] at ho
  | cells vs esz ro =>
    obtain ⟨a1,a2,a3,a4,c,el,fr,b1,b2,b3,b4⟩ := h
    simp only [okO1,Bool.and_eq_true] at ho
    refine ⟨a1,a2,a3,a4,c,el,fr,b1,b2,fun i v hv => ?_,b4⟩
    obtain ⟨v',q1,q2⟩ := b3 i v hv
    exact ⟨v',q1,VR.no0 1 _ _ (List.all_eq_true.1 ho.2.2 _ (List.mem_of_getElem? hv)) q2⟩
theorem Za.plain {E E2 : Emb} {w : World} {en : Ent} {vs : List Value} {ez : Nat} {ro : Bool} (hc : vs.all (Yr 3) = true) (h : Za E w en (.cells vs ez ro)) : Za E2 w en (.cells vs ez ro) := by
  obtain ⟨a1,a2,a3,a4,c,el,fr,b1,b2,b3,b4⟩ := h
  refine ⟨a1,a2,a3,a4,c,el,fr,b1,b2,fun i v hv => ?_,b4⟩
  obtain ⟨v',q1,q2⟩ := b3 i v hv
  have hf := List.all_eq_true.1 hc _ (List.mem_of_getElem? hv)
  exact ⟨v',q1,by rw [Gg 3 v v' hf q2]; exact Zk 3 _ hf⟩
theorem Za.kept1 {E E2 : Emb} (hE : ∀ id en,E id = some en → E2 id = some en) {w w' : World} {en : Ent} (hf : en.block < w.heap.size → w'.heap[en.block]? = w.heap[en.block]?) {o : AObj} (h : Za E w en o) : Za E2 w' en o ∧ en.block < w.heap.size := by
  cases o with
  | cells vs esz ro =>
    obtain ⟨a1,a2,a3,a4,c,el,fr,b1,b2,b3,b4⟩ := h
    have hb := (Array.getElem?_eq_some_iff.1 b1).1
    refine ⟨⟨a1,a2,a3,a4,c,el,fr,by rw [hf hb]; exact b1,b2,fun i v hv => ?_,b4⟩,hb⟩
    obtain ⟨v',q1,q2⟩ := b3 i v hv
    exact ⟨v',q1,q2.mono hE⟩
  | map es =>
    obtain ⟨a1,a2,es',ck,b1,b2⟩ := h
    have hb := (Array.getElem?_eq_some_iff.1 b1).1
    exact ⟨⟨a1,a2,es',ck,by rw [hf hb]; exact b1,EsR.mono hE b2⟩,hb⟩
def heap1 (cs : List Value) (ez : Nat) : Heap := Heap.empty.add (.cells cs ez false)
variable {P : Program}
theorem Fn.moved1 {f : Nat} {cs : List Value} {ez : Nat} {v0 : Value} {h1 : Heap} {n : Nat} (hf : Fn P f [.pointer (some ⟨0,0,none⟩)] (heap1 cs ez) fun v h => v = v0 ∧ h = h1) (hc : cs.all (Yr 3) = true) (hk : h1.get 0 = some (.cells cs ez false)) (hv : Uq n v0 = true) (hv0 : no0 n v0 = true) {h : Heap} {p : Nat} (g : h.get p = some (.cells cs ez false)) :
    Fn P f [.pointer (some ⟨p,0,none⟩)] h fun v h' => v = shV n (h.next - 1) v0 ∧ h' = Dx.moved1 h h1 (h1.next - 1) := by
  have hpn := Heap.get_lt g
  refine ⟨hf.1,fun E w args' hw hargs => ?_⟩
  obtain ⟨v',en,rfl,hEp,hmp,hv'⟩ : ∃ v' en,args' = [v'] ∧ E p = some en ∧ en.mp = false ∧ v' = .pointer (some ⟨en.block,en.base + 0,none⟩) := by
    cases hargs with
    | cons _ v' _ l q1 q2 =>
      cases q2
      cases q1 with
      | ptr id off en a b => exact ⟨_,en,rfl,a,b,rfl⟩
  subst hv'
  have g0 : (heap1 cs ez).get 0 = some (.cells cs ez false) := Qs Heap.empty _
  have hobj := hw.obj p en _ hEp g
  obtain ⟨Ei,hEi⟩ : ∃ Ei : Emb,Ei = fun i => if i = 0 then some en else none := ⟨_,rfl⟩
  have hEi0 : Ei 0 = some en := by subst hEi; exact if_pos rfl
  have hEiz : ∀ {id e},Ei id = some e → id = 0 ∧ e = en := fun {id e} q => by
    subst hEi
    by_cases hz : id = 0
    · simp only [if_pos hz] at q; cases q; exact ⟨hz,rfl⟩
    · simp only [if_neg hz] at q; cases q
  have wr0 : WR Ei (heap1 cs ez) w := by
    refine ⟨fun id e o q1 q2 => ?_,fun id id' e e' o o' hne q1 q2 _ _ _ => absurd ((hEiz q1).1.trans (hEiz q2).1.symm) hne,fun id e q => ?_⟩
    · obtain ⟨rfl,rfl⟩ := hEiz q1
      rw [g0] at q2; cases q2
      exact Za.plain hc hobj
    · rw [(hEiz q).1]; exact Nat.zero_lt_one
  refine (hf.2 Ei w _ wr0 (.cons _ _ _ _ (.ptr 0 0 en hEi0 hmp) .nil)).mono ?_
  rintro en' w' ⟨v,h',E',v',⟨rfl,rfl⟩,rfl,hvr,hw',hs⟩
  have hown0 : ∀ b,Own Ei (heap1 cs ez) b → b = en.block := by
    rintro b ⟨id,e,o,q1,q2,q3,rfl⟩
    rw [(hEiz q1).2]
  have hfr : ∀ b,b < w.heap.size → b ≠ en.block → w'.heap[b]? = w.heap[b]? := fun b hb hne => hs.fr b hb fun q => hne (hown0 b q)
  have hE'0 : E' 0 = some en := hs.ext 0 en hEi0
  have hE1 : ∀ id e,E id = some e → (fun i => if i < h.next then E i else E' (i - (h.next - 1))) id = some e := fun id e q => by
    simp only [if_pos (hw.dom id e q)]; exact q
  have hE2 : ∀ id e,E0 E' id = some e → (fun i => if i < h.next then E i else E' (i - (h.next - 1))) (id + (h.next - 1)) = some e := fun id e q => by
    have hz : id ≠ 0 := fun e => by subst e; simp [E0] at q
    unfold E0 at q
    rw [if_neg hz] at q
    simp only [if_neg (show ¬ id + (h.next - 1) < h.next by omega),Nat.add_sub_cancel]; exact q
  have hnew : ∀ id e o,¬ id < h.next → E' (id - (h.next - 1)) = some e → (Dx.moved1 h h' (h'.next - 1)).get id = some o → ∃ o0,h'.get (id - (h.next - 1)) = some o0 ∧ o = shO (h.next - 1) o0 ∧ okO1 o0 = true ∧ w.heap.size ≤ e.block := by
    intro id e o hid he hg
    rw [Jz,if_neg hid] at hg
    split at hg
    · rename_i hlt
      obtain ⟨o0,q1,q2⟩ := Option.map_eq_some_iff.1 hg
      rw [show id - h.next + 1 = id - (h.next - 1) by omega] at q1
      obtain ⟨q1,hok⟩ := gk_some q1
      refine ⟨o0,q1,q2.symm,hok,?_⟩
      rcases hs.own e.block ⟨_,e,o0,he,q1,(okO1_rw hok).1,rfl⟩ with q | q
      · exact absurd (hown0 _ q) (hw'.inj (id - (h.next - 1)) 0 e en o0 _ (by omega) he hE'0 q1 hk (okO1_rw hok).1)
      · exact q
    · cases hg
  have hold : ∀ id,id < h.next → (Dx.moved1 h h' (h'.next - 1)).get id = h.get id := fun id hid => by rw [Jz,if_pos hid]
  have hkept : ∀ id e o,id < h.next → E id = some e → h.get id = some o → Za (fun i => if i < h.next then E i else E' (i - (h.next - 1))) w' e o ∧ e.block < w.heap.size := by
    intro id e o hid he hg
    by_cases hp : id = p
    · subst hp
      rw [hEp] at he; cases he
      rw [g] at hg; cases hg
      exact ⟨Za.plain hc (hw'.obj 0 en _ hE'0 hk),(Za.kept1 (fun _ _ q => q) (fun _ => rfl) hobj).2⟩
    · exact Za.kept1 hE1 (fun hb => hfr _ hb fun q => hw.inj p id en e _ _ (fun q => hp q.symm) hEp he g hg rfl q.symm) (hw.obj id e o he hg)
  refine ⟨_,_,fun i => if i < h.next then E i else E' (i - (h.next - 1)),v',⟨rfl,rfl⟩,rfl,shV_ok hE2 n _ _ hv (VR.no0 n _ _ hv0 hvr),⟨?_,?_,?_⟩,?_⟩
  · intro id e o he hg
    by_cases hid : id < h.next
    · simp only [if_pos hid] at he
      rw [hold id hid] at hg
      exact (hkept id e o hid he hg).1
    · simp only [if_neg hid] at he
      obtain ⟨o0,q1,rfl,q3,_⟩ := hnew id e o hid he hg
      exact Za.moved hE2 (okO1_rw q3).2 (Za.no0 q3 (hw'.obj _ e o0 he q1))
  · intro id id' e e' o o' hne he he' hg hg' hr
    by_cases hid : id < h.next
    · simp only [if_pos hid] at he
      rw [hold id hid] at hg
      have hb := (hkept id e o hid he hg).2
      by_cases hid' : id' < h.next
      · simp only [if_pos hid'] at he'
        rw [hold id' hid'] at hg'
        exact hw.inj id id' e e' o o' hne he he' hg hg' hr
      · simp only [if_neg hid'] at he'
        obtain ⟨_,_,_,_,q⟩ := hnew id' e' o' hid' he' hg'
        omega
    · simp only [if_neg hid] at he
      obtain ⟨o0,q1,rfl,q3,q4⟩ := hnew id e o hid he hg
      by_cases hid' : id' < h.next
      · simp only [if_pos hid'] at he'
        rw [hold id' hid'] at hg'
        have hb := (hkept id' e' o' hid' he' hg').2
        omega
      · simp only [if_neg hid'] at he'
        obtain ⟨o1,r1,rfl,r3,r4⟩ := hnew id' e' o' hid' he' hg'
        exact hw'.inj (id - (h.next - 1)) (id' - (h.next - 1)) e e' o0 o1 (by omega) he he' q1 r1 (okO1_rw q3).1
  · intro id e he
    rw [Zm]
    by_cases hid : id < h.next
    · omega
    · simp only [if_neg hid] at he
      have := hw'.dom _ e he
      omega
  · refine ⟨hE1,fun id hid q => ⟨by simp only [if_pos hid]; exact q,hold id hid⟩,by rw [Zm]; omega,fun id hid q => by rw [hold id hid]; exact q,fun id o o' q1 q2 => ?_,?_,hs.size,fun b hb hn => hfr b hb fun e => hn ⟨p,en,_,hEp,g,rfl,e.symm⟩,hs.os,hs.tape,hs.output⟩
    · rw [hold id (Heap.get_lt q1),q1] at q2
      cases q2; rfl
    · rintro b ⟨id,e,o,he,hg,hr,rfl⟩
      by_cases hid : id < h.next
      · simp only [if_pos hid] at he
        rw [hold id hid] at hg
        exact .inl ⟨id,e,o,he,hg,hr,rfl⟩
      · simp only [if_neg hid] at he
        obtain ⟨_,_,_,_,q⟩ := hnew id e o hid he hg
        exact .inr q
theorem moved1_ext (h h0 : Heap) (m : Nat) : Xk h (moved1 h h0 m) := ⟨by rw [Zm]; omega,fun i hi _ => by rw [Jz,if_pos hi]⟩
theorem moved1_at {h h0 : Heap} {m i : Nat} {o : AObj} (h1 : 1 ≤ i) (hi : i ≤ m) (ho : gk h0 i = some o) (hn : 1 ≤ h.next) : At (moved1 h h0 m) (i + (h.next - 1)) (shO (h.next - 1) o) := by
  show (moved1 h h0 m).get (i + (h.next - 1)) = _
  rw [Jz,if_neg (by omega),if_pos (by omega),show i + (h.next - 1) - h.next + 1 = i by omega,ho]; rfl
end Go.Dx
