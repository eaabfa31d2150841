/- A deterministic reading of the model's code: reading and writing cells. -/
import Derived.Test.YtpkefdoleieloaaCsz3
namespace Go.Dx
set_option linter.unusedVariables false
set_option linter.unusedSimpArgs false
theorem cell_of {E : Emb} {w : World} {en : Ent} {vs : List Value} {e : Nat} {ro : Bool} (ho : Jc E w en (.cells vs e ro)) {i : Nat} {v : Value} (hv : vs[i]? = some v) :
    ∃ v',w.cell? ⟨en.block,en.base + i,none⟩ = some v' ∧ VR E v v' := by
  obtain ⟨_,_,_,_,c,el,fr,h5,_,h7,_⟩ := ho
  obtain ⟨v',hv',hr⟩ := h7 i v hv
  exact ⟨v',by simp [World.cell?,h5,hv'],hr⟩
theorem Uq {P : Program} {w : World} {a : Addr} {v : Value} (h : w.cell? a = some v) : (load a).run P w = .ok v w := by
  rw [run_load,h]
theorem Qk (b o i : Nat) : (⟨b,o,none⟩ : Addr).add i = ⟨b,o + i,none⟩ := by
  unfold Addr.add
  split
  · rename_i h; subst h; rfl
  · rfl
theorem run_loadCells {P : Program} {E : Emb} {w : World} {b o : Nat} : ∀ (n i : Nat) (l : List Value) (acc : List Value),l.length = n →
    (∀ j v,l[j]? = some v → ∃ v',w.cell? ⟨b,o + (i + j),none⟩ = some v' ∧ VR E v v') →
    ∃ l',(loadCellsFrom ⟨b,o,none⟩ i n ⟨acc⟩).run P w = .ok ⟨acc ++ l'⟩ w ∧ VRL E l l' := by
  intro n
  induction n with
  | zero => intro i l acc hl _; cases l with
    | nil => exact ⟨[],by simp [loadCellsFrom],.nil⟩
    | cons _ _ => simp at hl
  | succ n ih =>
    intro i l acc hl hc
    cases l with
    | nil => simp at hl
    | cons v l =>
      obtain ⟨v',hv',hr⟩ := hc 0 v rfl
      obtain ⟨l',hl',hrl⟩ := ih (i + 1) l (acc ++ [v']) (by simpa using hl) (fun j u hu => by
        obtain ⟨u',hu',hru⟩ := hc (j + 1) u (by simpa using hu)
        exact ⟨u',by rw [show o + (i + 1 + j) = o + (i + (j + 1)) by omega]; exact hu',hru⟩)
      refine ⟨v' :: l',?_,.cons _ _ _ _ hr hrl⟩
      rw [loadCellsFrom]
      rw [Sem.run_bind,Qk,Uq (by simpa using hv')]
      simp only [Result.andThen_ok]
      have : (#[].push v' : Array Value) = #[v'] := rfl
      rw [show (({ toList := acc } : Array Value).push v') = ⟨acc ++ [v']⟩ by simp]
      rw [hl']
      simp
theorem rd_ok {P : Program} {E : Emb} {h : Heap} {w : World} (hw : WR E h w) {id off n : Nat} {en : Ent} (he : E id = some en) {l : List Value} (hl : rd h id off n = some l) :
    ∃ l',(loadCells ⟨en.block,en.base + off,none⟩ n).run P w = .ok ⟨l'⟩ w ∧ VRL E l l' := by
  unfold rd at hl
  cases hg : h.get id with
  | none => rw [hg] at hl; simp at hl
  | some o =>
    cases o with
    | map es => rw [hg] at hl; simp at hl
    | cells vs e ro =>
      rw [hg] at hl
      simp only at hl
      cases hb : (off + n).ble vs.length with
      | false => rw [hb] at hl; simp at hl
      | true =>
        rw [hb] at hl
        simp only [cond_true,Option.some.injEq] at hl
        have hle : off + n ≤ vs.length := Nat.le_of_ble_eq_true hb
        have ho := hw.obj id en _ he hg
        subst hl
        obtain ⟨l',h1,h2⟩ := run_loadCells (P := P) (E := E) (w := w) (b := en.block) (o := en.base + off) n 0 ((vs.drop off).take n) [] (by simp; omega) (fun j v hv => by
          have hj : vs[off + j]? = some v := by
            rw [List.getElem?_take] at hv
            split at hv
            · rw [List.getElem?_drop] at hv; exact hv
            · cases hv
          obtain ⟨v',hv',hr⟩ := cell_of ho hj
          exact ⟨v',by rw [show en.base + off + (0 + j) = en.base + (off + j) by omega]; exact hv',hr⟩)
        exact ⟨l',by unfold loadCells; simpa using h1,h2⟩
theorem Ke {P : Program} {t : TypeId} {g : Bool} (h : aggT P t = some g) (w : World) : (isAgg t).run P w = .ok g w := by
  unfold aggT at h
  unfold isAgg underlying
  cases hu : P.underlying t with
  | none => rw [hu] at h; simp at h
  | some d =>
    rw [hu] at h
    simp [hu]
    cases d <;> simp_all
theorem Xv {P : Program} {t : TypeId} {n : Nat} (h : Zs P t = some n) (w : World) : (sizeOf t).run P w = .ok n w := by
  unfold Zs at h
  unfold sizeOf typeInfo
  cases hi : P.info? t with
  | none => rw [hi] at h; simp at h
  | some i => rw [hi] at h; simp at h; simp [hi,h]
theorem Wq {P : Program} {t : TypeId} {d : TypeDesc} (h : P.underlying t = some d) (w : World) : (underlying t).run P w = .ok d w := by
  unfold underlying; simp [h]
theorem ldV_ok {P : Program} {E : Emb} {h : Heap} {w : World} (hw : WR E h w) {t : TypeId} {n : Nat} {g : Bool} (hn : Zs P t = some n) (hg : aggT P t = some g) {p p' v : Value}
    (hp : VR E p p') (hv : ldV h n g p = some v) : ∃ v',(Instr.loadAt t p').run P w = .ok v' w ∧ VR E v v' := by
  unfold ldV at hv
  split at hv
  case h_2 => cases hv
  case h_1 id off =>
    cases hp with
    | ptr _ _ en he hm =>
      have hs : ∀ a : Addr,(Instr.sureAddr (.pointer (some a))).run P w = .ok a w := fun a => rfl
      unfold Instr.loadAt loadVar
      simp only [Sem.run_bind,hs,Result.andThen_ok,Ke hg]
      cases g with
      | true =>
        simp only [if_true] at hv ⊢
        cases hr : rd h id off n with
        | none => rw [hr] at hv; simp at hv
        | some l =>
          rw [hr] at hv
          simp at hv
          obtain ⟨l',h1,h2⟩ := rd_ok (P := P) hw he hr
          refine ⟨.agg ⟨l'⟩,?_,?_⟩
          · simp [Xv hn,h1]
          · rw [← hv]; exact .agg _ _ h2
      | false =>
        simp only [Bool.false_eq_true,if_false] at hv ⊢
        cases hgt : h.get id with
        | none => rw [hgt] at hv; simp at hv
        | some o =>
          cases o with
          | map es => rw [hgt] at hv; simp at hv
          | cells vs e ro =>
            rw [hgt] at hv
            simp only at hv
            obtain ⟨v',h1,h2⟩ := cell_of (hw.obj id en _ he hgt) hv
            exact ⟨v',Uq h1,h2⟩
/-! ### Writing -/
def Ym (w : World) (b : Nat) (o : Obj) : World := { w with heap := w.heap.setIfInBounds b o }
theorem Qr (w : World) (b : Nat) (o : Obj) : Turned w (Ym w b o) b :=
  ⟨by simp [Ym],fun i hi => by simp [Ym,Array.getElem?_setIfInBounds]; omega,rfl,rfl,rfl⟩
theorem Vc (w : World) (b : Nat) (o : Obj) (hb : b < w.heap.size) : (Ym w b o).heap[b]? = some o := by
  simp [Ym,Array.getElem?_setIfInBounds,hb]
theorem setBlk_self {w : World} {b : Nat} {o : Obj} (h : w.heap[b]? = some o) : Ym w b o = w := by
  have hb := (Array.getElem?_eq_some_iff.1 h)
  obtain ⟨h1,h2⟩ := hb
  unfold Ym
  have : w.heap.setIfInBounds b o = w.heap := by
    apply Array.ext (by simp)
    intro i h3 h4
    rw [Array.getElem_setIfInBounds]
    split
    · rename_i e; subst e; exact h2.symm
    · rfl
  rw [this]
theorem setBlk_setBlk (w : World) (b : Nat) (o o' : Obj) : Ym (Ym w b o) b o' = Ym w b o' := by
  simp [Ym]
theorem setCell_blk {w : World} {b o : Nat} {v : Value} {c : Array Value} {el : TypeId} {fr : Nat × Nat} (h : w.heap[b]? = some (.cells c el fr)) :
    w.setCell ⟨b,o,none⟩ v = Ym w b (.cells (c.setIfInBounds o v) el fr) := by
  obtain ⟨h1,h2⟩ := Array.getElem?_eq_some_iff.1 h
  unfold World.setCell Ym
  congr 1
  apply Array.ext (by simp)
  intro i h3 h4
  rw [Array.getElem_setIfInBounds,Array.getElem_modify]
  split
  · rename_i e; subst e; rw [h2]; simp
  · rfl
theorem oneCell_of {v : Value} (h : isCell v = true) : v.oneCell' = true := by cases v <;> simp_all [isCell,Value.oneCell']
theorem Za : ∀ (vs l : List Value) (i : Nat),(putL l i vs).length = l.length
  | [],l,i => rfl
  | v :: vs,l,i => by rw [putL,Za vs]; simp
theorem Qd : ∀ (vs l : List Value) (i j : Nat),i + vs.length ≤ l.length → (putL l i vs)[j]? = if i ≤ j ∧ j < i + vs.length then vs[j - i]? else l[j]?
  | [],l,i,j,h => by simp [putL]; omega
  | v :: vs,l,i,j,h => by
    rw [putL,Qd vs _ _ _ (by simp at h ⊢; omega)]
    by_cases h1 : i + 1 ≤ j ∧ j < i + 1 + vs.length
    · rw [if_pos h1,if_pos (by simp; omega)]
      rw [show j - i = (j - (i + 1)) + 1 by omega]; simp
    · rw [if_neg h1]
      by_cases h2 : j = i
      · subst h2
        rw [if_pos (by simp),List.getElem?_set,if_pos rfl]
        simp at h
        rw [if_pos (by omega)]; simp
      · rw [List.getElem?_set,if_neg (fun q => h2 q.symm)]
        rw [if_neg (by simp; omega)]
theorem Jg {P : Program} {b o : Nat} {el : TypeId} {fr : Nat × Nat} : ∀ (l : List Value) (i : Nat) (w : World) (c : List Value),w.heap[b]? = some (.cells ⟨c⟩ el fr) → o + i + l.length ≤ c.length →
    (∀ j,j < l.length → (decide (fr.1 ≤ o + i + j) && decide (o + i + j < fr.2)) = false) → l.all isCell = true →
    (storeCells ⟨b,o,none⟩ l i).run P w = .ok () (Ym w b (.cells ⟨putL c (o + i) l⟩ el fr))
  | [],i,w,c,h,_,_,_ => by
    simp only [storeCells,Sem.run_pure,putL]
    rw [setBlk_self h]
  | v :: l,i,w,c,h,hle,hf,hc => by
    simp only [List.all_cons,Bool.and_eq_true] at hc
    simp only [List.length_cons] at hle
    have hb := (Array.getElem?_eq_some_iff.1 h).1
    have hcell : ∃ u,w.cell? ⟨b,o + i,none⟩ = some u := by
      refine ⟨c[o + i]'(by omega),?_⟩
      simp [World.cell?,h]
    obtain ⟨u,hu⟩ := hcell
    have hfz : w.frozen? ⟨b,o + i,none⟩ = false := by
      have := hf 0 (by simp)
      simp only [World.frozen?,h]
      simpa using this
    rw [storeCells,Sem.run_bind,Qk,run_store P w _ v .plain (oneCell_of hc.1),hu,hfz]
    simp only [Bool.false_eq_true,if_false,Result.andThen_ok]
    rw [setCell_blk h]
    have hs : (c.toArray.setIfInBounds (o + i) v) = ⟨c.set (o + i) v⟩ := by simp
    have h2 : (Ym w b (.cells (({ toList := c } : Array Value).setIfInBounds (o + i) v) el fr)).heap[b]? = some (.cells ⟨c.set (o + i) v⟩ el fr) := by
      rw [Vc _ _ _ hb]
      congr 1
      congr 1
    have := Jg (P := P) (b := b) (o := o) (el := el) (fr := fr) l (i + 1) _ (c.set (o + i) v) h2 (by simp; omega) (fun j hj => by
      have := hf (j + 1) (by simp; omega)
      rw [show o + (i + 1) + j = o + i + (j + 1) by omega]; exact this) hc.2
    rw [this,setBlk_setBlk]
    rfl
theorem wr_ok {P : Program} {E : Emb} {h h' : Heap} {w : World} (hw : WR E h w) {id off : Nat} {en : Ent} (he : E id = some en) {l l' : List Value} (hl : VRL E l l') (hh : wr h id off l = some h') :
    ∃ w',(storeCells ⟨en.block,en.base + off,none⟩ l').run P w = .ok () w' ∧ WR E h' w' ∧ Stp E h w E h' w' := by
  unfold wr at hh
  split at hh
  case h_2 => cases hh
  case h_1 vs e hg =>
    cases hb : (off + l.length).ble vs.length && l.all isCell with
    | false => rw [hb] at hh; simp at hh
    | true =>
      rw [hb] at hh
      simp only [cond_true,Option.some.injEq] at hh
      subst hh
      simp only [Bool.and_eq_true] at hb
      have hle := Nat.le_of_ble_eq_true hb.1
      have ho := hw.obj id en _ he hg
      obtain ⟨h1,h2,h3,h4,c,el,fr,h5,h6,h7,h8⟩ := ho
      have hlen := VRL.length hl
      have hb2 := (Array.getElem?_eq_some_iff.1 h5).1
      have hrun := Jg (P := P) (b := en.block) (o := en.base + off) (el := el) (fr := fr) l' 0 w c.toList h5 (by have := h4.1; have := h4.2; simp; omega) (fun j hj => by
        have q := h8 rfl
        have := h4.1; have := h4.2
        simp only [Bool.and_eq_false_iff,decide_eq_false_iff_not]
        omega) (by rw [VRL.isCell hl]; exact hb.2)
      refine ⟨_,hrun,?_⟩
      refine hw.put he hg rfl rfl (Qr _ _ _) ?_
      refine ⟨h1,h2,h3,by rw [Za]; exact h4,_,el,fr,Vc _ _ _ hb2,?_,?_,?_⟩
      · show en.base + en.lim ≤ (putL c.toList (en.base + off + 0) l').length
        rw [Za]; simpa using h6
      · intro i v hv
        simp only [List.getElem?_toArray]
        rw [Qd _ _ _ _ hle] at hv
        rw [Qd _ _ _ _ (by have := h4.1; have := h4.2; simp; omega)]
        by_cases hi : off ≤ i ∧ i < off + l.length
        · rw [if_pos hi] at hv
          rw [if_pos (by omega)]
          obtain ⟨v',hv',hr⟩ := VRL.get hl hv
          exact ⟨v',by rw [show en.base + i - (en.base + off + 0) = i - off by omega]; exact hv',hr⟩
        · rw [if_neg hi] at hv
          rw [if_neg (by omega)]
          obtain ⟨v',hv',hr⟩ := h7 i v hv
          exact ⟨v',by simpa using hv',hr⟩
      · exact h8
end Go.Dx
