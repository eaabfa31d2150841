/- A deterministic reading of the model's code: steps of code, one lemma each; slices and their contents. -/
import Derived.Test.YtpkefdoleieloaaCsz23
namespace Go.Dx
set_option linter.unusedVariables false
set_option linter.unusedSimpArgs false
/-! ### What has turned -/
structure Ext (S : Nat → Prop) (h h' : Heap) : Prop where
  next : h.next ≤ h'.next
  get : ∀ i,i < h.next → ¬ S i → h'.get i = h.get i
abbrev Xe (h h' : Heap) : Prop := Ext (fun _ => False) h h'
theorem Ext.refl (S : Nat → Prop) (h : Heap) : Ext S h h := ⟨Nat.le_refl _,fun _ _ _ => rfl⟩
theorem Ext.some {S : Nat → Prop} {h h' : Heap} (x : Ext S h h') {i : Nat} {o : AObj} (hg : h.get i = .some o) (hn : ¬ S i) : h'.get i = .some o := by
  rw [x.get i (Heap.get_lt hg) hn]; exact hg
theorem Ext.trans {S : Nat → Prop} {h h' h'' : Heap} (x : Ext S h h') (y : Ext S h' h'') : Ext S h h'' :=
  ⟨Nat.le_trans x.next y.next,fun i hi hn => by rw [y.get i (Nat.lt_of_lt_of_le hi x.next) hn,x.get i hi hn]⟩
theorem Ext.mono {S S' : Nat → Prop} {h h' : Heap} (x : Ext S h h') (hs : ∀ i,i < h.next → S i → S' i) : Ext S' h h' := ⟨x.next,fun i hi hn => x.get i hi fun q => hn (hs i hi q)⟩
theorem Ext.then {S S' : Nat → Prop} {h h' h'' : Heap} (x : Ext S h h') (y : Ext S' h' h'') (hs : ∀ i,S' i → S i ∨ h.next ≤ i) : Ext S h h'' :=
  ⟨Nat.le_trans x.next y.next,fun i hi hn => by rw [y.get i (Nat.lt_of_lt_of_le hi x.next) (fun q => by rcases hs i q with r | r; exact hn r; omega),x.get i hi hn]⟩
theorem Ext.then0 {S : Nat → Prop} {h h' h'' : Heap} (x : Ext S h h') (y : Xe h' h'') : Ext S h h'' := x.then y fun _ q => q.elim
theorem Ext.of0 {S : Nat → Prop} {h h' : Heap} (x : Xe h h') : Ext S h h' := x.mono fun _ _ q => q.elim
theorem Ext.add (h : Heap) (o : AObj) : Xe h (h.add o) := ⟨by rw [Heap.next_add]; omega,fun i hi _ => by rw [Heap.get_add,if_neg (by omega)]⟩
theorem Jw (h : Heap) (o : AObj) : (h.add o).get h.next = .some o := by rw [Heap.get_add,if_pos rfl]
theorem Ext.put {h : Heap} {i : Nat} {o : AObj} (hi : h.get i = .some o) (hr : o.rw = true) (x : Option AObj) : Ext (· = i) h (h.put i x) :=
  ⟨by rw [Heap.next_put]; exact Nat.le_refl _,fun j _ hj => by rw [Heap.get_put hi hr,if_neg hj]⟩
theorem put_get {h : Heap} {i : Nat} {o : AObj} (hi : h.get i = .some o) (hr : o.rw = true) (x : Option AObj) : (h.put i x).get i = x := by rw [Heap.get_put hi hr,if_pos rfl]
/-! ### Steps of code -/
section
variable {P : Program}
theorem W_cond {c : Arg} {a b : SCode} {e : Env} {h : Heap} {Q : Out → Env → Heap → Prop} {t : Bool} (hc : c.ev e = some (.bool t)) (ha : t = true → W P a e h Q) (hb : t = false → W P b e h Q) : W P (.cond c a b) e h Q := by
  unfold W; rw [hc]; exact ⟨ha,hb⟩
theorem Wg {d : Option Nat} {g : Nat × Bool} {so : SO} {r : List SOp} {e : Env} {h : Heap} {Q : Env → Heap → Prop} (hw : SOp.wanted ⟨d,some g,so⟩ e = some false) (hq : Xd P r (e.put d Xl) h Q) : Xd P (⟨d,some g,so⟩ :: r) e h Q := by
  unfold Xd; rw [hw]; exact hq
theorem Wh {d : Option Nat} {g : Nat × Bool} {so : SO} {r : List SOp} {e : Env} {h : Heap} {Q : Env → Heap → Prop} (hw : SOp.wanted ⟨d,some g,so⟩ e = some true) (hq : Xd P (⟨d,none,so⟩ :: r) e h Q) : Xd P (⟨d,some g,so⟩ :: r) e h Q := by
  unfold Xd at hq ⊢; rw [hw]; exact hq
variable {d : Option Nat} {r : List SOp} {e : Env} {h : Heap} {Q : Env → Heap → Prop}
theorem We {off id ez : Nat} {a : Arg} {vs : List Value} {ro : Bool} {v : Value} {n : Nat} (ha : a.ev e = some (.pointer (some ⟨id,off,none⟩))) (hg : h.get id = some (.cells vs ez ro)) (hv : vs[off]? = some v) (hq : Xd P r (e.put d v) h Q) :
    Xd P (⟨d,none,.ld n false a⟩ :: r) e h Q := by
  refine Wa (v := v) (h' := h) rfl ?_ hq
  simp only [SO.run,ha,ldV,hg,hv,Option.map_some]
theorem Xj {off id ez n : Nat} {a : Arg} {vs l : List Value} {ro : Bool} (ha : a.ev e = some (.pointer (some ⟨id,off,none⟩))) (hg : h.get id = some (.cells vs ez ro)) (hl : off + n ≤ vs.length) (hv : (vs.drop off).take n = l) (hq : Xd P r (e.put d (.agg ⟨l⟩)) h Q) :
    Xd P (⟨d,none,.ld n true a⟩ :: r) e h Q := by
  refine Wa (v := .agg ⟨l⟩) (h' := h) rfl ?_ hq
  have hb : (off + n).ble vs.length = true := Nat.ble_eq_true_of_le hl
  simp only [SO.run,ha,ldV,rd,hg,hb,cond_true,hv,Option.map_some]
theorem Wm {off id ez n : Nat} {a x : Arg} {vs l : List Value} {v : Value} (ha : a.ev e = some (.pointer (some ⟨id,off,none⟩))) (hx : x.ev e = some v) (hn : v.cells.toList = l) (hl : l.length = n) (hg : h.get id = some (.cells vs ez false)) (hb : off + n ≤ vs.length) (hc : l.all isCell = true)
    (hq : ∀ h',h'.next = h.next → Ext (· = id) h h' → h'.get id = some (.cells (putL vs off l) ez false) → Xd P r (e.put d Xl) h' Q) : Xd P (⟨d,none,.st n a x⟩ :: r) e h Q := by
  refine Wa (v := Xl) (h' := h.put id (some (.cells (putL vs off l) ez false))) rfl ?_ (hq _ (Heap.next_put _ _ _) (Ext.put hg rfl _) (put_get hg rfl _))
  have hs : v.cells.size.beq n = true := by rw [← Array.length_toList,hn,hl]; exact Nat.beq_refl _
  have hb' : (off + l.length).ble vs.length = true := by rw [hl]; exact Nat.ble_eq_true_of_le hb
  simp only [SO.run,ha,hx,hs,cond_true,hn,wr,hg,hb',hc,Bool.and_self,Option.map_some]
theorem Xh {cs : List Value} (hq : ∀ h',h'.next = h.next + 1 → Xe h h' → h'.get h.next = some (.cells cs 0 false) → Xd P r (e.put d (.pointer (some ⟨h.next,0,none⟩))) h' Q) : Xd P (⟨d,none,.new cs⟩ :: r) e h Q :=
  Wa rfl rfl (hq _ rfl (Ext.add _ _) (Jw _ _))
theorem Ye {x : Arg} {v : Value} {cs : List Value} (hx : x.ev e = some v) (hc : v.cells.toList = cs) (hq : ∀ h',h'.next = h.next + 1 → Xe h h' → h'.get h.next = some (.cells cs 0 false) → Xd P r (e.put d (.pointer (some ⟨h.next,0,none⟩))) h' Q) :
    Xd P (⟨d,none,.box x⟩ :: r) e h Q := by
  refine Wa (v := .pointer (some ⟨h.next,0,none⟩)) (h' := h.add (.cells cs 0 false)) rfl ?_ (hq _ rfl (Ext.add _ _) (Jw _ _))
  simp only [SO.run,hx,Option.map_some,hc]
theorem Wj {len size : Nat} {zero : List Value} {parts : List (Nat × Nat × Arg)} {ps : List (Nat × Nat × Value)} {l : List Value} (hp : Yk e parts = some ps) (hf : Jk (Xt zero len) ps = some l)
    (hq : ∀ h',h'.next = h.next + 1 → Xe h h' → h'.get h.next = some (.cells l size false) → Xd P r (e.put d (.slice (some ⟨h.next,0,none⟩) len (bif len.beq 0 then 0 else 1))) h' Q) : Xd P (⟨d,none,.bslice len size zero parts⟩ :: r) e h Q := by
  refine Wa (v := .slice (some ⟨h.next,0,none⟩) len (bif len.beq 0 then 0 else 1)) (h' := h.add (.cells l size false)) rfl ?_ (hq _ rfl (Ext.add _ _) (Jw _ _))
  simp only [SO.run,hp,hf,Option.map_some]
theorem Xi {size id off n c : Nat} {x i : Arg} {k : IntKind} {j : Int} (hx : x.ev e = some (.slice (some ⟨id,off,none⟩) n c)) (hi : i.ev e = some (.int k j)) (hj : 0 ≤ j ∧ j < n) (hq : Xd P r (e.put d (.pointer (some ⟨id,off + j.toNat * size,none⟩))) h Q) :
    Xd P (⟨d,none,.iaV size x i⟩ :: r) e h Q := by
  refine Wa (v := .pointer (some ⟨id,off + j.toNat * size,none⟩)) (h' := h) rfl ?_ hq
  simp only [SO.run,hx,hi,if_pos hj]
/-! ### Slices and what they hold -/
theorem rd_ext {S : Nat → Prop} {h h' : Heap} (x : Ext S h h') {id off n : Nat} {l : List Value} (hr : rd h id off n = some l) (hn : ¬ S id) : rd h' id off n = some l := by
  unfold rd at hr ⊢
  split at hr
  · rename_i vs e ro hg; rw [x.some hg hn]; exact hr
  · cases hr
theorem rd_some {h : Heap} {id off n : Nat} {l : List Value} (hr : rd h id off n = some l) : ∃ vs e ro,h.get id = some (.cells vs e ro) ∧ off + n ≤ vs.length ∧ l = (vs.drop off).take n := by
  unfold rd at hr
  split at hr
  · rename_i vs e ro hg
    cases hb : (off + n).ble vs.length with
    | false => rw [hb] at hr; cases hr
    | true => rw [hb] at hr; cases hr; exact ⟨vs,e,ro,hg,Nat.le_of_ble_eq_true hb,rfl⟩
  · cases hr
theorem rd_mk {h : Heap} {id off n e : Nat} {vs : List Value} {ro : Bool} (hg : h.get id = some (.cells vs e ro)) (hl : off + n ≤ vs.length) : rd h id off n = some ((vs.drop off).take n) := by
  unfold rd; rw [hg]; simp only [Nat.ble_eq_true_of_le hl,cond_true]
end
end Go.Dx
