/- A deterministic reading of the model's code: parts of an element of several cells. -/
import Derived.Test.YtpkefdoleieloaaDx36
namespace Go.Dx
set_option linter.unusedVariables false
set_option linter.unusedSimpArgs false

section
variable {α : Type} {enc : α → List Value} {sz : Nat}
theorem win_at (hs : ∀ x, (enc x).length = sz) {vs : List Value} {off n : Nat} {ys : List α} (h : (vs.drop off).take (n * sz) = en enc ys) (hn : ys.length = n) {i r : Nat} (hi : i < ys.length) (hr : r < sz) : vs[off + i * sz + r]? = (enc ys[i])[r]? := by
  rw [← en_at hs ys i r hi hr, ← h, List.getElem?_take_of_lt (win_lt (by omega) hr), List.getElem?_drop, Nat.add_assoc]
theorem win_sub (hs : ∀ x, (enc x).length = sz) {vs : List Value} {off n : Nat} {ys : List α} (h : (vs.drop off).take (n * sz) = en enc ys) (hn : ys.length = n) {i r m : Nat} (hi : i < ys.length) (hr : r + m ≤ sz) : (vs.drop (off + i * sz + r)).take m = ((enc ys[i]).drop r).take m := by
  apply List.ext_getElem?
  intro k
  by_cases hk : k < m
  · rw [List.getElem?_take_of_lt hk, List.getElem?_take_of_lt hk, List.getElem?_drop, List.getElem?_drop, Nat.add_assoc _ r k, win_at hs h hn hi (by omega)]
  · rw [List.getElem?_eq_none (by simp; omega), List.getElem?_eq_none (by simp; omega)]
/-- Some cells of an element are written over. -/
theorem win_part (hs : ∀ x, (enc x).length = sz) {vs : List Value} {off n : Nat} {ys : List α} (h : (vs.drop off).take (n * sz) = en enc ys) (hn : ys.length = n) (hl : off + n * sz ≤ vs.length) {i r : Nat} {x : α} {l : List Value} (hi : i < ys.length) (hr : r + l.length ≤ sz) (hx : enc x = putL (enc ys[i]) r l) :
    ((putL vs (off + i * sz + r) l).drop off).take (n * sz) = en enc (ys.set i x) := by
  have hb := Nat.mul_le_mul_right sz (show i + 1 ≤ n by omega)
  rw [Nat.add_mul] at hb
  rw [← win_set hs h hn hl hi (x := x)]
  apply List.ext_getElem?
  intro m
  by_cases hm : m < n * sz
  · rw [List.getElem?_take_of_lt hm, List.getElem?_take_of_lt hm, List.getElem?_drop, List.getElem?_drop, putL_get _ _ _ _ (by omega), putL_get _ _ _ _ (by rw [hs]; omega), hs]
    by_cases h1 : off + i * sz + r ≤ off + m ∧ off + m < off + i * sz + r + l.length
    · rw [if_pos h1, if_pos (by omega), hx, putL_get _ _ _ _ (by rw [hs]; omega), if_pos (by omega)]
      congr 1; omega
    · rw [if_neg h1]
      by_cases h2 : off + i * sz ≤ off + m ∧ off + m < off + i * sz + sz
      · rw [if_pos h2, hx, putL_get _ _ _ _ (by rw [hs]; omega), if_neg (by omega)]
        rw [show off + m = off + i * sz + (off + m - (off + i * sz)) by omega, win_at hs h hn hi (by omega)]
        congr 1; omega
      · rw [if_neg h2]
  · rw [List.getElem?_eq_none (by simp; omega), List.getElem?_eq_none (by simp; omega)]
end

/-! ### Results that lie in the heap -/
theorem ldV_agg {h : Heap} {id off n ez : Nat} {vs l : List Value} {ro : Bool} (g : At h id (.cells vs ez ro)) (hl : off + n ≤ vs.length) (hv : (vs.drop off).take n = l) : ldV h n true (.pointer (some ⟨id, off, none⟩)) = some (.agg ⟨l⟩) := by
  simp only [ldV, rd_mk g hl, hv, Option.map_some]
theorem res_c {e : Env} {h : Heap} {k id off n ez : Nat} {vs l : List Value} {ro : Bool} (hp : e.get k = some (.pointer (some ⟨id, off, none⟩))) (g : At h id (.cells vs ez ro)) (hl : off + n ≤ vs.length) (hv : (vs.drop off).take n = l) : Res.ev e h (.c k n true) = some (.agg ⟨l⟩) := by
  simp only [Res.ev, hp, ldV_agg g hl hv]
theorem resL_cons {e : Env} {h : Heap} {r : Res} {rs : List Res} {v : Value} {vs : List Value} (hr : r.ev e h = some v) (hs : resL e h rs = some vs) : resL e h (r :: rs) = some (v :: vs) := by
  simp only [resL, hr, hs]

/-! ### Slices within their own block -/
section
variable {P : Program} {d : Option Nat} {r : List SOp} {e : Env} {h : Heap} {Q : Env → Heap → Prop}
/-- Appended in place. -/
theorem Wops_appIn {sz bytes n c m id off : Nat} {s x : Arg} {vs new : List Value} {xv : Value} (hs : s.ev e = some (.slice (some ⟨id, off, none⟩) n c)) (hx : x.ev e = some xv) (hm : lenOfV xv = some m) (hf : firstL h sz m xv = some new) (g : At h id (.cells vs sz false)) (hc : c ≠ 0) (hz : 0 < sz)
    (hfit : off + (n + m) * sz ≤ vs.length) (hn : new.length = m * sz) (hcl : new.all isCell = true) (hb : (n + m) * bytes ≤ 1099511627776 ∧ n + m ≤ 1099511627776)
    (hq : ∀ h', Ext (· = id) h h' → At h' id (.cells (putL vs (off + n * sz) new) sz false) → Wops P r (e.put d (.slice (some ⟨id, off, none⟩) (n + m) c)) h' Q) : Wops P (⟨d, none, .app sz bytes s x⟩ :: r) e h Q := by
  by_cases hm0 : m = 0
  · subst hm0
    have : new = [] := List.eq_nil_of_length_eq_zero (by simpa using hn)
    subst this
    refine Wops_run (v := .slice (some ⟨id, off, none⟩) n c) (h' := h) rfl ?_ (hq h (Ext.refl _ _) g)
    have : Nat.beq 0 0 = true := rfl
    simp only [SO.run, hs, hx, hm, hf, appL, this, cond_true]
  · have hat : h.get id = some (.cells vs sz false) := g
    have e1 : n * sz + m * sz = (n + m) * sz := by rw [Nat.add_mul]
    obtain ⟨h', w1, _, w2, w3⟩ := wr_own (off := off + n * sz) (l := new) g (by rw [hn]; omega) hcl
    refine Wops_run (v := .slice (some ⟨id, off, none⟩) (n + m) c) (h' := h') rfl ?_ (hq h' w2 w3)
    have hmb : m.beq 0 = false := by rw [beq_iff]; simp [hm0]
    have h1 : ((n + m) * bytes).ble 1099511627776 = true := Nat.ble_eq_true_of_le hb.1
    have h2 : (n + m).ble 1099511627776 = true := Nat.ble_eq_true_of_le hb.2
    have h3 : new.length.beq (m * sz) = true := by rw [beq_iff]; simp [hn]
    have hcb : c.beq 0 = false := by rw [beq_iff]; simp [hc]
    have hzb : sz.beq 0 = false := by rw [beq_iff]; simp; omega
    have hszb : sz.beq sz = true := Nat.beq_refl _
    have hfb : (off + (n + m) * sz).ble vs.length = true := Nat.ble_eq_true_of_le hfit
    have hfo : ∃ old, firstL h sz n (.slice (some ⟨id, off, none⟩) n c) = some old := by
      unfold firstL
      simp only
      cases hn0 : n.beq 0 with
      | true => exact ⟨_, rfl⟩
      | false => exact ⟨_, rd_mk g (by omega)⟩
    obtain ⟨old, ho⟩ := hfo
    simp only [SO.run, hs, hx, hm, hf, appL, hmb, h1, h2, h3, hcb, hzb, hszb, hfb, ho, hat, w1, cond_false, cond_true, Bool.not_true, Bool.or_self, Option.map_some]
/-- s[l:hh], within its block. -/
theorem Wops_slVx {sz n c l hh id off : Nat} {k k' : IntKind} {x lo hi : Arg} {vs : List Value} (hx : x.ev e = some (.slice (some ⟨id, off, none⟩) n c)) (hlo : lo.ev e = some (.int k l)) (hhi : hi.ev e = some (.int k' hh)) (g : At h id (.cells vs sz false)) (hc : c ≠ 0) (hz : 0 < sz)
    (hl : l ≤ hh) (hr : n ≤ (vs.length - off) / sz) (hr2 : hh ≤ (vs.length - off) / sz)
    (hq : Wops P r (e.put d (.slice (some ⟨id, off + l * sz, none⟩) (hh - l) c)) h Q) : Wops P (⟨d, none, .slV sz x (some lo) (some hi) none⟩ :: r) e h Q := by
  refine Wops_run (v := .slice (some ⟨id, off + l * sz, none⟩) (hh - l) c) (h' := h) rfl ?_ hq
  have hat : h.get id = some (.cells vs sz false) := g
  have hcb : c.beq 0 = false := by rw [beq_iff]; simp [hc]
  have hzb : sz.beq 0 = false := by rw [beq_iff]; simp; omega
  have hszb : sz.beq sz = true := Nat.beq_refl _
  have hrb : n.ble ((vs.length - off) / sz) = true := Nat.ble_eq_true_of_le hr
  have hroom : roomOf h sz (some ⟨id, off, none⟩) n c = (vs.length - off) / sz := by
    simp only [roomOf, hcb, hzb, Bool.or_self, cond_false, hat, hszb, hrb, cond_true]
  have hsl : slB h sz (some ⟨id, off, none⟩) n c (some (.int k l)) (some (.int k' hh)) = some (l, hh) := by
    unfold slB
    by_cases hn : hh ≤ n
    · rw [bounds_lh ⟨hl, hn⟩]
    · have h0 : bounds n n (some (.int k l)) (some (.int k' hh)) = none := by
        simp only [bounds, hiOf, natOf]
        rw [if_neg (by omega)]
      rw [h0, hroom]
      simp only [bounds, hiOf, loOf, natOf]
      rw [if_pos ⟨by omega, by omega⟩]
      simp only [Int.toNat_natCast]
      rw [if_pos ⟨by omega, by omega⟩]
  have hok : slOk h sz (.slice (some ⟨id, off, none⟩) n c) = true := by
    simp only [slOk, hat, hcb, hszb, Bool.or_true]
  have e1 : optEv e (some lo) = some (some (.int k l)) := by simp only [optEv, hlo, Option.map_some]
  have e2 : optEv e (some hi) = some (some (.int k' hh)) := by simp only [optEv, hhi, Option.map_some]
  have e3 : optEv e none = some none := rfl
  simp only [SO.run, hx, e1, e2, e3, slVV, hok, Bool.not_true, cond_false, hsl, Option.map_some]
/-- s[l:hh:m], at the end of its block. -/
theorem Wops_slVm {sz n c l hh m id off : Nat} {k k' k2 : IntKind} {x lo hi top : Arg} {vs : List Value} (hx : x.ev e = some (.slice (some ⟨id, off, none⟩) n c)) (hlo : lo.ev e = some (.int k l)) (hhi : hi.ev e = some (.int k' hh)) (hto : top.ev e = some (.int k2 m)) (g : At h id (.cells vs sz false)) (hc : c ≠ 0) (hz : 0 < sz)
    (hl : l ≤ hh) (hh2 : hh ≤ m) (hm : m ≤ n) (hne : l < m) (ht : vs.length ≤ off + m * sz)
    (hq : Wops P r (e.put d (.slice (some ⟨id, off + l * sz, none⟩) (hh - l) (capM c))) h Q) : Wops P (⟨d, none, .slV sz x (some lo) (some hi) (some top)⟩ :: r) e h Q := by
  refine Wops_run (v := .slice (some ⟨id, off + l * sz, none⟩) (hh - l) (capM c)) (h' := h) rfl ?_ hq
  have hat : h.get id = some (.cells vs sz false) := g
  have hcb : c.beq 0 = false := by rw [beq_iff]; simp [hc]
  have hzb : sz.beq 0 = false := by rw [beq_iff]; simp; omega
  have hszb : sz.beq sz = true := Nat.beq_refl _
  have hok : slOk h sz (.slice (some ⟨id, off, none⟩) n c) = true := by
    simp only [slOk, hat, hcb, hszb, Bool.or_true]
  have htip : tipOf h sz m (some ⟨id, off, none⟩) c = true := by
    simp only [tipOf, hcb, hzb, Bool.or_self, cond_false, hat, hszb, cond_true, Nat.ble_eq_true_of_le ht]
  have hnm : natOf n (.int k2 m) = some m := by
    simp only [natOf]; rw [if_pos ⟨by omega, by omega⟩]; simp
  have hbd : bounds n m (some (.int k l)) (some (.int k' hh)) = some (l, hh) := by
    simp only [bounds, hiOf, loOf, natOf]
    rw [if_pos ⟨by omega, by omega⟩]
    simp only [Int.toNat_natCast]
    rw [if_pos ⟨by omega, by omega⟩]
  have hnb : (m - l).beq 0 = false := by rw [beq_iff]; simp; omega
  have e1 : optEv e (some lo) = some (some (.int k l)) := by simp only [optEv, hlo, Option.map_some]
  have e2 : optEv e (some hi) = some (some (.int k' hh)) := by simp only [optEv, hhi, Option.map_some]
  have e3 : optEv e (some top) = some (some (.int k2 m)) := by simp only [optEv, hto, Option.map_some]
  simp only [SO.run, hx, e1, e2, e3, slVV, hok, Bool.not_true, cond_false, hnm, hbd, hnb, htip, cond_true, Option.map_some]
end
end Go.Dx
