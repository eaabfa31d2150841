/- CtrlAll: SameBlocks, the document's Depth, and the walk. -/
import Derived.Test.YtfhdeagbgdnkaaaCt5
namespace Go.Dx.SYtfhdeagbgdnkaaa
open Go.Proofs
set_option linter.unusedVariables false
set_option linter.unusedSimpArgs false

/-- Two maps that hold the same, or none. -/
def SameM (h : Heap) (va vb : Value) : Prop := (va = .map none ∧ vb = .map none) ∨ ∃ ma mb es, va = .map (some ma) ∧ vb = .map (some mb) ∧ At h ma (.map (mapC es)) ∧ At h mb (.map (mapC es))
theorem SameM.ext0 {h h' : Heap} {va vb : Value} (s : SameM h va vb) (x : Ext0 h h') : SameM h' va vb := by
  rcases s with s | ⟨ma, mb, es, e1, e2, g1, g2⟩
  · exact .inl s
  · exact .inr ⟨ma, mb, es, e1, e2, g1.ext x, g2.ext x⟩
theorem Wops_lookS {d : Option Nat} {r : List SOp} {e : Env} {h : Heap} {Q : Env → Heap → Prop} {m k : Arg} {va : Value} {n : Nat} {o : Option Bl} (hm : m.ev e = some va) (hk : k.ev e = some (.int .i64 (n : Int))) (hs : (va = .map none ∧ o = none) ∨ ∃ id es, va = .map (some id) ∧ o = some es ∧ At h id (.map (mapC es)))
    (hq : Wops Try.prog r (e.put d (.tuple ⟨[blv ((o.bind (getM n)).getD (0, 0)), .bool (o.bind (getM n)).isSome]⟩)) h Q) : Wops Try.prog (⟨d, none, .look false (.agg ⟨[.int .i64 0, .int .i64 0]⟩) true m k⟩ :: r) e h Q := by
  rcases hs with ⟨rfl, rfl⟩ | ⟨id, es, rfl, rfl, g⟩
  · refine Wops_run (v := .tuple ⟨[.agg ⟨[.int .i64 0, .int .i64 0]⟩, .bool false]⟩) (h' := h) rfl ?_ hq
    simp only [SO.run, hm, hk, okV]
  · exact Wops_lookB hm hk g hq

theorem C25 {h : Heap} {va vb : Value} (s : SameM h va vb) : Fn Try.prog 25 [va, vb] h fun v h' => v = .bool true ∧ h = h' := by
  refine Fn.gc (Q := fun v h' => v = .bool true ∧ Ext0 h h') (R := fun v => v = .bool true) ?_ fun v h' q => ⟨q.2, by rw [q.1]; rfl, q.1⟩
  obtain ⟨o, ha, hb⟩ : ∃ o : Option Bl, (∀ h', Ext0 h h' → (va = .map none ∧ o = none) ∨ ∃ id es, va = .map (some id) ∧ o = some es ∧ At h' id (.map (mapC es))) ∧ ∀ h', Ext0 h h' → (vb = .map none ∧ o = none) ∨ ∃ id es, vb = .map (some id) ∧ o = some es ∧ At h' id (.map (mapC es)) := by
    rcases s with ⟨rfl, rfl⟩ | ⟨ma, mb, es, rfl, rfl, g1, g2⟩
    · exact ⟨none, fun h' _ => .inl ⟨rfl, rfl⟩, fun h' _ => .inl ⟨rfl, rfl⟩⟩
    · exact ⟨some es, fun h' x => .inr ⟨ma, es, rfl, rfl, g1.ext x⟩, fun h' x => .inr ⟨mb, es, rfl, rfl, g2.ext x⟩⟩
  refine fnK F25.fok rfl ?_
  refine K_reg (Wops_run rfl rfl (K_fin [(0, _), (1, _)] rfl (?_)))
  have hlen : ∃ n : Nat, (∀ (t : Nat) (d : Option Nat) (r : List SOp) (e : Env) (Q : Env → Heap → Prop), e.get t = some va → Wops Try.prog r (e.put d (.int .i64 (n : Int))) h Q → Wops Try.prog (⟨d, none, .lenM (.t t)⟩ :: r) e h Q) ∧ ∀ (t : Nat) (d : Option Nat) (r : List SOp) (e : Env) (Q : Env → Heap → Prop), e.get t = some vb → Wops Try.prog r (e.put d (.int .i64 (n : Int))) h Q → Wops Try.prog (⟨d, none, .lenM (.t t)⟩ :: r) e h Q := by
    rcases s with ⟨rfl, rfl⟩ | ⟨ma, mb, es, rfl, rfl, g1, g2⟩
    · refine ⟨0, fun t d r e Q he hq => ?_, fun t d r e Q he hq => ?_⟩ <;> exact Wops_run (v := .int .i64 0) (h' := h) rfl (by simp only [SO.run, Arg.ev, he]) hq
    · exact ⟨es.length, fun t d r e Q he hq => Wops_lenM he g1 hq, fun t d r e Q he hq => Wops_lenM he g2 hq⟩
  obtain ⟨n, hl1, hl2⟩ := hlen
  refine K_ss (K_reg (Wops_run rfl rfl (hl1 _ _ _ _ _ rfl (Wops_run rfl rfl (hl2 _ _ _ _ _ rfl (Wops_neq (v := false) rfl rfl (by simp) (K_fin [(0, _), (1, _), (14, _)] rfl (?_))))))))
  refine K_scond rfl (fun hc => by cases hc) (fun _ => ?_)
  refine K_sskip (K_ss (K_reg (Wops_run rfl rfl (K_fin [(0, _), (1, _), (5, _)] rfl (?_)))))
  refine K_sblock ?_
  refine K_loop (fun k e h' => ∃ i : Nat, e = [(0, va), (1, vb), (5, .int .i64 i)] ∧ i ≤ 2000 ∧ k = 2000 - i ∧ Ext0 h h') ?_ (k := 2000) ⟨0, rfl, by omega, rfl, Ext.refl _ _⟩
  rintro k e h' ⟨i, rfl, hi, rfl, x'⟩
  refine K_ss (K_reg (Wops_run rfl rfl (Wops_run rfl rfl (K_fin [(0, _), (1, _), (5, _), (16, _)] rfl (?_)))))
  refine K_scond rfl (fun hc => ?_) (fun hc => ?_)
  · have hlt : i < 2000 := by have := of_decide_eq_true hc; omega
    generalize hb1 : (o.bind (getM i)).getD (0, 0) = b
    generalize hb2 : (o.bind (getM i)).isSome = bb
    refine K_sskip (K_sblock ?_)
    refine K_reg (Wops_run rfl rfl (Wops_run rfl rfl (Wops_lookS rfl rfl (ha h' x') ?_)))
    rw [hb1, hb2]
    refine Wops_run rfl rfl (Wops_run rfl rfl (Wops_run rfl rfl (Wops_new fun h1 n1 x1 g1 => Wops_st (l := [.int .i64 b.1, .int .i64 b.2]) rfl rfl rfl rfl g1 (by simp) rfl fun h2 n2 x2 g2 => ?_)))
    refine Wops_run rfl rfl (K_fin [(0, _), (1, _), (5, _), (6, _), (7, _)] rfl (?_))
    have X2 : Ext0 h' h2 := x1.then x2 fun j r => .inr (by omega)
    refine K_reg (Wops_run rfl rfl (Wops_run rfl rfl (Wops_lookS rfl rfl (hb h2 (x'.trans X2)) ?_)))
    rw [hb1, hb2]
    refine Wops_run rfl rfl (Wops_run rfl rfl (Wops_run rfl rfl (Wops_new fun h3 n3 x3 g3 => Wops_st (l := [.int .i64 b.1, .int .i64 b.2]) rfl rfl rfl rfl g3 (by simp) rfl fun h4 n4 x4 g4 => ?_)))
    refine Wops_run rfl rfl (K_fin [(0, _), (1, _), (5, _), (6, _), (7, _), (8, _), (9, _)] rfl (?_))
    have X4 : Ext0 h2 h4 := x3.then x4 fun j r => .inr (by omega)
    have g24 := X4.some0 g2
    refine K_reg (Wops_run rfl rfl (Wops_run rfl rfl (Wops_as (w := .bool false) rfl rfl (by cases bb <;> rfl) (Wops_run rfl rfl ?_))))
    refine Wops_go rfl (Wops_ldA (l := [.int .i64 b.1, .int .i64 b.2]) rfl g24 (by simp [putL_length]) (by rfl) (Wops_go rfl (Wops_ldA (l := [.int .i64 b.1, .int .i64 b.2]) rfl g4 (by simp [putL_length]) (by rfl) (Wops_go rfl ?_))))
    refine Wops_as (w := .bool false) rfl rfl (by simp) (Wops_run rfl rfl (K_fin [(0, _), (1, _), (5, _), (38, _)] rfl (?_)))
    refine K_cond rfl (fun hc => by cases hc) (fun _ => ?_)
    refine K_skip ?_
    refine K_last (Wops_run rfl rfl (Wops_run rfl rfl (Wops_run rfl rfl (K_finL [(0, _), (1, _), (5, _)] rfl (?_)))))
    exact ⟨2000 - (i + 1), by omega, i + 1, by rw [w64s (by omega)], by omega, rfl, x'.trans (X2.trans X4)⟩
  · refine K_sexit (bx_same ?_)
    refine K_reg (Wops_run rfl rfl (K_fin [(4, _)] rfl (?_)))
    exact K_ret (Told.mk _ rfl ⟨rfl, x'⟩)
end Go.Dx.SYtfhdeagbgdnkaaa
