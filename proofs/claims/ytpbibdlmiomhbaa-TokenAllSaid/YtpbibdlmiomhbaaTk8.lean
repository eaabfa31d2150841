/- The document's cache: find, Begin, End, Tokens. -/
import Derived.Test.YtpbibdlmiomhbaaTk7
namespace Go.Dx.SYtpbibdlmiomhbaa
open Go.Proofs
set_option linter.unusedVariables false
set_option linter.unusedSimpArgs false

/-- The document's entry. -/
def entR (x : E) : List Value := [.int .u64 x.tk, x.r0, x.r1, x.r2, x.r3, x.r4, x.r5, x.r6, x.r7, .bool x.dn, x.p0, x.p1, x.p2, x.p3, .int .i64 x.tm]
theorem entR_len (x : E) : (entR x).length = 15 := rfl
theorem entR_cell (x : E) : (entR x).all isCell = true := by
  have h := x.ok
  simp only [List.all_cons, List.all_nil, Bool.and_true, Bool.and_eq_true] at h
  simp [entR, h, cell_int, cell_bool]

section
variable {d : Option Nat} {r : List SOp} {e : Env} {h : Heap} {Q : Env → Heap → Prop}
/-- Appended to an empty slice. -/
theorem Wops_app0 {sz bytes m i0 : Nat} {s x : Arg} {new : List Value} {xv : Value} (hs : s.ev e = some (.slice (some ⟨i0, 0, none⟩) 0 0)) (hx : x.ev e = some xv) (hm : lenOfV xv = some m) (hf : firstL h sz m xv = some new) (hb : m * bytes ≤ 1099511627776 ∧ m ≤ 1099511627776) (hn : new.length = m * sz) (hm0 : 0 < m)
    (hq : ∀ h', h'.next = h.next + 1 → Ext0 h h' → At h' h.next (.cells new sz false) → Wops Try.prog r (e.put d (.slice (some ⟨h.next, 0, none⟩) m 1)) h' Q) : Wops Try.prog (⟨d, none, .app sz bytes s x⟩ :: r) e h Q := by
  refine Wops_run (v := .slice (some ⟨h.next, 0, none⟩) m 1) (h' := h.add (.cells new sz false)) rfl ?_ (hq _ rfl (Ext.add _ _) (add_get _ _))
  have hmb : m.beq 0 = false := by rw [beq_iff]; simp; omega
  have h1 : (m * bytes).ble 1099511627776 = true := Nat.ble_eq_true_of_le hb.1
  have h2 : m.ble 1099511627776 = true := Nat.ble_eq_true_of_le hb.2
  have h3 : new.length.beq (m * sz) = true := by rw [beq_iff]; simp [hn]
  have h4 : firstL h sz 0 (.slice (some ⟨i0, 0, none⟩) 0 0) = some [] := rfl
  have h5 : Nat.beq 0 0 = true := rfl
  simp only [SO.run, hs, hx, hm, hf, appL, hmb, h1, h2, h3, h4, h5, cond_false, cond_true, Bool.not_true, Bool.or_self, List.nil_append, Nat.zero_add]
/-- One more of the document's. -/
theorem Wops_rapp {a : Option Addr} {n c i0 cc : Nat} {es : List E} {x : E} {s xa : Arg} (hs : s.ev e = some (.slice a n c)) (hx : xa.ev e = some (.slice (some ⟨i0, 0, none⟩) 1 cc)) (g : At h i0 (.cells (entR x) 15 false)) (o : OwS h 15 a n c (en entR es)) (hn : n ≤ 1000)
    (hq : ∀ h' a' c', Ext (Blk a) h h' → OwS h' 15 a' (n + 1) c' (en entR (es ++ [x])) → (∀ i, Blk a' i → Blk a i ∨ h.next ≤ i) → Wops Try.prog r (e.put d (.slice a' (n + 1) c')) h' Q) : Wops Try.prog (⟨d, none, .app 15 176 s xa⟩ :: r) e h Q := by
  have hf : firstL h 15 1 (.slice (some ⟨i0, 0, none⟩) 1 cc) = some (entR x) := by
    unfold firstL
    simp only [show Nat.beq 1 0 = false from rfl, cond_false]
    rw [rd_mk g (by rw [entR_len]; decide)]; rfl
  refine Wops_app (m := 1) hs hx o rfl hf ⟨by omega, by omega⟩ rfl (entR_cell x) (by decide) fun h' a' c' x' o' b' => hq h' a' c' x' ?_ b'
  rw [en_app, show en entR [x] = entR x by simp [en]]; exact o'
end

/-- The document's cache. -/
def Kd (h : Heap) (p : Nat) (es : List E) (S : Nat → Prop) : Prop :=
  ∃ a n c, At h p (.cells [.slice a n c] 0 false) ∧ OwS h 15 a n c (en entR es) ∧ es.length = n ∧ n ≤ 4 ∧ ¬ Blk a p ∧ ∀ i, S i ↔ (i = p ∨ Blk a i)
theorem Kd.ext {h h' : Heap} {p : Nat} {es : List E} {S T : Nat → Prop} (q : Kd h p es S) (x : Ext T h h') (hd : ∀ i, S i → ¬ T i) : Kd h' p es S := by
  obtain ⟨a, n, c, h1, h2, hn, hl, h3, h4⟩ := q
  exact ⟨a, n, c, h1.ext x (hd p ((h4 p).2 (.inl rfl))), h2.ext x (fun i r => hd i ((h4 i).2 (.inr r))), hn, hl, h3, h4⟩
theorem Kd.ext0 {h h' : Heap} {p : Nat} {es : List E} {S : Nat → Prop} (q : Kd h p es S) (x : Ext0 h h') : Kd h' p es S := q.ext x fun _ _ r => r
theorem Kd.lt {h : Heap} {p : Nat} {es : List E} {S : Nat → Prop} (q : Kd h p es S) {i : Nat} (hi : S i) : i < h.next := by
  obtain ⟨a, n, c, h1, h2, hn, hl, h3, h4⟩ := q
  rcases (h4 i).1 hi with rfl | r
  · exact h1.lt
  · exact h2.lt r

/-- the document's find; no entry has the token 0 -/
theorem C66 {h : Heap} {p n c : Nat} {a : Option Addr} {es : List E} {t : Int} (g : At h p (.cells [.slice a n c] 0 false)) (s : SlA h 15 a n c (en entR es)) (hn : es.length = n) (hb : n ≤ 4) (hz : ∀ x ∈ es, x.tk ≠ 0) :
    Fn Try.prog 66 [ptr p, .int .u64 t] h fun v h' => v = .int .i64 (ixG (tkf t) es) ∧ h = h' := by
  refine fnK F66.fok rfl ?_
  refine K_reg (Wops_run rfl rfl (K_fin [(0, _), (1, _)] rfl (?_)))
  refine K_ss (K_reg (Wops_run rfl rfl (K_fin [(0, _), (1, _), (5, _)] rfl (?_))))
  refine K_sblock ?_
  refine K_loop (fun k e h' => ∃ i : Nat, e = [(0, ptr p), (1, .int .u64 t), (5, .int .i64 i)] ∧ h = h' ∧ i ≤ n ∧ k = n - i ∧ ∀ j (hj : j < i) (hl : j < es.length), tkf t es[j] = false) ?_ (k := n) ⟨0, rfl, rfl, by omega, rfl, fun j hj => by omega⟩
  rintro k' e h' ⟨i, rfl, rfl, hi, rfl, hall⟩
  refine K_ss (K_reg (Wops_run rfl rfl (Wops_run rfl rfl (Wops_run rfl rfl (Wops_run rfl rfl (Wops_ld rfl g (by rfl) ?_))))))
  refine Wops_run rfl rfl (Wops_run rfl rfl (K_fin [(0, _), (1, _), (5, _), (12, _)] rfl (?_)))
  refine K_scond rfl (fun hc => ?_) (fun hc => ?_)
  · have hlt : i < n := by have := of_decide_eq_true hc; omega
    have hne := hz es[i] (List.getElem_mem _)
    refine K_sskip (K_sblock ?_)
    refine K_reg (Wops_run rfl rfl (Wops_run rfl rfl (Wops_run rfl rfl (Wops_ld rfl g (by rfl) ?_))))
    refine Wops_run rfl rfl (Wops_idxF (u := .int .u64 es[i].tk) rfl rfl s ⟨by omega, by omega⟩ (by decide) (by rw [Int.toNat_natCast, en_at entR_len es i 0 (by omega) (by decide)]; rfl) fun _ _ => ?_)
    refine Wops_run rfl rfl (Wops_eq (v := es[i].tk == t) rfl rfl rfl ?_)
    cases hd : (es[i].tk == t) with
    | true =>
      have hte : es[i].tk = t := by simpa using hd
      refine Wops_run rfl rfl (Wops_go rfl (Wops_run rfl rfl (Wops_go rfl (Wops_neq (v := true) rfl rfl (by simpa using fun e => hne (by rw [hte, e])) (Wops_run rfl rfl (K_fin [(0, _), (1, _), (5, _), (28, _)] rfl (?_)))))))
      refine K_cond rfl (fun _ => ?_) (fun hc => by cases hc)
      refine K_reg (Wops_run rfl rfl (Wops_run rfl rfl (K_fin [(4, _)] rfl (?_))))
      refine K_ret (Told.mk _ rfl (show _ ∧ _ from ⟨?_, rfl⟩))
      rw [ixG_at (by omega) hd hall]; rfl
    | false =>
      refine Wops_run rfl rfl (Wops_skip rfl (Wops_skip rfl (Wops_run rfl rfl (K_fin [(0, _), (1, _), (5, _), (28, _)] rfl (?_)))))
      refine K_cond rfl (fun hc => by cases hc) (fun _ => ?_)
      refine K_skip ?_
      refine K_last (Wops_run rfl rfl (Wops_run rfl rfl (Wops_run rfl rfl (K_finL [(0, _), (1, _), (5, _)] rfl (?_)))))
      refine ⟨n - (i + 1), by omega, i + 1, by rw [w64s (by omega)], rfl, by omega, rfl, fun j hj hl => ?_⟩
      by_cases hji : j = i
      · subst hji; exact hd
      · exact hall j (by omega) hl
  · have hin : i = n := by have := of_decide_eq_false hc; omega
    refine K_sexit (bx_same ?_)
    refine K_reg (Wops_run rfl rfl (K_fin [(4, _)] rfl (?_)))
    refine K_ret (Told.mk _ rfl (show _ ∧ _ from ⟨?_, rfl⟩))
    rw [ixG_none (fun j hj => hall j (by omega) hj)]; rfl

/-- the document's Tokens -/
theorem C48 {h : Heap} {p : Nat} {es : List E} {S : Nat → Prop} (q : Kd h p es S) :
    Fn Try.prog 48 [ptr p] h fun v h' => ∃ ao no co, v = .slice ao no co ∧ SlA h' 1 ao no co (us (es.map E.tk)) ∧ no = es.length ∧ Ext0 h h' := by
  obtain ⟨a, n, c, g, o, hn, hle, hpa, hS⟩ := id q
  refine fnK F48.fok rfl ?_
  refine K_reg (Wops_run rfl rfl (K_fin [(0, _)] rfl (?_)))
  refine K_reg (Wops_run rfl rfl (K_fin [(0, _), (3, _)] rfl (?_)))
  refine K_ss (K_reg (Wops_run rfl rfl (K_fin [(0, _), (3, _), (4, _)] rfl (?_))))
  refine K_sblock ?_
  refine K_loop (fun k e h' => ∃ (i co : Nat) (ao : Option Addr), e = [(0, ptr p), (3, .slice ao i co), (4, .int .i64 i)] ∧ i ≤ n ∧ k = n - i ∧ Ext0 h h' ∧ OwS h' 1 ao i co (us ((es.take i).map E.tk)) ∧ ∀ j, Blk ao j → h.next ≤ j) ?_ (k := n) ⟨0, 0, none, rfl, by omega, rfl, Ext.refl _ _, OwS.none, fun j r => absurd r Blk.none⟩
  rintro k' e h' ⟨i, co, ao, rfl, hi, rfl, x', oo, bo⟩
  have g' := x'.some0 g
  refine K_ss (K_reg (Wops_run rfl rfl (Wops_run rfl rfl (Wops_run rfl rfl (Wops_run rfl rfl (Wops_ld rfl g' (by rfl) ?_))))))
  refine Wops_run rfl rfl (Wops_run rfl rfl (K_fin [(0, _), (3, _), (4, _), (11, _)] rfl (?_)))
  refine K_scond rfl (fun hc => ?_) (fun hc => ?_)
  · have hlt : i < n := by have := of_decide_eq_true hc; omega
    refine K_sskip (K_sblock ?_)
    refine K_last (Wops_run rfl rfl (Wops_run rfl rfl (Wops_run rfl rfl (Wops_run rfl rfl (Wops_ld rfl g' (by rfl) ?_)))))
    refine Wops_run rfl rfl (Wops_idxF (u := .int .u64 es[i].tk) rfl rfl (o.ext x').sl ⟨by omega, by omega⟩ (by decide) (by rw [Int.toNat_natCast, en_at entR_len es i 0 (by omega) (by decide)]; rfl) fun _ _ => ?_)
    refine Wops_bslice (l := [.int .u64 es[i].tk]) rfl rfl fun h4 n4 x4 g4 => ?_
    refine Wops_app rfl rfl (oo.ext x4) rfl (OwS.new (n := 1) (c := 1) g4 rfl).sl.first ⟨by omega, by omega⟩ rfl rfl (by decide) fun h5 a5 c5 x5 o5 b5 => ?_
    refine Wops_run rfl rfl (K_finL [(0, _), (3, _), (4, _)] rfl (?_))
    refine K_last (Wops_run rfl rfl (Wops_run rfl rfl (Wops_run rfl rfl (K_finL [(0, _), (3, _), (4, _)] rfl (?_)))))
    have e1 := x'.next
    refine ⟨n - (i + 1), by omega, i + 1, c5, a5, by rw [w64s (by omega)], by omega, rfl, (x'.trans x4).then x5 fun j r => .inr (bo j r), ?_, fun j r => (b5 j r).elim (bo j) fun r => by omega⟩
    rw [List.take_add_one, List.getElem?_eq_getElem (show i < es.length by omega), List.map_append, us, List.map_append]; exact o5
  · have hin : i = n := by have := of_decide_eq_false hc; omega
    have htk : es.take i = es := List.take_of_length_le (by omega)
    rw [htk] at oo
    refine K_sexit (bx_same ?_)
    refine K_reg (Wops_run rfl rfl (Wops_run rfl rfl (K_fin [(2, _)] rfl (?_))))
    exact K_ret (Told.mk _ rfl ⟨ao, i, co, rfl, oo.sl, by omega, x'⟩)

/-- The document's l: a copy of what is kept. -/
theorem Wops_rcopy {d : Option Nat} {r : List SOp} {e : Env} {h : Heap} {Q : Env → Heap → Prop} {a : Option Addr} {n c i0 : Nat} {es : List E} {s xa : Arg} (hs : s.ev e = some (.slice (some ⟨i0, 0, none⟩) 0 0)) (hx : xa.ev e = some (.slice a n c)) (g : At h i0 (.cells [] 15 false)) (o : SlA h 15 a n c (en entR es)) (hn : es.length = n) (hb : n ≤ 4)
    (hq : ∀ h' a' c', Ext0 h h' → OwS h' 15 a' n c' (en entR es) → (∀ i, Blk a' i → i0 = i ∨ h.next ≤ i) → (0 < n → ∃ id, a' = some ⟨id, 0, none⟩ ∧ c' = 1 ∧ At h' id (.cells (en entR es) 15 false)) → Wops Try.prog r (e.put d (.slice a' n c')) h' Q) : Wops Try.prog (⟨d, none, .app 15 176 s xa⟩ :: r) e h Q := by
  by_cases h0 : n = 0
  · subst h0
    have : es = [] := List.eq_nil_of_length_eq_zero hn
    subst this
    refine Wops_run (v := .slice (some ⟨i0, 0, none⟩) 0 0) (h' := h) rfl ?_ (hq h (some ⟨i0, 0, none⟩) 0 (Ext.refl _ _) (OwS.new (n := 0) g rfl) (fun i q => .inl (Blk.at.1 q)) (fun q => by omega))
    have hf := o.first
    have h5 : Nat.beq 0 0 = true := rfl
    simp only [SO.run, hs, hx, lenOfV, hf, appL, h5, cond_true]
  · refine Wops_app0 hs hx rfl o.first ⟨by omega, by omega⟩ o.len (by omega) fun h' n' x' g' => ?_
    exact hq h' _ _ x' (OwS.new g' o.len) (fun i q => .inr (by rw [Blk.at] at q; omega)) (fun _ => ⟨_, rfl, rfl, g'⟩)
end Go.Dx.SYtpbibdlmiomhbaa
