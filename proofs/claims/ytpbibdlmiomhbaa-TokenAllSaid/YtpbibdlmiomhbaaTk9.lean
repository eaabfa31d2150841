/- The document's cache: Begin, End, Ask; SameRequest, SameReply. -/
import Derived.Test.YtpbibdlmiomhbaaTk8
namespace Go.Dx.SYtpbibdlmiomhbaa
open Go.Proofs
set_option linter.unusedVariables false
set_option linter.unusedSimpArgs false

theorem en_drop {α : Type} {enc : α → List Value} {sz : Nat} (hs : ∀ x, (enc x).length = sz) {xs : List α} {i : Nat} (hi : i ≤ xs.length) : (en enc xs).drop (i * sz) = en enc (xs.drop i) := by
  conv => lhs; rw [← List.take_append_drop i xs, en_app]
  exact List.drop_left' (by rw [en_length hs, List.length_take, Nat.min_eq_left hi])
theorem Wops_chkA {d : Option Nat} {r : List SOp} {e : Env} {h : Heap} {Q : Env → Heap → Prop} {off id ez t n : Nat} {a : Arg} {vs l : List Value} {ro : Bool} (ha : a.ev e = some (.pointer (some ⟨id, off, none⟩))) (ht : e.get t = some (.agg ⟨l⟩)) (hg : h.get id = some (.cells vs ez ro)) (hl : off + n ≤ vs.length) (hv : (vs.drop off).take n = l) (hs : sameCells l l = true) (hq : Wops Try.prog r (e.put d undefV) h Q) :
    Wops Try.prog (⟨d, none, .chk n true a t⟩ :: r) e h Q := by
  refine Wops_run (v := undefV) (h' := h) rfl ?_ hq
  simp only [SO.run, ha, ht, ldV_agg hg hl hv, sameV, hs, cond_true]

set_option maxHeartbeats 2000000 in
/-- the document's Begin -/
theorem C43 {h : Heap} {p : Nat} {es : List E} {t : Int} {S : Nat → Prop} {r0 r1 r2 r3 r5 r6 r7 : Value} (q : Kd h p es S) (hr : [r0, r1, r2, r3, r5, r6, r7].all isCell = true) (hz : ∀ x ∈ es, x.tk ≠ 0) :
    Fn Try.prog 43 [ptr p, .int .u64 t, .agg ⟨[r0, r1, r2, r3, .slice none 0 0, r5, r6, r7]⟩] h fun v h' => ∃ S', Turn h h' S S' ∧
      ((t = 0 ∧ v = .int .i64 0 ∧ Kd h' p es S') ∨
       (t ≠ 0 ∧ es.any (tkf t) = true ∧ v = .int .i64 11 ∧ Kd h' p es S') ∨
       (t ≠ 0 ∧ es.any (tkf t) = false ∧ begE es = none ∧ v = .int .i64 13 ∧ Kd h' p es S') ∨
       (t ≠ 0 ∧ es.any (tkf t) = false ∧ ∃ es1, begE es = some es1 ∧ v = .int .i64 0 ∧ Kd h' p (es1 ++ [newE r0 r1 r2 r3 r5 r6 r7 t hr]) S')) := by
  have hr' := hr
  simp only [List.all_cons, List.all_nil, Bool.and_true, Bool.and_eq_true] at hr'
  refine fnK F43.fok rfl ?_
  refine K_reg (Wops_box (cs := [r0, r1, r2, r3, .slice none 0 0, r5, r6, r7]) rfl rfl fun h1 n1 x1 g1 => Wops_run rfl rfl (K_fin [(0, _), (1, _), (5, _)] rfl (?_)))
  have q1 := q.ext0 x1
  have qlt : ∀ i, S i → i < h.next := fun i r => q.lt r
  have tX : ∀ {h3 : Heap}, Ext0 h h3 → Turn h h3 S S := fun x => ⟨x.of0, fun i r => .inl r⟩
  obtain ⟨a0, n0, c0, g, o, hn, hle, hpa, hS⟩ := id q1
  by_cases ht : t = 0
  · refine K_ss (K_reg (Wops_run rfl rfl (Wops_eq (v := true) rfl rfl (by rw [ht]; rfl) (K_fin [(0, _), (1, _), (5, _), (10, _)] rfl (?_)))))
    refine K_scond rfl (fun _ => ?_) (fun hc => by cases hc)
    refine K_ss (K_reg (Wops_run rfl rfl (K_fin [(6, _)] rfl (?_))))
    exact K_sret (Told.mk _ rfl ⟨S, tX x1, .inl ⟨ht, rfl, q1⟩⟩)
  refine K_ss (K_reg (Wops_run rfl rfl (Wops_eq (v := false) rfl rfl (by simpa using ht) (K_fin [(0, _), (1, _), (5, _), (10, _)] rfl (?_)))))
  refine K_scond rfl (fun hc => by cases hc) (fun _ => ?_)
  refine K_sskip (K_ss (K_reg (Wops_run rfl rfl (Wops_run rfl rfl (Wops_call rfl (C66 g o.sl hn hle hz) ?_)))))
  rintro _ _ ⟨rfl, rfl⟩
  by_cases hany : es.any (tkf t) = true
  · have hge := ixG_ge.2 hany
    refine Wops_as (w := .bool true) rfl rfl (by rw [decide_eq_true hge]) (K_fin [(0, _), (1, _), (5, _), (14, _)] rfl (?_))
    refine K_scond rfl (fun _ => ?_) (fun hc => by cases hc)
    refine K_ss (K_reg (Wops_run rfl rfl (K_fin [(6, _)] rfl (?_))))
    exact K_sret (Told.mk _ rfl ⟨S, tX x1, .inr (.inl ⟨ht, hany, rfl, q1⟩)⟩)
  have hge : ¬ ixG (tkf t) es ≥ 0 := fun e => hany (ixG_ge.1 e)
  have hany' : es.any (tkf t) = false := by simpa using hany
  refine Wops_as (w := .bool false) rfl rfl (by rw [decide_eq_false hge]) (K_fin [(0, _), (1, _), (5, _), (14, _)] rfl (?_))
  refine K_scond rfl (fun hc => by cases hc) (fun _ => ?_)
  refine K_sskip (K_reg (Wops_bslice (l := []) rfl rfl fun h2 n2 x2 g2 => ?_))
  refine Wops_run rfl rfl (Wops_run rfl rfl (Wops_run rfl rfl (Wops_ld rfl (x2.some0 g) (by rfl) ?_)))
  refine Wops_rcopy rfl rfl g2 (o.ext x2).sl hn hle fun h3 a3 c3 x3 o3 b3 f3 => ?_
  refine Wops_run rfl rfl (K_fin [(0, _), (1, _), (5, _), (7, _)] rfl (?_))
  have z1 := x1.next
  have z2 := x2.next
  have z3 := x3.next
  have X13 : Ext0 h1 h3 := x2.trans x3
  have b3' : ∀ i, Blk a3 i → h1.next ≤ i := fun i r => (b3 i r).elim (fun e => by omega) (fun e => by omega)
  refine K_join (fun e h' => ∃ (a : Option Addr) (n c : Nat) (es1 : List E), (e = [(0, ptr p), (1, .int .u64 t), (5, ptr h.next), (7, .slice a n c)] ∨ e = [(0, ptr p), (1, .int .u64 t), (5, ptr h.next), (7, .slice a n c), (23, .bool false)]) ∧ begE es = some es1 ∧ es1.length = n ∧ n < 4 ∧ OwS h' 15 a n c (en entR es1) ∧ (∀ i, Blk a i → h1.next ≤ i) ∧ Ext0 h1 h') ?_ ?_
  · by_cases h4 : n0 < 4
    · refine K_reg (Wops_run rfl rfl (Wops_run rfl rfl (Wops_as (w := .bool false) rfl rfl (by rw [decide_eq_false (by omega)]) (K_fin [(0, _), (1, _), (5, _), (7, _), (23, _)] rfl (?_)))))
      refine K_cond rfl (fun hc => by cases hc) (fun _ => ?_)
      exact K_skip ⟨a3, n0, c3, es, .inr rfl, by unfold begE; rw [if_pos (by omega)], hn, h4, o3, b3', X13⟩
    obtain rfl : n0 = 4 := by omega
    obtain ⟨id, rfl, rfl, g3⟩ := f3 (by decide)
    refine K_reg (Wops_run rfl rfl (Wops_run rfl rfl (Wops_as (w := .bool true) rfl rfl rfl (K_fin [(0, _), (1, _), (5, _), (7, _), (23, _)] rfl (?_)))))
    refine K_cond rfl (fun _ => ?_) (fun hc => by cases hc)
    refine K_reg (Wops_run rfl rfl (K_fin [(0, _), (1, _), (5, _), (7, _), (8, _)] rfl (?_)))
    refine K_jblock (fun e h' => e = [(0, ptr p), (1, .int .u64 t), (5, ptr h.next), (7, .slice (some ⟨id, 0, none⟩) 4 1), (8, .int .i64 (es.findIdx E.dn)), (35, .bool false)] ∧ h3 = h') ?_ ?_
    · refine K_loop (fun k e h' => ∃ j : Nat, e = [(0, ptr p), (1, .int .u64 t), (5, ptr h.next), (7, .slice (some ⟨id, 0, none⟩) 4 1), (8, .int .i64 j)] ∧ h3 = h' ∧ j ≤ 4 ∧ k = 4 - j ∧ ∀ m (hm : m < j) (hl : m < es.length), es[m].dn = false) ?_ (k := 4) ⟨0, rfl, rfl, by omega, rfl, fun m hm => by omega⟩
      rintro k' e h' ⟨j, rfl, rfl, hj, rfl, hall⟩
      refine K_ss (K_reg (Wops_run rfl rfl (Wops_run rfl rfl (Wops_run rfl rfl ?_))))
      by_cases hj4 : j < 4
      · refine Wops_as (w := .bool true) rfl rfl (by rw [decide_eq_true (by omega)]) (Wops_run rfl rfl (Wops_go rfl (Wops_run rfl rfl (Wops_go rfl (Wops_run rfl rfl (Wops_go rfl ?_))))))
        refine Wops_iaV rfl rfl ⟨by omega, by omega⟩ ?_
        refine Wops_go rfl (Wops_run rfl rfl (Wops_go rfl (Wops_ld (v := .bool (es[j]'(by omega)).dn) rfl g3 ?_ ?_)))
        · show (en entR es)[0 + (j : Int).toNat * 15 + 9]? = _
          rw [Int.toNat_natCast, Nat.zero_add, en_at entR_len es j 9 (by omega) (by decide)]; rfl
        refine Wops_go rfl ?_
        cases hd : (es[j]'(by omega)).dn with
        | true =>
          refine Wops_run rfl rfl (Wops_run rfl rfl (K_fin [(0, _), (1, _), (5, _), (7, _), (8, _), (35, _)] rfl (?_)))
          refine K_scond rfl (fun hc => by cases hc) (fun _ => ?_)
          refine K_sexit (bx_same ⟨?_, rfl⟩)
          rw [(List.findIdx_eq (by omega)).2 ⟨hd, fun m hm => hall m hm (by omega)⟩]; rfl
        | false =>
          refine Wops_run rfl rfl (Wops_run rfl rfl (K_fin [(0, _), (1, _), (5, _), (7, _), (8, _), (35, _)] rfl (?_)))
          refine K_scond rfl (fun _ => ?_) (fun hc => by cases hc)
          refine K_sskip (K_block ?_)
          refine K_last (Wops_run rfl rfl (Wops_run rfl rfl (Wops_run rfl rfl (K_finL [(0, _), (1, _), (5, _), (7, _), (8, _)] rfl (?_)))))
          refine ⟨4 - (j + 1), by omega, j + 1, by rw [w64s (by omega)], rfl, by omega, rfl, fun m hm hl => ?_⟩
          by_cases hmj : m = j
          · subst hmj; exact hd
          · exact hall m (by omega) hl
      · obtain rfl : j = 4 := by omega
        refine Wops_as (w := .bool false) rfl rfl rfl (Wops_run rfl rfl (Wops_skip rfl (Wops_skip rfl (Wops_skip rfl (Wops_skip rfl (Wops_skip rfl (Wops_skip rfl (Wops_run rfl rfl (K_fin [(0, _), (1, _), (5, _), (7, _), (8, _), (35, _)] rfl (?_))))))))))
        refine K_scond rfl (fun hc => by cases hc) (fun _ => ?_)
        refine K_sexit (bx_same ⟨?_, rfl⟩)
        have : es.findIdx E.dn = es.length := List.findIdx_eq_length.2 fun x hx => by
          obtain ⟨m, hm, rfl⟩ := List.getElem_of_mem hx
          exact hall m (by omega) hm
        rw [this, hn]
    rintro e _ ⟨rfl, rfl⟩
    by_cases hk : es.findIdx E.dn < 4
    · generalize hkk : es.findIdx E.dn = kk at hk ⊢
      have hix : ixG E.dn es = kk := by unfold ixG; rw [hkk, if_pos (by omega)]
      refine K_ss (K_reg (Wops_run rfl rfl (Wops_run rfl rfl (Wops_run rfl rfl (Wops_eq (v := false) rfl rfl (by simp; omega) (K_fin [(0, _), (1, _), (5, _), (7, _), (8, _), (41, _)] rfl (?_)))))))
      refine K_scond rfl (fun hc => by cases hc) (fun _ => ?_)
      refine K_sskip (K_last (Wops_run rfl rfl (Wops_run rfl rfl (Wops_slV rfl rfl rfl o3.sl.ok (bounds_hi (i := kk) (by omega)) ?_))))
      refine Wops_run rfl rfl (Wops_run rfl rfl (Wops_as (w := .int .i64 ((kk + 1 : Nat) : Int)) rfl rfl (by rw [w64s (by omega)]) (Wops_slV rfl rfl rfl o3.sl.ok (bounds_lo (i := kk + 1) (by omega)) ?_)))
      have hl60 : (en entR es).length = 60 := by rw [en_length entR_len, hn]
      have hdr : ((en entR es).drop ((kk + 1) * 15)).take ((4 - (kk + 1)) * 15) = en entR (es.drop (kk + 1)) := by
        rw [en_drop entR_len (by omega), List.take_of_length_le]
        rw [en_length entR_len, List.length_drop, hn]; exact Nat.le_refl _
      have hnew : (en entR (es.drop (kk + 1))).length = (4 - (kk + 1)) * 15 := by rw [en_length entR_len, List.length_drop, hn]
      refine Wops_appIn (n := kk) (m := 4 - (kk + 1)) (off := 0) rfl rfl rfl ((o3.sl.sub (i := kk + 1) (j := 4) (by omega) (by decide)).first.trans (by rw [hdr])) g3 (by decide) (by decide) (by rw [hl60]; omega) hnew (en_cell entR_cell _) ⟨by omega, by omega⟩ fun h4 x4 g4 => ?_
      refine Wops_run rfl rfl (K_finL [(0, _), (1, _), (5, _), (7, _)] rfl (?_))
      have hlen : (es.eraseIdx kk).length = kk + (4 - (kk + 1)) := by rw [List.length_eraseIdx_of_lt (by omega)]; omega
      refine ⟨some ⟨id, 0, none⟩, kk + (4 - (kk + 1)), 1, es.eraseIdx kk, .inl rfl, by unfold begE; rw [if_neg (by omega), if_neg (by omega), hix, Int.toNat_natCast], hlen, by omega, ⟨by rw [en_length entR_len, hlen], .inr ⟨id, 0, _, rfl, g4, by rw [putL_length, hl60]; omega, ?_⟩⟩, b3', X13.then x4 fun i r => .inr (b3' i (Blk.at.2 r.symm))⟩
      have ht2 := putL_take (en entR (es.drop (kk + 1))) (en entR es) (0 + kk * 15) (by rw [hnew, hl60]; omega)
      rw [hnew] at ht2
      rw [List.drop_zero, show (kk + (4 - (kk + 1))) * 15 = 0 + kk * 15 + (4 - (kk + 1)) * 15 by omega, ht2, Nat.zero_add, en_take entR_len (by omega), ← en_app, ← List.eraseIdx_eq_take_drop_succ]
    · have hk4 : es.findIdx E.dn = 4 := by have := @List.findIdx_le_length _ E.dn es; omega
      rw [hk4]
      refine K_ss (K_reg (Wops_run rfl rfl (Wops_run rfl rfl (Wops_run rfl rfl (Wops_eq (v := true) rfl rfl rfl (K_fin [(0, _), (1, _), (5, _), (7, _), (8, _), (41, _)] rfl (?_)))))))
      refine K_scond rfl (fun _ => ?_) (fun hc => by cases hc)
      refine K_ss (K_reg (Wops_run rfl rfl (K_fin [(6, _)] rfl (?_))))
      exact K_sret (Told.mk _ rfl ⟨S, tX (x1.trans X13), .inr (.inr (.inl ⟨ht, hany', by unfold begE; rw [if_neg (by omega), if_pos (by unfold ixG; rw [hk4, if_neg (by omega)]; decide)], rfl, q1.ext0 X13⟩))⟩)
  rintro e h4 ⟨a4, n4, c4, es1, he, hb, hn4, hlt, o4, b4, X4⟩
  have g14 := X4.some0 g1
  have gp4 := X4.some0 g
  have hpl : p < h.next := qlt p ((hS p).2 (.inl rfl))
  have z4 := X4.next
  rcases he with rfl | rfl
  all_goals
    refine K_reg (Wops_run rfl rfl (Wops_run rfl rfl (Wops_run rfl rfl (Wops_ldA (l := [r0, r1, r2, r3, .slice none 0 0, r5, r6, r7]) rfl g14 (by simp) rfl (Wops_run rfl rfl ?_)))))
    refine Wops_bslice (l := entR (newE r0 r1 r2 r3 r5 r6 r7 t hr)) rfl rfl fun h5 n5 x5 g5 => ?_
    refine Wops_rapp rfl rfl (show At h5 h4.next (.cells (entR (newE r0 r1 r2 r3 r5 r6 r7 t hr)) 15 false) from g5) (o4.ext x5) (by omega) fun h6 a6 c6 x6 o6 b6 => ?_
    have z5 := x5.next
    have hp6 : ¬ Blk a6 p := fun r => (b6 p r).elim (fun r => by have := b4 p r; omega) fun r => by omega
    refine Wops_run rfl rfl (Wops_run rfl rfl (Wops_st (l := [.slice a6 (n4 + 1) c6]) rfl rfl rfl rfl (x6.some (x5.some0 gp4) (fun r => by have := b4 p r; omega)) (by simp) rfl fun h7 n7 x7 g7 => ?_))
    refine K_fin [] rfl (?_)
    refine K_reg (Wops_run rfl rfl (K_fin [(6, _)] rfl (?_)))
    have x17 : Ext S h1 h7 := ((X4.of0 (S := S)).then0 x5).then x6 (fun i r => .inr (by have := b4 i r; omega)) |>.then x7 fun i r => .inl ((hS i).2 (.inl r))
    refine K_ret (Told.mk _ rfl ⟨fun i => i = p ∨ Blk a6 i, (tX x1).trans ⟨x17, fun i r => ?_⟩, .inr (.inr (.inr ⟨ht, hany', es1, hb, rfl, ⟨a6, n4 + 1, c6, g7, o6.ext x7 (fun i r e => hp6 (by rw [← e]; exact r)), by simp [hn4], by omega, hp6, fun i => Iff.rfl⟩⟩))⟩)
    rcases r with rfl | r
    · exact .inl ((hS _).2 (.inl rfl))
    · exact .inr ((b6 i r).elim (fun r => b4 i r) fun r => by omega)

set_option maxHeartbeats 2000000 in
/-- the document's End -/
theorem C46 {h : Heap} {p : Nat} {es : List E} {t w : Int} {S : Nat → Prop} (q : Kd h p es S) (hz : ∀ x ∈ es, x.tk ≠ 0) :
    Fn Try.prog 46 [ptr p, .int .u64 t, .agg ⟨[.int .u64 0, .int .i64 0, .int .u64 w, .slice none 0 0]⟩] h fun v h' => ∃ S', Turn h h' S S' ∧
      ((ixG (tkf t) es = -1 ∧ v = .int .i64 1 ∧ Kd h' p es S') ∨
       (∃ (i : Nat) (hi : i < es.length), ixG (tkf t) es = i ∧
          ((es[i].dn = true ∧ v = .int .i64 0 ∧ Kd h' p es S') ∨
           (es[i].dn = false ∧ v = .int .i64 es[i].tm ∧ Kd h' p (es.set i (finE es[i] (.int .u64 0) (.int .i64 0) (.int .u64 w) (.slice none 0 0) rfl)) S')))) := by
  refine fnK F46.fok rfl ?_
  refine K_reg (Wops_box (cs := [.int .u64 0, .int .i64 0, .int .u64 w, .slice none 0 0]) rfl rfl fun h1 n1 x1 g1 => Wops_run rfl rfl (K_fin [(0, _), (1, _), (5, _)] rfl (?_)))
  have q1 := q.ext0 x1
  have qlt : ∀ i, S i → i < h.next := fun i r => q.lt r
  have tX : ∀ {h3 : Heap}, Ext0 h h3 → Turn h h3 S S := fun x => ⟨x.of0, fun i r => .inl r⟩
  obtain ⟨a0, n0, c0, g, o, hn, hle, hpa, hS⟩ := id q1
  refine K_reg (Wops_run rfl rfl (Wops_run rfl rfl (Wops_call rfl (C66 g o.sl hn hle hz) ?_)))
  rintro _ _ ⟨rfl, rfl⟩
  refine Wops_run rfl rfl (K_fin [(0, _), (5, _), (7, _)] rfl (?_))
  rcases ixG_cases (tkf t) es with ⟨hix, _⟩ | ⟨i, hi, hix, hp, _⟩
  · rw [hix]
    refine K_ss (K_reg (Wops_run rfl rfl (Wops_run rfl rfl (K_fin [(0, _), (5, _), (7, _), (12, _)] rfl (?_)))))
    refine K_scond rfl (fun _ => ?_) (fun hc => by cases hc)
    refine K_ss (K_reg (Wops_run rfl rfl (K_fin [(6, _)] rfl (?_))))
    exact K_sret (Told.mk _ rfl ⟨S, tX x1, .inl ⟨rfl, rfl, q1⟩⟩)
  rw [hix]
  refine K_ss (K_reg (Wops_run rfl rfl (Wops_as (w := .bool false) rfl rfl (by rw [decide_eq_false (by omega)]) (K_fin [(0, _), (5, _), (7, _), (12, _)] rfl (?_)))))
  refine K_scond rfl (fun hc => by cases hc) (fun _ => ?_)
  refine K_sskip (K_ss (K_reg (Wops_run rfl rfl (Wops_run rfl rfl (Wops_run rfl rfl (Wops_ld rfl g (by rfl) ?_))))))
  refine Wops_run rfl rfl (Wops_idxF (u := .bool es[i].dn) rfl rfl o.sl ⟨by omega, by omega⟩ (by decide) (by rw [Int.toNat_natCast, en_at entR_len es i 9 (by omega) (by decide)]; rfl) fun _ _ => ?_)
  refine K_fin [(0, _), (5, _), (7, _), (20, _)] rfl (?_)
  refine K_scond rfl (fun hd => ?_) (fun hd => ?_)
  · refine K_ss (K_reg (Wops_run rfl rfl (K_fin [(6, _)] rfl (?_))))
    exact K_sret (Told.mk _ rfl ⟨S, tX x1, .inr ⟨i, hi, rfl, .inl ⟨hd, rfl, q1⟩⟩⟩)
  refine K_sskip (K_reg (Wops_run rfl rfl (Wops_bslice (l := []) rfl rfl fun h2 n2 x2 g2 => ?_)))
  refine Wops_run rfl rfl (Wops_run rfl rfl (Wops_run rfl rfl (Wops_ld rfl (x2.some0 g) (by rfl) ?_)))
  refine Wops_rcopy rfl rfl g2 (o.ext x2).sl hn hle fun h3 a3 c3 x3 o3 b3 f3 => ?_
  obtain ⟨id, rfl, rfl, g3⟩ := f3 (by omega)
  have z1 := x1.next
  have z2 := x2.next
  have z3 := x3.next
  have X13 : Ext0 h1 h3 := x2.trans x3
  have hpl : p < h.next := qlt p ((hS p).2 (.inl rfl))
  have hid : h1.next ≤ id := (b3 id (Blk.at.2 rfl)).elim (fun e => by omega) (fun e => by omega)
  have hpi : p ≠ id := by omega
  refine Wops_run rfl rfl (Wops_run rfl rfl (Wops_st (l := [.slice (some ⟨id, 0, none⟩) n0 1]) rfl rfl rfl rfl (X13.some0 g) (by simp) rfl fun h4 n4 x4 g4 => ?_))
  refine K_fin [(0, _), (5, _), (7, _)] rfl (?_)
  have g34 : At h4 id (.cells (en entR es) 15 false) := At.ext (o := .cells (en entR es) 15 false) g3 x4 (fun e => hpi e.symm)
  have gp4 : At h4 p (.cells [.slice (some ⟨id, 0, none⟩) n0 1] 0 false) := g4
  have g14 : At h4 h.next (.cells [.int .u64 0, .int .i64 0, .int .u64 w, .slice none 0 0] 0 false) := x4.some (X13.some0 g1) (by omega)
  have hlen : (en entR es).length = n0 * 15 := by rw [en_length entR_len, hn]
  refine K_reg (Wops_run rfl rfl (Wops_run rfl rfl (Wops_run rfl rfl (Wops_ld rfl gp4 (by rfl) ?_))))
  refine Wops_run rfl rfl (Wops_run rfl rfl (Wops_run rfl rfl (Wops_run rfl rfl (Wops_ld rfl gp4 (by rfl) ?_))))
  refine Wops_run rfl rfl (Wops_ldA (l := [.int .u64 0, .int .i64 0, .int .u64 w, .slice none 0 0]) rfl g14 (by simp) rfl ?_)
  refine Wops_iaV rfl rfl ⟨by omega, by omega⟩ (Wops_run rfl rfl (Wops_st (l := [.bool true]) rfl rfl rfl rfl g34 ?_ rfl fun h5 n5 x5 g5 => ?_))
  · rw [hlen, Int.toNat_natCast]; omega
  have g15 := x5.some g14 (by omega)
  refine Wops_chkA rfl rfl g15 (by simp) rfl (by simp [sameCells, sameCell]) ?_
  refine Wops_iaV rfl rfl ⟨by omega, by omega⟩ (Wops_run rfl rfl (Wops_st (l := [.int .u64 0, .int .i64 0, .int .u64 w, .slice none 0 0]) rfl rfl rfl rfl g5 ?_ rfl fun h6 n6 x6 g6 => ?_))
  · rw [putL_length, hlen, Int.toNat_natCast]; omega
  refine K_fin [(0, _), (7, _)] rfl (?_)
  rw [Int.toNat_natCast] at g6
  let xf : E := finE es[i] (.int .u64 0) (.int .i64 0) (.int .u64 w) (.slice none 0 0) rfl
  have w0 : ((en entR es).drop 0).take (n0 * 15) = en entR es := by rw [List.drop_zero, List.take_of_length_le (by omega)]
  have w1 := win_part entR_len w0 hn (by omega) (i := i) (r := 9) (x := { es[i] with dn := true }) (l := [.bool true]) hi (by decide) rfl
  have w2 := win_part entR_len w1 (by simp [hn]) (by rw [putL_length]; omega) (i := i) (r := 10) (x := xf) (l := [.int .u64 0, .int .i64 0, .int .u64 w, .slice none 0 0]) (by simpa using hi) (by simp) (by rw [List.getElem_set_self]; rfl)
  rw [List.set_set] at w2
  have o6 : OwS h6 15 (some ⟨id, 0, none⟩) n0 1 (en entR (es.set i xf)) := ⟨by rw [en_length entR_len, List.length_set, hn], .inr ⟨id, 0, _, rfl, g6, by rw [putL_length, putL_length]; omega, w2⟩⟩
  have gp6 := (gp4.ext x5 hpi).ext x6 hpi
  refine K_reg (Wops_run rfl rfl (Wops_run rfl rfl (Wops_run rfl rfl (Wops_ld rfl gp6 (by rfl) ?_))))
  refine Wops_run rfl rfl (Wops_idxF (u := .int .i64 es[i].tm) rfl rfl o6.sl ⟨by omega, by omega⟩ (by decide) (by rw [Int.toNat_natCast, en_at entR_len (es.set i xf) i 14 (by simpa using hi) (by decide), List.getElem_set_self]; rfl) fun _ _ => ?_)
  refine Wops_run rfl rfl (K_fin [(6, _)] rfl (?_))
  have x16 : Ext S h1 h6 := (((X13.of0 (S := S)).then x4 fun j r => .inl ((hS j).2 (.inl r))).then x5 fun j r => .inr (by omega)).then x6 fun j r => .inr (by omega)
  refine K_ret (Told.mk _ rfl ⟨fun j => j = p ∨ Blk (some ⟨id, 0, none⟩) j, (tX x1).trans ⟨x16, fun j r => ?_⟩, .inr ⟨i, hi, rfl, .inr ⟨hd, rfl, ⟨_, n0, 1, gp6, o6, by simp [hn], hle, fun r => hpi (Blk.at.1 r).symm, fun j => Iff.rfl⟩⟩⟩⟩)
  rcases r with rfl | r
  · exact .inl ((hS _).2 (.inl rfl))
  · rw [Blk.at] at r; exact .inr (by omega)
end Go.Dx.SYtpbibdlmiomhbaa
