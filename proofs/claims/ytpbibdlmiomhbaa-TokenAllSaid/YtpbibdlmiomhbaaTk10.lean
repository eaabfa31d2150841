/- The document's Ask, SameRequest, SameReply; copies; no cache at all. -/
import Derived.Test.YtpbibdlmiomhbaaTk9
namespace Go.Dx.SYtpbibdlmiomhbaa
open Go.Proofs
set_option linter.unusedVariables false
set_option linter.unusedSimpArgs false

/-- A request of a kind, and of a handle. -/
abbrev rqK (k d : Int) : List Value := rqL k 0 d ByteArray.empty none 0 0
theorem C64k {h : Heap} {k1 k2 d1 d2 : Int} : Fn Try.prog 64 [.agg ⟨rqK k1 d1⟩, .agg ⟨rqK k2 d2⟩] h fun v h' => v = .bool (k1 == k2 && d1 == d2) ∧ h = h' := by
  refine (C64 (xs := []) (ys := []) SlA.none SlA.none (by omega)).mono ?_
  rintro v h' ⟨rfl, rfl⟩
  exact ⟨by simp, rfl⟩
/-- SameRequest -/
theorem C67 {h : Heap} {k1 k2 d1 d2 : Int} : Fn Try.prog 67 [.agg ⟨rqK k1 d1⟩, .agg ⟨rqK k2 d2⟩] h fun v h' => v = .bool (k1 == k2 && d1 == d2) ∧ h = h' := by
  refine Fn.gc (Q := fun v h' => v = .bool (k1 == k2 && d1 == d2) ∧ Ext0 h h') (R := fun v => v = .bool (k1 == k2 && d1 == d2)) ?_ fun v h' q => ⟨q.2, by rw [q.1]; rfl, q.1⟩
  refine fnK F67.fok rfl ?_
  refine K_reg (Wops_box (cs := rqK k1 d1) rfl rfl fun h1 e1 x1 g1 => Wops_box (cs := rqK k2 d2) rfl rfl fun h2 e2 x2 g2 => Wops_run rfl rfl (K_fin [(2, _), (3, _)] rfl (?_)))
  have g1' := x2.some0 g1
  have X : Ext0 h h2 := x1.trans x2
  refine K_reg (Wops_run rfl rfl (Wops_ld rfl g1' (by rfl) (Wops_run rfl rfl (Wops_ld rfl g2 (by rfl) (Wops_eq (v := k1 == k2) rfl rfl rfl ?_)))))
  cases hk : (k1 == k2) with
  | false =>
    refine Wops_run rfl rfl ?_
    repeat (first | refine Wops_skip rfl ?_ | refine Wops_run rfl rfl ?_)
    exact K_fin [(4, _)] rfl (K_ret (Told.mk _ rfl ⟨rfl, X⟩))
  | true =>
  refine Wops_run rfl rfl (Wops_go rfl (Wops_run rfl rfl (Wops_go rfl (Wops_ld rfl g1' (by rfl) (Wops_go rfl (Wops_run rfl rfl (Wops_go rfl (Wops_ld rfl g2 (by rfl) (Wops_go rfl (Wops_run rfl rfl ?_))))))))))
  refine Wops_run rfl rfl (Wops_run rfl rfl (Wops_go rfl (Wops_run rfl rfl (Wops_go rfl (Wops_ld rfl g1' (by rfl) (Wops_go rfl (Wops_run rfl rfl (Wops_go rfl (Wops_ld rfl g2 (by rfl) (Wops_go rfl (Wops_eq (v := d1 == d2) rfl rfl rfl ?_)))))))))))
  cases hd : (d1 == d2) with
  | false =>
    refine Wops_run rfl rfl (Wops_run rfl rfl ?_)
    repeat (first | refine Wops_skip rfl ?_ | refine Wops_run rfl rfl ?_)
    exact K_fin [(4, _)] rfl (K_ret (Told.mk _ rfl ⟨rfl, X⟩))
  | true =>
  refine Wops_run rfl rfl (Wops_run rfl rfl (Wops_go rfl (Wops_run rfl rfl (Wops_go rfl (Wops_ld rfl g1' (by rfl) (Wops_go rfl (Wops_run rfl rfl (Wops_go rfl (Wops_ld rfl g2 (by rfl) (Wops_go rfl (Wops_streq (v := true) rfl rfl (by simp) ?_)))))))))))
  refine Wops_run rfl rfl (Wops_run rfl rfl (Wops_go rfl (Wops_run rfl rfl (Wops_go rfl (Wops_ld rfl g1' (by rfl) (Wops_go rfl (Wops_run rfl rfl (Wops_go rfl (Wops_run rfl rfl (Wops_go rfl (Wops_ld rfl g2 (by rfl) (Wops_go rfl (Wops_run rfl rfl (Wops_go rfl (Wops_streq (v := true) rfl rfl (by simp) ?_)))))))))))))))
  refine Wops_run rfl rfl (Wops_run rfl rfl (Wops_go rfl (Wops_run rfl rfl (Wops_go rfl (Wops_ld rfl g1' (by rfl) (Wops_go rfl (Wops_run rfl rfl (Wops_go rfl (Wops_ld rfl g2 (by rfl) (Wops_go rfl (Wops_call rfl (C34 (xs := []) (ys := []) SlA.none SlA.none (by omega)) ?_)))))))))))
  rintro _ _ ⟨rfl, rfl⟩
  refine Wops_run rfl rfl (Wops_run rfl rfl (Wops_go rfl (Wops_run rfl rfl (Wops_go rfl (Wops_ld rfl g1' (by rfl) (Wops_go rfl (Wops_run rfl rfl (Wops_go rfl (Wops_ld rfl g2 (by rfl) (Wops_go rfl (Wops_run rfl rfl ?_)))))))))))
  refine Wops_run rfl rfl (Wops_run rfl rfl (Wops_go rfl (Wops_run rfl rfl (Wops_go rfl (Wops_ld rfl g1' (by rfl) (Wops_go rfl (Wops_run rfl rfl (Wops_go rfl (Wops_ld rfl g2 (by rfl) (Wops_go rfl (Wops_run rfl rfl ?_)))))))))))
  refine Wops_run rfl rfl (Wops_run rfl rfl (K_fin [(4, _)] rfl ?_))
  exact K_ret (Told.mk _ rfl ⟨rfl, X⟩)

abbrev rpW (w : Int) : List Value := [.int .u64 0, .int .i64 0, .int .u64 w, .slice none 0 0]
/-- SameReply -/
theorem C45 {h : Heap} {w : Int} : Fn Try.prog 45 [.agg ⟨rpW w⟩, .agg ⟨rpW w⟩] h fun v h' => v = .bool true ∧ h = h' := by
  refine Fn.gc (Q := fun v h' => v = .bool true ∧ Ext0 h h') (R := fun v => v = .bool true) ?_ fun v h' q => ⟨q.2, by rw [q.1]; rfl, q.1⟩
  refine fnK F45.fok rfl ?_
  refine K_reg (Wops_box (cs := rpW w) rfl rfl fun h1 e1 x1 g1 => Wops_box (cs := rpW w) rfl rfl fun h2 e2 x2 g2 => Wops_run rfl rfl (K_fin [(2, _), (3, _)] rfl (?_)))
  have g1' := x2.some0 g1
  have X : Ext0 h h2 := x1.trans x2
  refine K_reg (Wops_run rfl rfl (Wops_ld rfl g1' (by rfl) (Wops_run rfl rfl (Wops_ld rfl g2 (by rfl) (Wops_run rfl rfl ?_)))))
  refine Wops_run rfl rfl (Wops_go rfl (Wops_run rfl rfl (Wops_go rfl (Wops_ld rfl g1' (by rfl) (Wops_go rfl (Wops_run rfl rfl (Wops_go rfl (Wops_ld rfl g2 (by rfl) (Wops_go rfl (Wops_run rfl rfl ?_))))))))))
  refine Wops_run rfl rfl (Wops_run rfl rfl (Wops_go rfl (Wops_run rfl rfl (Wops_go rfl (Wops_ld rfl g1' (by rfl) (Wops_go rfl (Wops_run rfl rfl (Wops_go rfl (Wops_ld rfl g2 (by rfl) (Wops_go rfl (Wops_eq (v := true) rfl rfl (by simp) ?_)))))))))))
  refine Wops_run rfl rfl (Wops_run rfl rfl (Wops_go rfl (Wops_run rfl rfl (Wops_go rfl (Wops_ld rfl g1' (by rfl) (Wops_go rfl (Wops_run rfl rfl (Wops_go rfl (Wops_ld rfl g2 (by rfl) (Wops_go rfl (Wops_call rfl (C34 (xs := []) (ys := []) SlA.none SlA.none (by omega)) ?_)))))))))))
  rintro _ _ ⟨rfl, rfl⟩
  refine Wops_run rfl rfl (Wops_run rfl rfl (K_fin [(4, _)] rfl ?_))
  exact K_ret (Told.mk _ rfl ⟨rfl, X⟩)

set_option maxHeartbeats 2000000 in
/-- the document's Ask -/
theorem C44 {h : Heap} {p : Nat} {es : List E} {t : Int} {S : Nat → Prop} {rq : List Value} {b : E → Bool} (q : Kd h p es S) (hz : ∀ x ∈ es, x.tk ≠ 0) (hrl : rq.length = 8)
    (hsame : ∀ x ∈ es, ∀ h1, Ext0 h h1 → Fn Try.prog 67 [.agg ⟨x.rq⟩, .agg ⟨rq⟩] h1 fun v h' => v = .bool (b x) ∧ h1 = h') (htm : ∀ x ∈ es, 0 ≤ x.tm ∧ x.tm ≤ 1000000) :
    Fn Try.prog 44 [ptr p, .int .u64 t, .agg ⟨rq⟩] h fun v h' => ∃ S', Turn h h' S S' ∧
      ((ixG (tkf t) es = -1 ∧ v = askV false false rp0 0 ∧ Kd h' p es S') ∨
       (∃ (i : Nat) (hi : i < es.length), ixG (tkf t) es = i ∧
          ((b es[i] = false ∧ v = askV true false rp0 16 ∧ Kd h' p es S') ∨
           (b es[i] = true ∧ es[i].dn = false ∧ v = askV true false es[i].rp 0 ∧ Kd h' p (es.set i { es[i] with tm := es[i].tm + 1 }) S') ∨
           (b es[i] = true ∧ es[i].dn = true ∧ v = askV true true es[i].rp 0 ∧ Kd h' p es S')))) := by
  refine fnK F44.fok rfl ?_
  refine K_reg (Wops_box (cs := rq) rfl rfl fun h1 n1 x1 g1 => Wops_run rfl rfl (Wops_run rfl rfl (Wops_new fun h2 n2 x2 g2 => Wops_run rfl rfl (K_fin [(0, _), (1, _), (5, _), (8, _)] rfl (?_)))))
  have X : Ext0 h h2 := x1.trans x2
  have z1 := x1.next
  have z2 := x2.next
  have q2 := q.ext0 X
  have g12 := x2.some0 g1
  have qlt : ∀ i, S i → i < h.next := fun i r => q.lt r
  have tX : ∀ {h3 : Heap}, Ext0 h h3 → Turn h h3 S S := fun x => ⟨x.of0, fun i r => .inl r⟩
  obtain ⟨a0, n0, c0, g, o, hn, hle, hpa, hS⟩ := id q2
  have fin8 : ∀ {h3 : Heap} {l : List Value} {kb db : Bool} {e : Int}, h3.get h1.next = some (.cells (putL rp0 0 l) 0 false) → l.length = 4 → resL [(6, .bool kb), (7, .bool db), (8, ptr h1.next), (9, .int .i64 e)] h3 F44.res = some [.bool kb, .bool db, .agg ⟨l⟩, .int .i64 e] := by
    intro h3 l kb db e g3 hl
    refine resL_cons rfl (resL_cons rfl (resL_cons (res_c (l := l) rfl g3 (by rw [putL_length]; decide) ?_) (resL_cons rfl rfl)))
    match l, hl with
    | [l0, l1, l2, l3], _ => rfl
  refine K_reg (Wops_run rfl rfl (Wops_run rfl rfl (Wops_call rfl (C66 g o.sl hn hle hz) ?_)))
  rintro _ _ ⟨rfl, rfl⟩
  refine Wops_run rfl rfl (K_fin [(0, _), (5, _), (8, _), (10, _)] rfl (?_))
  rcases ixG_cases (tkf t) es with ⟨hix, _⟩ | ⟨i, hi, hix, hp, _⟩
  · rw [hix]
    refine K_ss (K_reg (Wops_run rfl rfl (Wops_run rfl rfl (K_fin [(0, _), (5, _), (8, _), (10, _), (16, _)] rfl (?_)))))
    refine K_scond rfl (fun _ => ?_) (fun hc => by cases hc)
    refine K_ss (K_reg (Wops_run rfl rfl (Wops_run rfl rfl (Wops_run rfl rfl (Wops_st (l := rp0) rfl rfl rfl rfl g2 (by simp) rfl fun h3 n3 x3 g3 => ?_)))))
    refine Wops_run rfl rfl (K_fin [(6, _), (7, _), (8, _), (9, _)] rfl (?_))
    have x3' : Ext0 h h3 := X.then x3 fun i r => .inr (by omega)
    exact K_sret (Told.mk _ (fin8 g3 rfl) ⟨S, tX x3', .inl ⟨rfl, rfl, q.ext0 x3'⟩⟩)
  rw [hix]
  have hmem := List.getElem_mem hi
  refine K_ss (K_reg (Wops_run rfl rfl (Wops_as (w := .bool false) rfl rfl (by rw [decide_eq_false (by omega)]) (K_fin [(0, _), (5, _), (8, _), (10, _), (16, _)] rfl (?_)))))
  refine K_scond rfl (fun hc => by cases hc) (fun _ => ?_)
  refine K_sskip (K_reg (Wops_run rfl rfl (Wops_run rfl rfl (Wops_run rfl rfl (Wops_ld rfl g (by rfl) ?_)))))
  refine Wops_run rfl rfl (Wops_elA entR_len rfl rfl o.sl hn hi fun _ => ?_)
  refine Wops_new fun h3 n3 x3 g3 => Wops_st (l := entR es[i]) rfl rfl rfl rfl g3 (by simp) (entR_cell _) fun h4 n4 x4 g4 => ?_
  have z3 := x3.next
  have X24 : Ext0 h2 h4 := x3.then x4 fun j r => .inr (by omega)
  have X04 : Ext0 h h4 := X.trans X24
  have z4 : h4.next = h3.next := n4
  refine K_fin [(0, _), (5, _), (8, _), (10, _), (11, _)] rfl (?_)
  have g14 := X24.some0 g12
  have g24 := X24.some0 g2
  have gp4 : At h4 p (.cells [.slice a0 n0 c0] 0 false) := X24.some0 g
  have o4 := o.ext X24
  have e4 : h4.get h2.next = some (.cells (entR es[i]) 0 false) := by
    rw [g4]; rfl
  refine K_ss (K_reg (Wops_run rfl rfl (Wops_ldA (l := es[i].rq) rfl e4 (by rw [entR_len]; decide) rfl ?_)))
  refine Wops_ldA (l := rq) rfl g14 (by show 0 + 8 ≤ rq.length; omega) (by rw [List.drop_zero]; exact List.take_of_length_le (by omega)) ?_
  refine Wops_call rfl (hsame _ hmem _ X04) ?_
  rintro _ _ ⟨rfl, rfl⟩
  cases hb : b es[i] with
  | false =>
    refine Wops_run rfl rfl (K_fin [(0, _), (8, _), (10, _), (11, _), (29, _)] rfl (?_))
    refine K_scond rfl (fun _ => ?_) (fun hc => by cases hc)
    refine K_ss (K_reg (Wops_run rfl rfl (Wops_run rfl rfl (Wops_run rfl rfl (Wops_st (l := rp0) rfl rfl rfl rfl g24 (by simp) rfl fun h5 n5 x5 g5 => ?_)))))
    refine Wops_run rfl rfl (K_fin [(6, _), (7, _), (8, _), (9, _)] rfl (?_))
    have x5' : Ext0 h h5 := X04.then x5 fun i r => .inr (by omega)
    exact K_sret (Told.mk _ (fin8 g5 rfl) ⟨S, tX x5', .inr ⟨i, hi, rfl, .inl ⟨hb, rfl, q.ext0 x5'⟩⟩⟩)
  | true =>
  refine Wops_run rfl rfl (K_fin [(0, _), (8, _), (10, _), (11, _), (29, _)] rfl (?_))
  refine K_scond rfl (fun hc => by cases hc) (fun _ => ?_)
  refine K_sskip ?_
  cases hdn : es[i].dn with
  | true =>
    refine K_ss (K_reg (Wops_run rfl rfl (Wops_ld (v := .bool true) rfl e4 (by rw [← hdn]; rfl) ?_)))
    refine Wops_run rfl rfl (K_fin [(0, _), (8, _), (10, _), (11, _), (33, _)] rfl (?_))
    refine K_scond rfl (fun hc => by cases hc) (fun _ => ?_)
    refine K_sskip (K_reg (Wops_run rfl rfl (Wops_ld (v := .bool true) rfl e4 (by rw [← hdn]; rfl) ?_)))
    refine Wops_run rfl rfl (Wops_ldA (l := es[i].rp) rfl e4 (by rw [entR_len]; decide) rfl ?_)
    refine Wops_run rfl rfl (Wops_run rfl rfl (Wops_st (l := es[i].rp) rfl rfl rfl rfl g24 (by simp) (E.rp_cell _) fun h5 n5 x5 g5 => ?_))
    refine Wops_run rfl rfl (K_fin [(6, _), (7, _), (8, _), (9, _)] rfl (?_))
    have x5' : Ext0 h h5 := X04.then x5 fun i r => .inr (by omega)
    exact K_ret (Told.mk _ (fin8 g5 rfl) ⟨S, tX x5', .inr ⟨i, hi, rfl, .inr (.inr ⟨hb, hdn, rfl, q.ext0 x5'⟩)⟩⟩)
  | false =>
    have htmi := htm _ hmem
    refine K_ss (K_reg (Wops_run rfl rfl (Wops_ld (v := .bool false) rfl e4 (by rw [← hdn]; rfl) ?_)))
    refine Wops_run rfl rfl (K_fin [(0, _), (8, _), (10, _), (11, _), (33, _)] rfl (?_))
    refine K_scond rfl (fun _ => ?_) (fun hc => by cases hc)
    refine K_ss (K_reg (Wops_run rfl rfl (Wops_bslice (l := []) rfl rfl fun h5 n5 x5 g5 => ?_)))
    refine Wops_run rfl rfl (Wops_run rfl rfl (Wops_run rfl rfl (Wops_ld rfl (x5.some0 gp4) (by rfl) ?_)))
    refine Wops_rcopy rfl rfl g5 (o4.ext x5).sl hn hle fun h6 a6 c6 x6 o6 b6 f6 => ?_
    obtain ⟨id, rfl, rfl, g6⟩ := f6 (by omega)
    have z5 := x5.next
    have z6 := x6.next
    have X46 : Ext0 h4 h6 := x5.trans x6
    have hpl : p < h.next := qlt p ((hS p).2 (.inl rfl))
    have hid : h4.next ≤ id := (b6 id (Blk.at.2 rfl)).elim (fun e => by omega) (fun e => by omega)
    have hpi : p ≠ id := by omega
    refine Wops_run rfl rfl (Wops_run rfl rfl (Wops_st (l := [.slice (some ⟨id, 0, none⟩) n0 1]) rfl rfl rfl rfl (X46.some0 gp4) (by simp) rfl fun h7 n7 x7 g7 => ?_))
    refine K_fin [(0, _), (8, _), (10, _), (11, _)] rfl (?_)
    have g67 : At h7 id (.cells (en entR es) 15 false) := At.ext (o := .cells (en entR es) 15 false) g6 x7 (fun e => hpi e.symm)
    have gp7 : At h7 p (.cells [.slice (some ⟨id, 0, none⟩) n0 1] 0 false) := g7
    have hlen : (en entR es).length = n0 * 15 := by rw [en_length entR_len, hn]
    refine K_reg (Wops_run rfl rfl (Wops_run rfl rfl (Wops_run rfl rfl (Wops_ld rfl gp7 (by rfl) ?_))))
    refine Wops_run rfl rfl (Wops_iaV rfl rfl ⟨by omega, by omega⟩ ?_)
    refine Wops_run rfl rfl (Wops_ld (v := .int .i64 es[i].tm) rfl g67 ?_ ?_)
    · show (en entR es)[0 + (i : Int).toNat * 15 + 14]? = _
      rw [Int.toNat_natCast, Nat.zero_add, en_at entR_len es i 14 hi (by decide)]; rfl
    refine Wops_as (w := .int .i64 (es[i].tm + 1)) rfl rfl (by rw [w64 (by omega)]) (Wops_iaV rfl rfl ⟨by omega, by omega⟩ (Wops_run rfl rfl (Wops_st (l := [.int .i64 (es[i].tm + 1)]) rfl rfl rfl rfl g67 ?_ rfl fun h8 n8 x8 g8 => ?_)))
    · rw [hlen, Int.toNat_natCast]; simp; omega
    refine K_fin [(8, _), (11, _)] rfl (?_)
    rw [Int.toNat_natCast] at g8
    have w0 : ((en entR es).drop 0).take (n0 * 15) = en entR es := by rw [List.drop_zero, List.take_of_length_le (by omega)]
    have w1 := win_part entR_len w0 hn (by omega) (i := i) (r := 14) (x := { es[i] with tm := es[i].tm + 1 }) (l := [.int .i64 (es[i].tm + 1)]) hi (by simp) rfl
    have o8 : OwS h8 15 (some ⟨id, 0, none⟩) n0 1 (en entR (es.set i { es[i] with tm := es[i].tm + 1 })) := ⟨by rw [en_length entR_len, List.length_set, hn], .inr ⟨id, 0, _, rfl, g8, by rw [putL_length]; omega, w1⟩⟩
    have gp8 := gp7.ext x8 hpi
    have e48 : h8.get h2.next = some (.cells (entR es[i]) 0 false) := x8.some (x7.some (X46.some0 e4) (by omega)) (by omega)
    have g28 := x8.some (x7.some (X46.some0 g24) (by omega)) (show ¬ h1.next = id by omega)
    refine K_reg (Wops_run rfl rfl (Wops_ld (v := .bool false) rfl e48 (by rw [← hdn]; rfl) ?_))
    refine Wops_run rfl rfl (Wops_ldA (l := es[i].rp) rfl e48 (by rw [entR_len]; decide) rfl ?_)
    refine Wops_run rfl rfl (Wops_run rfl rfl (Wops_st (l := es[i].rp) rfl rfl rfl rfl g28 (by simp) (E.rp_cell _) fun h9 n9 x9 g9 => ?_))
    refine Wops_run rfl rfl (K_fin [(6, _), (7, _), (8, _), (9, _)] rfl (?_))
    have x09 : Ext S h h9 := ((((X04.trans X46).of0 (S := S)).then x7 fun j r => .inl ((hS j).2 (.inl r))).then x8 fun j r => .inr (by omega)).then x9 fun j r => .inr (by omega)
    refine K_ret (Told.mk _ (fin8 g9 rfl) ⟨fun j => j = p ∨ Blk (some ⟨id, 0, none⟩) j, ⟨x09, fun j r => ?_⟩, .inr ⟨i, hi, rfl, .inr (.inl ⟨hb, hdn, rfl, ⟨_, n0, 1, gp8.ext x9 (by omega), o8.ext x9 (fun j r => by rw [Blk.at] at r; omega), by simp [hn], hle, fun r => hpi (Blk.at.1 r).symm, fun j => Iff.rfl⟩⟩)⟩⟩)
    rcases r with rfl | r
    · exact .inl ((hS _).2 (.inl rfl))
    · rw [Blk.at] at r; exact .inr (by omega)

/-- slices.Clone of entries, into what may be appended to -/
theorem C68 {h : Heap} {a : Option Addr} {n c : Nat} {es : List E} (k : Kp h a n c es) : Fn Try.prog 68 [.slice a n c] h fun v h' => ∃ a' c', v = .slice a' n c' ∧ Kp h' a' n c' es ∧ Ext0 h h' ∧ ∀ i, Blk a' i → h.next ≤ i := by
  refine fnK F68.fok rfl ?_
  refine K_reg (Wops_run rfl rfl (K_fin [(0, _)] rfl (?_)))
  have hle := k.le
  have hlen := k.len
  have s := k.ow.sl
  rcases k with ⟨rfl, rfl, rfl, rfl⟩ | ⟨id, vs, rfl, h1, h2, h3, h4, h5, h6⟩
  · refine K_ss (K_reg (Wops_run rfl rfl (Wops_run rfl rfl (K_fin [(0, _), (4, _)] rfl (?_)))))
    refine K_scond rfl (fun hc => ?_) (fun hc => by cases hc)
    refine K_ss (K_reg (Wops_run rfl rfl (K_fin [(2, _)] rfl (?_))))
    exact K_sret (Told.mk _ rfl ⟨none, 0, rfl, .inl ⟨rfl, rfl, rfl, rfl⟩, Ext.refl _ _, fun i q => absurd q Blk.none⟩)
  · refine K_ss (K_reg (Wops_run rfl rfl (Wops_run rfl rfl (K_fin [(0, _), (4, _)] rfl (?_)))))
    refine K_scond rfl (fun hc => by cases hc) (fun hc => ?_)
    refine K_sskip (K_reg (Wops_bslice (l := []) rfl rfl fun h1' n1 x1 g1 => ?_))
    by_cases hn0 : n = 0
    · subst hn0
      have : es = [] := List.eq_nil_of_length_eq_zero hlen
      subst this
      refine Wops_run rfl rfl (Wops_run rfl rfl (Wops_run rfl rfl (K_fin [(2, _)] rfl (?_))))
      exact K_ret (Told.mk _ rfl ⟨_, 0, rfl, .inr ⟨_, [], rfl, fun _ => rfl, g1, by simp, by simp, by simp [en], rfl⟩, x1, fun i r => by rw [Blk.at] at r; omega⟩)
    · refine Wops_run rfl rfl (Wops_app0 rfl rfl rfl (s.ext x1).first ⟨by omega, by omega⟩ s.len (by omega) fun h2' n2 x2 g2 => ?_)
      refine Wops_run rfl rfl (K_fin [(2, _)] rfl (?_))
      have hl : (en ent es).length = n * 15 := s.len
      exact K_ret (Told.mk _ rfl ⟨_, 1, rfl, .inr ⟨_, _, rfl, (fun e => by cases e), g2, by omega, by omega, by rw [List.drop_zero, List.take_of_length_le (by omega)], hlen⟩, x1.trans x2, fun i r => by rw [Blk.at] at r; omega⟩)
end Go.Dx.SYtpbibdlmiomhbaa
