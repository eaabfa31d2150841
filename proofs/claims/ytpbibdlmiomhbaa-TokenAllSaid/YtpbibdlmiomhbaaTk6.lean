/- Contracts of token's functions: Same, Ask. -/
import Derived.Test.YtpbibdlmiomhbaaTk5
namespace Go.Dx.SYtpbibdlmiomhbaa
open Go.Proofs
set_option linter.unusedVariables false
set_option linter.unusedSimpArgs false

set_option maxRecDepth 100000 in
theorem equal72_run : isTrue (fnR T 600 72 [.slice none 0 0, .slice none 0 0] Heap.empty) = true := by kernel_rfl
theorem C72n {h : Heap} : Fn Try.prog 72 [.slice none 0 0, .slice none 0 0] h fun v h' => v = .bool true ∧ h = h' :=
  Fn.anywhere (R := fun v => v = .bool true) rfl (fn_of_true T.ok equal72_run) fun v h' q => ⟨by rw [q]; rfl, q⟩

/-- slices.Equal -/
theorem C73 {h : Heap} {a b : Option Addr} {n m c d : Nat} {xs ys : List Int} (s : SlA h 1 a n c (us xs)) (s2 : SlA h 1 b m d (us ys)) (hb : n ≤ 1000000) :
    Fn Try.prog 73 [.slice a n c, .slice b m d] h fun v h' => v = .bool (decide (xs = ys)) ∧ h = h' := by
  have hn : xs.length = n := by simpa using s.len
  have hm : ys.length = m := by simpa using s2.len
  refine fnK F73.fok rfl ?_
  refine K_reg (Wops_run rfl rfl (K_fin [(0, _), (1, _)] rfl (?_)))
  refine K_ss (K_reg (Wops_run rfl rfl (Wops_run rfl rfl (Wops_run rfl rfl (Wops_run rfl rfl (Wops_run rfl rfl (K_fin [(0, _), (1, _), (10, _)] rfl (?_))))))))
  refine K_scond rfl (fun hc => ?_) (fun hc => ?_)
  · have hne : n ≠ m := fun e => by subst e; simp at hc
    refine K_ss (K_reg (Wops_run rfl rfl (K_fin [(4, _)] rfl (?_))))
    refine K_sret (Told.mk _ rfl (show _ ∧ _ from ⟨?_, rfl⟩))
    rw [decide_eq_false (fun e => hne (by rw [← hn, ← hm, e]))]; rfl
  · have hnm : n = m := by
      have h1 : ((n : Int) != (m : Int)) = false := hc
      simp at h1; omega
    subst hnm
    refine K_sskip (K_ss (K_reg (Wops_run rfl rfl (Wops_run rfl rfl (Wops_run rfl rfl (K_fin [(0, _), (1, _), (12, _), (13, _)] rfl (?_)))))))
    refine K_sblock ?_
    refine K_loop (fun k e h' => ∃ i : Nat, e = [(0, .slice a n c), (1, .slice b n d), (12, .int .i64 n), (13, .int .i64 i)] ∧ h = h' ∧ i ≤ n ∧ k = n - i ∧ xs.take i = ys.take i) ?_ (k := n) ⟨0, rfl, rfl, by omega, rfl, rfl⟩
    rintro k e h' ⟨i, rfl, rfl, hi, rfl, ht⟩
    refine K_reg (Wops_run rfl rfl (K_fin [(0, _), (1, _), (12, _), (13, _), (14, _)] rfl (?_)))
    refine K_scond rfl (fun hc => ?_) (fun hc => ?_)
    · have hlt : i < n := by have := of_decide_eq_true hc; omega
      refine K_sskip (K_sblock ?_)
      refine K_reg (Wops_run rfl rfl (Wops_run rfl rfl (K_fin [(0, _), (1, _), (5, _), (12, _), (13, _)] rfl (?_))))
      refine K_reg (Wops_run rfl rfl (Wops_run rfl rfl (Wops_idx (u := .int .u64 xs[i]) rfl rfl s ⟨by omega, by omega⟩ (by simp [hn, hlt]) fun p => ?_)))
      refine Wops_run rfl rfl (Wops_run rfl rfl (Wops_idx (u := .int .u64 ys[i]) rfl rfl s2 ⟨by omega, by omega⟩ (by simp [hm, hlt]) fun p => ?_))
      refine Wops_neq (v := xs[i] != ys[i]) rfl rfl rfl (K_fin [(0, _), (1, _), (12, _), (13, _), (24, _)] rfl (?_))
      refine K_cond rfl (fun hd => ?_) (fun hd => ?_)
      · refine K_reg (Wops_run rfl rfl (K_fin [(4, _)] rfl (?_)))
        refine K_ret (Told.mk _ rfl (show _ ∧ _ from ⟨?_, rfl⟩))
        rw [decide_eq_false (fun e => by subst e; simp at hd)]; rfl
      · refine K_skip (K_last (Wops_run rfl rfl (Wops_run rfl rfl (K_finL [(0, _), (1, _), (12, _), (13, _)] rfl (?_)))))
        refine ⟨n - (i + 1), by omega, i + 1, by rw [w64s (by omega)], rfl, by omega, rfl, ?_⟩
        have h2 : xs[i] = ys[i] := by simpa using hd
        rw [List.take_add_one, List.take_add_one, ht, List.getElem?_eq_getElem (by omega), List.getElem?_eq_getElem (by omega), h2]
    · have hin : i = n := by have := of_decide_eq_false hc; omega
      refine K_sexit (bx_same ?_)
      refine K_reg (Wops_run rfl rfl (K_fin [(4, _)] rfl (?_)))
      refine K_ret (Told.mk _ rfl (show _ ∧ _ from ⟨?_, rfl⟩))
      rw [List.take_of_length_le (by omega), List.take_of_length_le (by omega)] at ht
      rw [decide_eq_true ht]; rfl

/-- A request without a body. -/
abbrev rqL (k t d : Int) (s : ByteArray) (a : Option Addr) (n c : Nat) : List Value := [.int .i64 k, .int .u64 t, .int .u64 d, .string s, .slice none 0 0, .slice a n c, .int .u64 0, .int .u64 0]
/-- Same -/
theorem C64 {h : Heap} {k1 k2 t1 t2 d1 d2 : Int} {s1 s2 : ByteArray} {a1 a2 : Option Addr} {n1 n2 c1 c2 : Nat} {xs ys : List Int} (sa : SlA h 1 a1 n1 c1 (us xs)) (sb : SlA h 1 a2 n2 c2 (us ys)) (hb : n1 ≤ 1000000) :
    Fn Try.prog 64 [.agg ⟨rqL k1 t1 d1 s1 a1 n1 c1⟩, .agg ⟨rqL k2 t2 d2 s2 a2 n2 c2⟩] h fun v h' => v = .bool (k1 == k2 && t1 == t2 && d1 == d2 && (s1.toList == s2.toList) && decide (xs = ys)) ∧ h = h' := by
  refine Fn.gc (Q := fun v h' => v = .bool (k1 == k2 && t1 == t2 && d1 == d2 && (s1.toList == s2.toList) && decide (xs = ys)) ∧ Ext0 h h') (R := fun v => v = .bool (k1 == k2 && t1 == t2 && d1 == d2 && (s1.toList == s2.toList) && decide (xs = ys))) ?_ fun v h' q => ⟨q.2, by rw [q.1]; rfl, q.1⟩
  refine fnK F64.fok rfl ?_
  refine K_reg (Wops_box (cs := rqL k1 t1 d1 s1 a1 n1 c1) rfl rfl fun h1 e1 x1 g1 => Wops_box (cs := rqL k2 t2 d2 s2 a2 n2 c2) rfl rfl fun h2 e2 x2 g2 => Wops_run rfl rfl (K_fin [(2, _), (3, _)] rfl (?_)))
  have g1' := x2.some0 g1
  have X : Ext0 h h2 := x1.trans x2
  have sa' := sa.ext X
  have sb' := sb.ext X
  refine K_reg (Wops_run rfl rfl (Wops_ld rfl g1' (by rfl) (Wops_run rfl rfl (Wops_ld rfl g2 (by rfl) (Wops_eq (v := k1 == k2) rfl rfl rfl ?_)))))
  cases hk : (k1 == k2) with
  | false =>
    refine Wops_run rfl rfl ?_
    repeat (first | refine Wops_skip rfl ?_ | refine Wops_run rfl rfl ?_)
    exact K_fin [(4, _)] rfl (K_ret (Told.mk _ rfl ⟨rfl, X⟩))
  | true =>
  refine Wops_run rfl rfl (Wops_go rfl (Wops_run rfl rfl (Wops_go rfl (Wops_ld rfl g1' (by rfl) (Wops_go rfl (Wops_run rfl rfl (Wops_go rfl (Wops_ld rfl g2 (by rfl) (Wops_go rfl (Wops_eq (v := t1 == t2) rfl rfl rfl ?_))))))))))
  cases ht : (t1 == t2) with
  | false =>
    refine Wops_run rfl rfl (Wops_run rfl rfl ?_)
    repeat (first | refine Wops_skip rfl ?_ | refine Wops_run rfl rfl ?_)
    exact K_fin [(4, _)] rfl (K_ret (Told.mk _ rfl ⟨rfl, X⟩))
  | true =>
  refine Wops_run rfl rfl (Wops_run rfl rfl (Wops_go rfl (Wops_run rfl rfl (Wops_go rfl (Wops_ld rfl g1' (by rfl) (Wops_go rfl (Wops_run rfl rfl (Wops_go rfl (Wops_ld rfl g2 (by rfl) (Wops_go rfl (Wops_eq (v := d1 == d2) rfl rfl rfl ?_)))))))))))
  cases hd : (d1 == d2) with
  | false =>
    refine Wops_run rfl rfl (Wops_run rfl rfl ?_)
    repeat (first | refine Wops_skip rfl ?_ | refine Wops_run rfl rfl ?_)
    exact K_fin [(4, _)] rfl (K_ret (Told.mk _ rfl ⟨rfl, X⟩))
  | true =>
  refine Wops_run rfl rfl (Wops_run rfl rfl (Wops_go rfl (Wops_run rfl rfl (Wops_go rfl (Wops_ld rfl g1' (by rfl) (Wops_go rfl (Wops_run rfl rfl (Wops_go rfl (Wops_ld rfl g2 (by rfl) (Wops_go rfl (Wops_streq (v := s1.toList == s2.toList) rfl rfl rfl ?_)))))))))))
  cases hs : (s1.toList == s2.toList) with
  | false =>
    refine Wops_run rfl rfl (Wops_run rfl rfl ?_)
    repeat (first | refine Wops_skip rfl ?_ | refine Wops_run rfl rfl ?_)
    exact K_fin [(4, _)] rfl (K_ret (Told.mk _ rfl ⟨rfl, X⟩))
  | true =>
  refine Wops_run rfl rfl (Wops_run rfl rfl (Wops_go rfl (Wops_run rfl rfl (Wops_go rfl (Wops_ld rfl g1' (by rfl) (Wops_go rfl (Wops_run rfl rfl (Wops_go rfl (Wops_ld rfl g2 (by rfl) (Wops_go rfl (Wops_call rfl C72n ?_)))))))))))
  rintro _ _ ⟨rfl, rfl⟩
  refine Wops_run rfl rfl (Wops_run rfl rfl (Wops_go rfl (Wops_run rfl rfl (Wops_go rfl (Wops_ld rfl g1' (by rfl) (Wops_go rfl (Wops_run rfl rfl (Wops_go rfl (Wops_ld rfl g2 (by rfl) (Wops_go rfl (Wops_call rfl (C73 sa' sb' hb) ?_)))))))))))
  rintro _ _ ⟨rfl, rfl⟩
  cases hx : decide (xs = ys) with
  | false =>
    refine Wops_run rfl rfl (Wops_run rfl rfl ?_)
    repeat (first | refine Wops_skip rfl ?_ | refine Wops_run rfl rfl ?_)
    exact K_fin [(4, _)] rfl (K_ret (Told.mk _ rfl ⟨rfl, X⟩))
  | true =>
  refine Wops_run rfl rfl (Wops_run rfl rfl (Wops_go rfl (Wops_run rfl rfl (Wops_go rfl (Wops_ld rfl g1' (by rfl) (Wops_go rfl (Wops_run rfl rfl (Wops_go rfl (Wops_ld rfl g2 (by rfl) (Wops_go rfl (Wops_run rfl rfl ?_)))))))))))
  refine Wops_run rfl rfl (Wops_run rfl rfl (Wops_go rfl (Wops_run rfl rfl (Wops_go rfl (Wops_ld rfl g1' (by rfl) (Wops_go rfl (Wops_run rfl rfl (Wops_go rfl (Wops_ld rfl g2 (by rfl) (Wops_go rfl (Wops_run rfl rfl ?_)))))))))))
  refine Wops_run rfl rfl (Wops_run rfl rfl (K_fin [(4, _)] rfl ?_))
  exact K_ret (Told.mk _ rfl ⟨rfl, X⟩)

abbrev rp0 : List Value := [.int .u64 0, .int .i64 0, .int .u64 0, .slice none 0 0]
abbrev askV (k d : Bool) (r : List Value) (e : Int) : Value := .tuple ⟨[.bool k, .bool d, .agg ⟨r⟩, .int .i64 e]⟩
set_option maxHeartbeats 1000000 in
/-- Ask -/
theorem C39 {h : Heap} {p : Nat} {es : List E} {t : Int} {S : Nat → Prop} {rq : List Value} {b : E → Bool} (q : Kc h p es S) (hrl : rq.length = 8)
    (hsame : ∀ x ∈ es, x.tk = t → ∀ h1, Ext0 h h1 → Fn Try.prog 64 [.agg ⟨x.rq⟩, .agg ⟨rq⟩] h1 fun v h' => v = .bool (b x) ∧ h1 = h')
    (hrp : ∀ x ∈ es, x.tk = t → ∃ a n c xs, x.p3 = .slice a n c ∧ SlA h 1 a n c (us xs) ∧ n ≤ 1000000) (htm : ∀ x ∈ es, 0 ≤ x.tm ∧ x.tm ≤ 1000000) :
    Fn Try.prog 39 [ptr p, .int .u64 t, .agg ⟨rq⟩] h fun v h' => Turn h h' S S ∧
      (((t = 0 ∨ ∀ x ∈ es, x.tk ≠ t) ∧ v = askV false false rp0 0 ∧ Kc h' p es S) ∨
       (t ≠ 0 ∧ ∃ (i : Nat) (hi : i < es.length), ixG (tkf t) es = i ∧ es[i].tk = t ∧
          ((b es[i] = false ∧ v = askV true false rp0 16 ∧ Kc h' p es S) ∨
           (b es[i] = true ∧ es[i].dn = false ∧ v = askV true false rp0 0 ∧ Kc h' p (es.set i { es[i] with tm := es[i].tm + 1 }) S) ∨
           (b es[i] = true ∧ es[i].dn = true ∧ Kc h' p es S ∧ ∃ a n c xs a' c', es[i].p3 = .slice a n c ∧ SlA h 1 a n c (us xs) ∧ v = askV true true [es[i].p0, es[i].p1, es[i].p2, .slice a' n c'] 0 ∧ OwS h' 1 a' n c' (us xs) ∧ (a = none → a' = none ∧ c' = 0))))) := by
  refine fnK F39.fok rfl ?_
  refine K_reg (Wops_box (cs := rq) rfl rfl fun h1 n1 x1 g1 => Wops_run rfl rfl (Wops_run rfl rfl (Wops_new fun h2 n2 x2 g2 => Wops_run rfl rfl (K_fin [(0, _), (1, _), (5, _), (8, _)] rfl (?_)))))
  have X : Ext0 h h2 := x1.trans x2
  have z1 := x1.next
  have z2 := x2.next
  have q2 := q.ext0 X
  have g12 := x2.some0 g1
  have qlt : ∀ i, S i → i < h.next := fun i r => q.lt r
  have tX : ∀ {h3 : Heap}, Ext0 h h3 → Turn h h3 S S := fun x => ⟨x.of0, fun i r => .inl r⟩
  obtain ⟨a0, n0, c0, g, k, hpa, hS⟩ := id q2
  refine K_ss (K_reg (Wops_run rfl rfl (Wops_run rfl rfl (K_fin [(0, _), (1, _), (5, _), (8, _), (12, _)] rfl (?_)))))
  refine K_scond rfl (fun hc => by cases hc) (fun _ => ?_)
  refine K_sskip (K_reg (Wops_run rfl rfl (Wops_run rfl rfl (Wops_call rfl (C59 g k) ?_))))
  rintro v _ ⟨hf, rfl⟩
  refine Wops_run rfl rfl (K_fin [(1, _), (5, _), (8, _), (10, _)] rfl (?_))
  refine K_sblock ?_
  have fin8 : ∀ {h3 : Heap} {l : List Value} {kb db : Bool} {e : Int}, h3.get h1.next = some (.cells (putL rp0 0 l) 0 false) → l.length = 4 → resL [(6, .bool kb), (7, .bool db), (8, ptr h1.next), (9, .int .i64 e)] h3 F39.res = some [.bool kb, .bool db, .agg ⟨l⟩, .int .i64 e] := by
    intro h3 l kb db e g3 hl
    refine resL_cons rfl (resL_cons rfl (resL_cons (res_c (l := l) rfl g3 (by rw [putL_length]; decide) ?_) (resL_cons rfl rfl)))
    match l, hl with
    | [l0, l1, l2, l3], _ => rfl
  by_cases ht : t = 0
  · refine K_reg (Wops_run rfl rfl (Wops_eq (v := true) rfl rfl (by rw [ht]; rfl) (Wops_run rfl rfl (Wops_skip rfl (Wops_skip rfl (Wops_run rfl rfl (Wops_run rfl rfl (K_fin [(5, _), (8, _), (10, _), (17, _)] rfl (?_)))))))))
    refine K_cond rfl (fun _ => ?_) (fun hc => by cases hc)
    refine K_reg (Wops_run rfl rfl (Wops_run rfl rfl (Wops_run rfl rfl (Wops_st (l := rp0) rfl rfl rfl rfl g2 (by simp) rfl fun h3 n3 x3 g3 => ?_))))
    refine Wops_run rfl rfl (K_fin [(6, _), (7, _), (8, _), (9, _)] rfl (?_))
    have x3' : Ext0 h h3 := X.then x3 fun i r => .inr (by omega)
    exact K_ret (Told.mk _ (fin8 g3 rfl) ⟨tX x3', .inl ⟨.inl ht, rfl, q.ext0 x3'⟩⟩)
  rcases hf with ⟨hix, hno, rfl⟩ | ⟨i, hi, id0, hix, htk, rfl, rfl⟩
  · refine K_reg (Wops_run rfl rfl (Wops_eq (v := false) rfl rfl (by simpa using ht) (Wops_run rfl rfl (Wops_go rfl (Wops_run rfl rfl (Wops_go rfl (Wops_run rfl rfl (Wops_run rfl rfl (Wops_run rfl rfl (K_fin [(5, _), (8, _), (10, _), (17, _)] rfl (?_)))))))))))
    refine K_cond rfl (fun _ => ?_) (fun hc => by cases hc)
    refine K_reg (Wops_run rfl rfl (Wops_run rfl rfl (Wops_run rfl rfl (Wops_st (l := rp0) rfl rfl rfl rfl g2 (by simp) rfl fun h3 n3 x3 g3 => ?_))))
    refine Wops_run rfl rfl (K_fin [(6, _), (7, _), (8, _), (9, _)] rfl (?_))
    have x3' : Ext0 h h3 := X.then x3 fun i r => .inr (by omega)
    exact K_ret (Told.mk _ (fin8 g3 rfl) ⟨tX x3', .inl ⟨.inr hno, rfl, q.ext0 x3'⟩⟩)
  refine K_reg (Wops_run rfl rfl (Wops_eq (v := false) rfl rfl (by simpa using ht) (Wops_run rfl rfl (Wops_go rfl (Wops_run rfl rfl (Wops_go rfl (Wops_run rfl rfl (Wops_run rfl rfl (Wops_run rfl rfl (K_fin [(5, _), (8, _), (10, _), (17, _)] rfl (?_)))))))))))
  refine K_cond rfl (fun hc => by cases hc) (fun _ => ?_)
  rcases k with ⟨hz, _, _, _⟩ | ⟨id1, vs, hid, k1, k2, k3, k4, k5, k6⟩
  · cases hz
  obtain rfl : id0 = id1 := by cases hid; rfl
  have hat : ∀ r, r < 15 → vs[i * 15 + r]? = (ent es[i])[r]? := fun r hr => by
    have := win_at ent_len k5 k6 hi hr
    rwa [Nat.zero_add] at this
  have hsub : ∀ r m, r + m ≤ 15 → (vs.drop (i * 15 + r)).take m = ((ent es[i]).drop r).take m := fun r m hr => by
    have := win_sub ent_len k5 k6 hi hr
    rwa [Nat.zero_add] at this
  have hi15 : i * 15 + 15 ≤ vs.length := by omega
  have hidlt : id0 < h.next := qlt _ ((hS _).2 (.inr (Blk.at.2 rfl)))
  have hmem := List.getElem_mem hi
  refine K_reg (Wops_run rfl rfl (Wops_run rfl rfl (Wops_run rfl rfl (Wops_run rfl rfl (Wops_ldA (l := es[i].rq) rfl k2 (by omega) (by exact hsub 0 8 (by decide)) ?_)))))
  refine Wops_ldA (l := rq) rfl g12 (by show 0 + 8 ≤ rq.length; omega) (by rw [List.drop_zero]; exact List.take_of_length_le (by omega)) ?_
  refine Wops_call rfl (hsame _ hmem htk _ X) ?_
  rintro _ _ ⟨rfl, rfl⟩
  cases hb : b es[i] with
  | false =>
    refine Wops_run rfl rfl (Wops_run rfl rfl (K_fin [(8, _), (10, _), (25, _)] rfl (?_)))
    refine K_cond rfl (fun _ => ?_) (fun hc => by cases hc)
    refine K_reg (Wops_run rfl rfl (Wops_run rfl rfl (Wops_run rfl rfl (Wops_st (l := rp0) rfl rfl rfl rfl g2 (by simp) rfl fun h3 n3 x3 g3 => ?_))))
    refine Wops_run rfl rfl (K_fin [(6, _), (7, _), (8, _), (9, _)] rfl (?_))
    have x3' : Ext0 h h3 := X.then x3 fun i r => .inr (by omega)
    exact K_ret (Told.mk _ (fin8 g3 rfl) ⟨tX x3', .inr ⟨ht, i, hi, hix, htk, .inl ⟨hb, rfl, q.ext0 x3'⟩⟩⟩)
  | true =>
  refine Wops_run rfl rfl (Wops_run rfl rfl (K_fin [(8, _), (10, _), (25, _)] rfl (?_)))
  refine K_cond rfl (fun hc => by cases hc) (fun _ => ?_)
  cases hdn : es[i].dn with
  | true =>
    obtain ⟨a, n, c, xs, hp3, sl, hnb⟩ := hrp _ hmem htk
    refine K_reg (Wops_run rfl rfl (Wops_run rfl rfl (Wops_run rfl rfl (Wops_ld (v := .bool true) rfl k2 (by rw [hat 10 (by decide), ← hdn]; rfl) ?_))))
    refine Wops_run rfl rfl (K_fin [(8, _), (10, _), (35, _)] rfl (?_))
    refine K_cond rfl (fun _ => ?_) (fun hc => by cases hc)
    have hpc := es[i].rp_cell
    rw [E.rp, hp3] at hpc
    simp only [List.all_cons, List.all_nil, Bool.and_true, Bool.and_eq_true] at hpc
    refine K_reg (Wops_run rfl rfl (Wops_run rfl rfl (Wops_run rfl rfl (Wops_ldA (l := [es[i].p0, es[i].p1, es[i].p2, .slice a n c]) rfl k2 (by omega) (by rw [hsub 11 4 (by decide), ← hp3]; rfl) ?_))))
    refine Wops_call rfl (C65 (by simp [hpc]) (sl.ext X) hnb) ?_
    rintro _ h4 ⟨a', c', rfl, o4, x4, b4, f4⟩
    have hx : [es[i].p0, es[i].p1, es[i].p2, .slice a' n c'].all isCell = true := by simp [hpc, cell_slice]
    have z4 := x4.next
    refine Wops_run rfl rfl (Wops_run rfl rfl (Wops_st (l := [es[i].p0, es[i].p1, es[i].p2, .slice a' n c']) rfl rfl rfl rfl (x4.some0 g2) (by simp) hx fun h3 n3 x3 g3 => ?_))
    refine Wops_run rfl rfl (K_fin [(6, _), (7, _), (8, _), (9, _)] rfl (?_))
    have x3' : Ext0 h h3 := (X.trans x4).then x3 fun i r => .inr (by omega)
    exact K_ret (Told.mk _ (fin8 g3 rfl) ⟨tX x3', .inr ⟨ht, i, hi, hix, htk, .inr (.inr ⟨hb, hdn, q.ext0 x3', a, n, c, xs, a', c', hp3, sl, rfl, o4.ext x3 (fun j r => by have := b4 j r; omega), f4⟩)⟩⟩)
  | false =>
    refine K_reg (Wops_run rfl rfl (Wops_run rfl rfl (Wops_run rfl rfl (Wops_ld (v := .bool false) rfl k2 (by rw [hat 10 (by decide), ← hdn]; rfl) ?_))))
    refine Wops_run rfl rfl (K_fin [(8, _), (10, _), (35, _)] rfl (?_))
    refine K_cond rfl (fun hc => by cases hc) (fun _ => ?_)
    refine K_skip ?_
    have htmi := htm _ hmem
    refine K_reg (Wops_run rfl rfl (Wops_run rfl rfl (Wops_run rfl rfl (Wops_run rfl rfl (Wops_ld (v := .int .i64 es[i].tm) rfl k2 (by exact hat 8 (by decide)) ?_)))))
    refine Wops_as (w := .int .i64 (es[i].tm + 1)) rfl rfl (by rw [w64 (by omega)]) (Wops_run rfl rfl (Wops_run rfl rfl (Wops_run rfl rfl (Wops_st (l := [.int .i64 (es[i].tm + 1)]) rfl rfl rfl rfl k2 (by omega) rfl fun h3 n3 x3 g3 => ?_))))
    refine K_fin [(8, _)] rfl (?_)
    have w1 : ((putL vs (i * 15 + 8) [.int .i64 (es[i].tm + 1)]).drop 0).take (n0 * 15) = en ent (es.set i { es[i] with tm := es[i].tm + 1 }) := by
      have := win_part ent_len k5 k6 (by omega) (i := i) (r := 8) (x := { es[i] with tm := es[i].tm + 1 }) (l := [.int .i64 (es[i].tm + 1)]) hi (by simp) rfl
      rwa [Nat.zero_add] at this
    refine K_reg (Wops_run rfl rfl (Wops_run rfl rfl (Wops_run rfl rfl (Wops_st (l := rp0) rfl rfl rfl rfl (x3.some g2 (by omega)) (by simp) rfl fun h4 n4 x4 g4 => ?_))))
    refine Wops_run rfl rfl (K_fin [(6, _), (7, _), (8, _), (9, _)] rfl (?_))
    have hpi : p ≠ id0 := fun e => hpa (Blk.at.2 e.symm)
    have hpl : p < h.next := qlt _ ((hS _).2 (.inl rfl))
    refine K_ret (Told.mk _ (fin8 g4 rfl) ⟨⟨(X.of0.then x3 fun j r => .inl ((hS j).2 (.inr (Blk.at.2 r.symm)))).then x4 fun j r => .inr (by omega), fun j r => .inl r⟩, .inr ⟨ht, i, hi, hix, htk, .inr (.inl ⟨hb, hdn, rfl, ⟨some ⟨id0, 0, none⟩, n0, c0, (g.ext x3 hpi).ext x4 (by omega), .inr ⟨id0, _, rfl, k1, At.ext (o := .cells _ 15 false) g3 x4 (by omega), ?_, ?_, w1, by simp [k6]⟩, hpa, hS⟩⟩)⟩⟩)
    · rw [putL_length]; exact k3
    · rw [putL_length]; exact k4
end Go.Dx.SYtpbibdlmiomhbaa
