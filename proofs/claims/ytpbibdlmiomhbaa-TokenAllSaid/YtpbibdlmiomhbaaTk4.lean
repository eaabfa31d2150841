/- Contracts of token's functions: End, Tokens. -/
import Derived.Test.YtpbibdlmiomhbaaTk3
namespace Go.Dx.SYtpbibdlmiomhbaa
open Go.Proofs
set_option linter.unusedVariables false
set_option linter.unusedSimpArgs false

/-- One that is done. -/
def finE (x : E) (p0 p1 p2 p3 : Value) (hp : [p0, p1, p2, p3].all isCell = true) : E :=
  ⟨x.r0, x.r1, x.r2, x.r3, x.r4, x.r5, x.r6, x.r7, x.tm, x.tk, true, p0, p1, p2, p3, by
    have h := x.ok
    simp only [List.all_cons, List.all_nil, Bool.and_true, Bool.and_eq_true] at h hp ⊢
    simp [h, hp]⟩

set_option maxHeartbeats 1000000 in
/-- End -/
theorem C40 {h : Heap} {p n c : Nat} {es : List E} {t : Int} {S : Nat → Prop} {p0 p1 p2 : Value} {a : Option Addr} {xs : List Int} (q : Kc h p es S) (hp : [p0, p1, p2].all isCell = true) (s : SlA h 1 a n c (us xs)) (hb : n ≤ 1000000) :
    Fn Try.prog 40 [ptr p, .int .u64 t, .agg ⟨[p0, p1, p2, .slice a n c]⟩] h fun v h' => Turn h h' S S ∧
      (((t = 0 ∨ ∀ x ∈ es, x.tk ≠ t) ∧ v = .int .i64 1 ∧ Kc h' p es S) ∨
       (t ≠ 0 ∧ ∃ (i : Nat) (hi : i < es.length), ixG (tkf t) es = i ∧ es[i].tk = t ∧
          ((es[i].dn = true ∧ v = .int .i64 0 ∧ Kc h' p es S) ∨
           (es[i].dn = false ∧ v = .int .i64 es[i].tm ∧ ∃ a' c' hx, Kc h' p (es.set i (finE es[i] p0 p1 p2 (.slice a' n c') hx)) S ∧ SlA h' 1 a' n c' (us xs) ∧ (∀ i, Blk a' i → h.next ≤ i ∧ i < h'.next ∧ ¬ S i) ∧ (a = none → a' = none ∧ c' = 0))))) := by
  have hp' := hp
  simp only [List.all_cons, List.all_nil, Bool.and_true, Bool.and_eq_true] at hp'
  refine fnK F40.fok rfl ?_
  refine K_reg (Wops_box (cs := [p0, p1, p2, .slice a n c]) rfl rfl fun h1 n1 x1 g1 => Wops_run rfl rfl (K_fin [(0, _), (1, _), (5, _)] rfl (?_)))
  have q1 := q.ext0 x1
  have qlt : ∀ i, S i → i < h.next := fun i r => q.lt r
  have s1 := s.ext x1
  have t1 : Turn h h1 S S := ⟨x1.of0, fun i r => .inl r⟩
  obtain ⟨a0, n0, c0, g, k, hpa, hS⟩ := id q1
  refine K_ss (K_reg (Wops_run rfl rfl (Wops_run rfl rfl (K_fin [(0, _), (1, _), (5, _), (9, _)] rfl (?_)))))
  refine K_scond rfl (fun hc => by cases hc) (fun _ => ?_)
  refine K_sskip (K_reg (Wops_run rfl rfl (Wops_run rfl rfl (Wops_call rfl (C59 g k) ?_))))
  rintro v _ ⟨hf, rfl⟩
  refine Wops_run rfl rfl (K_fin [(1, _), (5, _), (7, _)] rfl (?_))
  refine K_sblock ?_
  by_cases ht : t = 0
  · refine K_reg (Wops_run rfl rfl (Wops_eq (v := true) rfl rfl (by rw [ht]; rfl) (Wops_run rfl rfl (Wops_skip rfl (Wops_skip rfl (Wops_run rfl rfl (Wops_run rfl rfl (K_fin [(5, _), (7, _), (13, _)] rfl (?_)))))))))
    refine K_cond rfl (fun _ => ?_) (fun hc => by cases hc)
    refine K_reg (Wops_run rfl rfl (K_fin [(6, _)] rfl (?_)))
    exact K_ret (Told.mk _ rfl ⟨t1, .inl ⟨.inl ht, rfl, q1⟩⟩)
  rcases hf with ⟨hix, hno, rfl⟩ | ⟨i, hi, id0, hix, htk, rfl, rfl⟩
  · refine K_reg (Wops_run rfl rfl (Wops_eq (v := false) rfl rfl (by simpa using ht) (Wops_run rfl rfl (Wops_go rfl (Wops_run rfl rfl (Wops_go rfl (Wops_run rfl rfl (Wops_run rfl rfl (Wops_run rfl rfl (K_fin [(5, _), (7, _), (13, _)] rfl (?_)))))))))))
    refine K_cond rfl (fun _ => ?_) (fun hc => by cases hc)
    refine K_reg (Wops_run rfl rfl (K_fin [(6, _)] rfl (?_)))
    exact K_ret (Told.mk _ rfl ⟨t1, .inl ⟨.inr hno, rfl, q1⟩⟩)
  refine K_reg (Wops_run rfl rfl (Wops_eq (v := false) rfl rfl (by simpa using ht) (Wops_run rfl rfl (Wops_go rfl (Wops_run rfl rfl (Wops_go rfl (Wops_run rfl rfl (Wops_run rfl rfl (Wops_run rfl rfl (K_fin [(5, _), (7, _), (13, _)] rfl (?_)))))))))))
  refine K_cond rfl (fun hc => by cases hc) (fun _ => ?_)
  rcases k with ⟨hz, _, _, _⟩ | ⟨id1, vs, hid, k1, k2, k3, k4, k5, k6⟩
  · cases hz
  obtain rfl : id0 = id1 := by cases hid; rfl
  have hat : ∀ r, r < 15 → vs[i * 15 + r]? = (ent es[i])[r]? := fun r hr => by
    have := win_at ent_len k5 k6 hi hr
    rwa [Nat.zero_add] at this
  have hi15 : i * 15 + 15 ≤ vs.length := by omega
  cases hdn : es[i].dn with
  | true =>
    refine K_reg (Wops_run rfl rfl (Wops_run rfl rfl (Wops_run rfl rfl (Wops_ld (v := .bool true) rfl k2 (by rw [hat 10 (by decide), ← hdn]; rfl) ?_))))
    refine Wops_run rfl rfl (K_fin [(5, _), (7, _), (20, _)] rfl (?_))
    refine K_cond rfl (fun _ => ?_) (fun hc => by cases hc)
    refine K_reg (Wops_run rfl rfl (K_fin [(6, _)] rfl (?_)))
    exact K_ret (Told.mk _ rfl ⟨t1, .inr ⟨ht, i, hi, hix, htk, .inl ⟨hdn, rfl, q1⟩⟩⟩)
  | false =>
    refine K_reg (Wops_run rfl rfl (Wops_run rfl rfl (Wops_run rfl rfl (Wops_ld (v := .bool false) rfl k2 (by rw [hat 10 (by decide), ← hdn]; rfl) ?_))))
    refine Wops_run rfl rfl (K_fin [(5, _), (7, _), (20, _)] rfl (?_))
    refine K_cond rfl (fun hc => by cases hc) (fun _ => ?_)
    refine K_skip ?_
    refine K_reg (Wops_run rfl rfl (Wops_run rfl rfl (Wops_ldA (l := [p0, p1, p2, .slice a n c]) rfl g1 (by simp) rfl (Wops_call rfl (C65 hp s1 hb) ?_))))
    rintro _ h2 ⟨a', c', rfl, o2, x2, b2, f2⟩
    have hx : [p0, p1, p2, .slice a' n c'].all isCell = true := by simp [hp', cell_slice]
    have z1 := x1.next
    have z2 := x2.next
    have hid0 : id0 < h1.next := k2.lt
    have hnid : ∀ j, Blk a' j → j ≠ id0 := fun j r => by have := b2 j r; omega
    refine Wops_run rfl rfl (Wops_run rfl rfl (Wops_st (l := [.bool true]) rfl rfl rfl rfl (k2.ext x2) (by omega) rfl fun h3 n3 x3 g3 => ?_))
    refine Wops_run rfl rfl (Wops_run rfl rfl (Wops_st (l := [p0, p1, p2, .slice a' n c']) rfl rfl rfl rfl g3 (by rw [putL_length]; omega) hx fun h4 n4 x4 g4 => ?_))
    refine K_fin [(7, _)] rfl (?_)
    have w1 : ((putL vs (i * 15 + 10) [.bool true]).drop 0).take (n0 * 15) = en ent (es.set i { es[i] with dn := true }) := by
      have := win_part ent_len k5 k6 (by omega) (i := i) (r := 10) (x := { es[i] with dn := true }) (l := [.bool true]) hi (by decide) rfl
      rwa [Nat.zero_add] at this
    have w2 : ((putL (putL vs (i * 15 + 10) [.bool true]) (i * 15 + 11) [p0, p1, p2, .slice a' n c']).drop 0).take (n0 * 15) = en ent (es.set i (finE es[i] p0 p1 p2 (.slice a' n c') hx)) := by
      have := win_part ent_len w1 (by simp [k6]) (by rw [putL_length]; omega) (i := i) (r := 11) (x := finE es[i] p0 p1 p2 (.slice a' n c') hx) (l := [p0, p1, p2, .slice a' n c']) (by simpa using hi) (Nat.le_refl 15) (by rw [List.getElem_set_self]; rfl)
      rwa [Nat.zero_add, List.set_set] at this
    have hl2 : (putL (putL vs (i * 15 + 10) [.bool true]) (i * 15 + 11) [p0, p1, p2, .slice a' n c']).length = vs.length := by rw [putL_length, putL_length]
    refine K_reg (Wops_run rfl rfl (Wops_run rfl rfl (Wops_run rfl rfl (Wops_run rfl rfl (Wops_ld (v := .int .i64 es[i].tm) rfl g4 ?_ ?_)))))
    · have := win_at ent_len w2 (by simp [k6]) (i := i) (r := 8) (by simpa using hi) (by decide)
      rw [Nat.zero_add, List.getElem_set_self] at this
      exact this
    refine Wops_run rfl rfl (K_fin [(6, _)] rfl (?_))
    have x24 : Ext S h2 h4 := (x3.mono fun j _ r => (hS j).2 (.inr (Blk.at.2 r.symm))).then x4 fun j r => .inl ((hS j).2 (.inr (Blk.at.2 r.symm)))
    have x14 : Ext S h1 h4 := x2.of0.then x24 fun j r => .inl r
    refine K_ret (Told.mk _ rfl ⟨t1.trans ⟨x14, fun j r => .inl r⟩, .inr ⟨ht, i, hi, hix, htk, .inr ⟨hdn, rfl, a', c', hx, ⟨some ⟨id0, 0, none⟩, n0, c0, ?_, .inr ⟨id0, _, rfl, k1, g4, by rw [hl2]; exact k3, by rw [hl2]; exact k4, w2, by simp [k6]⟩, hpa, hS⟩, ?_, fun j r => ⟨by have := b2 j r; omega, ?_, fun e => by have := qlt j e; have := b2 j r; omega⟩, f2⟩⟩⟩)
    · have hpi : p ≠ id0 := fun e => hpa (Blk.at.2 e.symm)
      exact ((g.ext x2).ext x3 hpi).ext x4 hpi
    · exact (o2.sl.ext x3 hnid).ext x4 hnid
    · have := o2.lt r; have := x3.next; have := x4.next; omega

/-- Tokens -/
theorem C42 {h : Heap} {p : Nat} {es : List E} {S : Nat → Prop} (q : Kc h p es S) :
    Fn Try.prog 42 [ptr p] h fun v h' => ∃ ao no co, v = .slice ao no co ∧ SlA h' 1 ao no co (us (es.map E.tk)) ∧ no = es.length ∧ Ext0 h h' := by
  obtain ⟨a, n, c, g, k, hpa, hS⟩ := id q
  have hn := k.len
  have hle := k.le
  have o := k.ow
  refine fnK F42.fok rfl ?_
  refine K_reg (Wops_run rfl rfl (K_fin [(0, _)] rfl (?_)))
  refine K_ss (K_reg (Wops_run rfl rfl (Wops_run rfl rfl (K_fin [(0, _), (7, _)] rfl (?_)))))
  refine K_scond rfl (fun hc => by cases hc) (fun hc => ?_)
  refine K_sskip (K_reg (Wops_run rfl rfl (K_fin [(0, _), (3, _)] rfl (?_))))
  refine K_ss (K_reg (Wops_run rfl rfl (Wops_run rfl rfl (Wops_run rfl rfl (Wops_ld rfl g (by rfl) ?_)))))
  refine Wops_run rfl rfl (Wops_run rfl rfl (K_fin [(3, _), (11, _), (12, _), (13, _)] rfl (?_)))
  refine K_sblock ?_
  refine K_loop (fun k e h' => ∃ (i co : Nat) (ao : Option Addr), e = [(3, .slice ao i co), (11, .slice a n c), (12, .int .i64 n), (13, .int .i64 i)] ∧ i ≤ n ∧ k = n - i ∧ Ext0 h h' ∧ OwS h' 1 ao i co (us ((es.take i).map E.tk)) ∧ ∀ j, Blk ao j → h.next ≤ j) ?_ (k := n) ⟨0, 0, none, rfl, by omega, rfl, Ext.refl _ _, OwS.none, fun j r => absurd r Blk.none⟩
  rintro k' e h' ⟨i, co, ao, rfl, hi, rfl, x', oo, bo⟩
  have o' := o.ext x'
  refine K_reg (Wops_run rfl rfl (K_fin [(3, _), (11, _), (12, _), (13, _), (14, _)] rfl (?_)))
  refine K_scond rfl (fun hc => ?_) (fun hc => ?_)
  · have hlt : i < n := by have := of_decide_eq_true hc; omega
    refine K_sskip (K_sblock ?_)
    refine K_reg (Wops_elA ent_len rfl rfl o'.sl hn (show i < es.length by omega) fun _ => ?_)
    refine Wops_new fun h2 n2 x2 g2 => Wops_st (l := ent es[i]) rfl rfl rfl rfl g2 (by simp) (ent_cell _) fun h3 n3 x3 g3 => ?_
    have X3 : Ext0 h' h3 := x2.then x3 fun i r => .inr (by omega)
    refine K_fin [(3, _), (5, _), (11, _), (12, _), (13, _)] rfl (?_)
    refine K_last (Wops_run rfl rfl (Wops_run rfl rfl (Wops_ld (v := .int .u64 es[i].tk) rfl g3 (by rfl) ?_)))
    refine Wops_bslice (l := [.int .u64 es[i].tk]) rfl rfl fun h4 n4 x4 g4 => ?_
    refine Wops_app rfl rfl ((oo.ext X3).ext x4) rfl (OwS.new (n := 1) (c := 1) g4 rfl).sl.first ⟨by omega, by omega⟩ rfl rfl (by decide) fun h5 a5 c5 x5 o5 b5 => ?_
    refine Wops_run rfl rfl (K_finL [(3, _), (11, _), (12, _), (13, _)] rfl (?_))
    refine K_last (Wops_run rfl rfl (Wops_run rfl rfl (K_finL [(3, _), (11, _), (12, _), (13, _)] rfl (?_))))
    have e3 := X3.next
    have e1 := x'.next
    refine ⟨n - (i + 1), by omega, i + 1, c5, a5, by rw [w64s (by omega)], by omega, rfl, (x'.trans (X3.trans x4)).then x5 fun j r => .inr (bo j r), ?_, fun j r => (b5 j r).elim (bo j) fun r => by omega⟩
    rw [List.take_add_one, List.getElem?_eq_getElem (show i < es.length by omega), List.map_append, us, List.map_append]; exact o5
  · have hin : i = n := by have := of_decide_eq_false hc; omega
    have htk : es.take i = es := List.take_of_length_le (by omega)
    rw [htk] at oo
    refine K_sexit (bx_same ?_)
    refine K_reg (Wops_run rfl rfl (Wops_run rfl rfl (K_fin [(2, _)] rfl (?_))))
    exact K_ret (Told.mk _ rfl ⟨ao, i, co, rfl, oo.sl, by omega, x'⟩)
end Go.Dx.SYtpbibdlmiomhbaa
