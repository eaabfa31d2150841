/- Contracts of token's functions: Delete, twin, echo, Begin. -/
import Derived.Test.YtpbibdlmiomhbaaTk1
namespace Go.Dx.SYtpbibdlmiomhbaa
open Go.Proofs
set_option linter.unusedVariables false
set_option linter.unusedSimpArgs false

theorem del_eq {vs new z : List Value} {k : Nat} (h : k + new.length = 45) (hl : 45 + z.length ≤ vs.length) : ((putL (putL vs (0 + k) new) 45 z).drop 0).take (3 * 15) = vs.take k ++ new := by
  have h1 : (putL (putL vs (0 + k) new) 45 z).take 45 = (putL vs (0 + k) new).take 45 := by
    apply List.ext_getElem?
    intro m
    by_cases hm : m < 45
    · rw [List.getElem?_take_of_lt hm, List.getElem?_take_of_lt hm, putL_get _ _ _ _ (by rw [putL_length]; exact hl), if_neg (by omega)]
    · rw [List.getElem?_eq_none (by simp; omega), List.getElem?_eq_none (by simp; omega)]
  rw [List.drop_zero, h1, show 45 = 0 + k + new.length by omega, putL_take _ _ _ (by omega), Nat.zero_add]
/-- slices.Delete -/
theorem C62 {h : Heap} {id c : Nat} {e0 e1 e2 e3 : E} (hc : c ≠ 0) (g : At h id (.cells (en ent [e0, e1, e2, e3]) 15 false)) {i : Nat} (hi : i < 4) :
    Fn Try.prog 62 [.slice (some ⟨id, 0, none⟩) 4 c, .int .i64 i, .int .i64 ((i + 1 : Nat) : Int)] h fun v h' => v = .slice (some ⟨id, 0, none⟩) 3 c ∧ Kp h' (some ⟨id, 0, none⟩) 3 c ([e0, e1, e2, e3].eraseIdx i) ∧ Ext (· = id) h h' := by
  have hl : (en ent [e0, e1, e2, e3]).length = 60 := rfl
  have hs : SlA h 15 (some ⟨id, 0, none⟩) 4 c (en ent [e0, e1, e2, e3]) := (OwS.new g rfl).sl
  rcases (show i = 0 ∨ i = 1 ∨ i = 2 ∨ i = 3 by omega) with rfl | rfl | rfl | rfl
  all_goals
    refine fnK F62.fok rfl ?_
    refine K_reg (Wops_run rfl rfl (K_fin [(0, _), (1, _), (2, _)] rfl (?_)))
    refine K_reg (Wops_run rfl rfl (Wops_run rfl rfl (Wops_run rfl rfl (Wops_run rfl rfl (Wops_run rfl rfl ?_)))))
    refine Wops_slVm (m := 4) rfl rfl rfl rfl g hc (by decide) (by decide) (by decide) (by decide) (by decide) (by rw [hl]; decide) ?_
    refine K_fin [(0, _), (1, _), (2, _)] rfl (?_)
    refine K_ss (K_reg (Wops_run rfl rfl (Wops_run rfl rfl (Wops_eq (v := false) rfl rfl (by decide) (K_fin [(0, _), (1, _), (2, _), (16, _)] rfl (?_))))))
    refine K_scond rfl (fun hc => by cases hc) (fun _ => ?_)
    refine K_sskip (K_reg (Wops_run rfl rfl (Wops_run rfl rfl (Wops_run rfl rfl (K_fin [(0, _), (1, _), (2, _), (7, _)] rfl (?_))))))
  · refine K_reg (Wops_run rfl rfl (Wops_run rfl rfl (Wops_slV rfl rfl rfl hs.ok (bounds_hi (i := 0) (by decide)) ?_)))
    refine Wops_run rfl rfl (Wops_run rfl rfl (Wops_slV rfl rfl rfl hs.ok (bounds_lo (i := 1) (by decide)) ?_))
    refine Wops_appIn (n := 0) (m := 3) (off := 0) rfl rfl rfl (hs.sub (i := 1) (j := 4) (by decide) (by decide)).first g hc (by decide) (by rw [hl]; decide) (by rfl) (by exact all_sub (en_cell ent_cell _) _ _) (by decide) fun h1 x1 g1 => ?_
    refine Wops_run rfl rfl (K_fin [(0, .slice (some ⟨id, 0, none⟩) 3 c), (7, _)] rfl (?_))
    refine K_reg (Wops_run rfl rfl (Wops_run rfl rfl (Wops_run rfl rfl (Wops_run rfl rfl ?_))))
    refine Wops_slVx (l := 3) (hh := 4) rfl rfl rfl g1 hc (by decide) (by decide) (by rw [putL_length, hl]; decide) (by rw [putL_length, hl]; decide) ?_
    refine Wops_clr (id := id) (off := 45) (n := 1) rfl g1 (by rw [putL_length, hl]; decide) rfl rfl fun h2 x2 g2 => ?_
    refine K_fin [(0, _)] rfl (?_)
    refine K_reg (Wops_run rfl rfl (Wops_run rfl rfl (K_fin [(6, _)] rfl (?_))))
    exact K_ret (Told.mk _ rfl ⟨rfl, .inr ⟨id, _, rfl, fun e => absurd e hc, g2, by rw [putL_length, putL_length, hl]; decide, by rw [putL_length, putL_length, hl]; decide, (del_eq rfl (by rw [hl]; decide)).trans rfl, rfl⟩, x1.trans x2⟩)
  · refine K_reg (Wops_run rfl rfl (Wops_run rfl rfl (Wops_slV rfl rfl rfl hs.ok (bounds_hi (i := 1) (by decide)) ?_)))
    refine Wops_run rfl rfl (Wops_run rfl rfl (Wops_slV rfl rfl rfl hs.ok (bounds_lo (i := 2) (by decide)) ?_))
    refine Wops_appIn (n := 1) (m := 2) (off := 0) rfl rfl rfl (hs.sub (i := 2) (j := 4) (by decide) (by decide)).first g hc (by decide) (by rw [hl]; decide) (by rfl) (by exact all_sub (en_cell ent_cell _) _ _) (by decide) fun h1 x1 g1 => ?_
    refine Wops_run rfl rfl (K_fin [(0, .slice (some ⟨id, 0, none⟩) 3 c), (7, _)] rfl (?_))
    refine K_reg (Wops_run rfl rfl (Wops_run rfl rfl (Wops_run rfl rfl (Wops_run rfl rfl ?_))))
    refine Wops_slVx (l := 3) (hh := 4) rfl rfl rfl g1 hc (by decide) (by decide) (by rw [putL_length, hl]; decide) (by rw [putL_length, hl]; decide) ?_
    refine Wops_clr (id := id) (off := 45) (n := 1) rfl g1 (by rw [putL_length, hl]; decide) rfl rfl fun h2 x2 g2 => ?_
    refine K_fin [(0, _)] rfl (?_)
    refine K_reg (Wops_run rfl rfl (Wops_run rfl rfl (K_fin [(6, _)] rfl (?_))))
    exact K_ret (Told.mk _ rfl ⟨rfl, .inr ⟨id, _, rfl, fun e => absurd e hc, g2, by rw [putL_length, putL_length, hl]; decide, by rw [putL_length, putL_length, hl]; decide, (del_eq rfl (by rw [hl]; decide)).trans rfl, rfl⟩, x1.trans x2⟩)
  · refine K_reg (Wops_run rfl rfl (Wops_run rfl rfl (Wops_slV rfl rfl rfl hs.ok (bounds_hi (i := 2) (by decide)) ?_)))
    refine Wops_run rfl rfl (Wops_run rfl rfl (Wops_slV rfl rfl rfl hs.ok (bounds_lo (i := 3) (by decide)) ?_))
    refine Wops_appIn (n := 2) (m := 1) (off := 0) rfl rfl rfl (hs.sub (i := 3) (j := 4) (by decide) (by decide)).first g hc (by decide) (by rw [hl]; decide) (by rfl) (by exact all_sub (en_cell ent_cell _) _ _) (by decide) fun h1 x1 g1 => ?_
    refine Wops_run rfl rfl (K_fin [(0, .slice (some ⟨id, 0, none⟩) 3 c), (7, _)] rfl (?_))
    refine K_reg (Wops_run rfl rfl (Wops_run rfl rfl (Wops_run rfl rfl (Wops_run rfl rfl ?_))))
    refine Wops_slVx (l := 3) (hh := 4) rfl rfl rfl g1 hc (by decide) (by decide) (by rw [putL_length, hl]; decide) (by rw [putL_length, hl]; decide) ?_
    refine Wops_clr (id := id) (off := 45) (n := 1) rfl g1 (by rw [putL_length, hl]; decide) rfl rfl fun h2 x2 g2 => ?_
    refine K_fin [(0, _)] rfl (?_)
    refine K_reg (Wops_run rfl rfl (Wops_run rfl rfl (K_fin [(6, _)] rfl (?_))))
    exact K_ret (Told.mk _ rfl ⟨rfl, .inr ⟨id, _, rfl, fun e => absurd e hc, g2, by rw [putL_length, putL_length, hl]; decide, by rw [putL_length, putL_length, hl]; decide, (del_eq rfl (by rw [hl]; decide)).trans rfl, rfl⟩, x1.trans x2⟩)
  · refine K_reg (Wops_run rfl rfl (Wops_run rfl rfl (Wops_slV rfl rfl rfl hs.ok (bounds_hi (i := 3) (by decide)) ?_)))
    refine Wops_run rfl rfl (Wops_run rfl rfl (Wops_slV rfl rfl rfl hs.ok (bounds_lo (i := 4) (by decide)) ?_))
    refine Wops_appIn (n := 3) (m := 0) (off := 0) rfl rfl rfl (hs.sub (i := 4) (j := 4) (by decide) (by decide)).first g hc (by decide) (by rw [hl]; decide) (by rfl) (by exact all_sub (en_cell ent_cell _) _ _) (by decide) fun h1 x1 g1 => ?_
    refine Wops_run rfl rfl (K_fin [(0, .slice (some ⟨id, 0, none⟩) 3 c), (7, _)] rfl (?_))
    refine K_reg (Wops_run rfl rfl (Wops_run rfl rfl (Wops_run rfl rfl (Wops_run rfl rfl ?_))))
    refine Wops_slVx (l := 3) (hh := 4) rfl rfl rfl g1 hc (by decide) (by decide) (by rw [putL_length, hl]; decide) (by rw [putL_length, hl]; decide) ?_
    refine Wops_clr (id := id) (off := 45) (n := 1) rfl g1 (by rw [putL_length, hl]; decide) rfl rfl fun h2 x2 g2 => ?_
    refine K_fin [(0, _)] rfl (?_)
    refine K_reg (Wops_run rfl rfl (Wops_run rfl rfl (K_fin [(6, _)] rfl (?_))))
    exact K_ret (Told.mk _ rfl ⟨rfl, .inr ⟨id, _, rfl, fun e => absurd e hc, g2, by rw [putL_length, putL_length, hl]; decide, by rw [putL_length, putL_length, hl]; decide, (del_eq rfl (by rw [hl]; decide)).trans rfl, rfl⟩, x1.trans x2⟩)

/-- slices.Clone of numbers -/
theorem C57 {h : Heap} {a : Option Addr} {n c : Nat} {xs : List Int} (s : SlA h 1 a n c (us xs)) (hb : n ≤ 1000000) :
    Fn Try.prog 57 [.slice a n c] h fun v h' => ∃ a' c', v = .slice a' n c' ∧ OwS h' 1 a' n c' (us xs) ∧ Ext0 h h' ∧ (∀ i, Blk a' i → h.next ≤ i) ∧ (a = none → a' = none ∧ c' = 0) := by
  refine fnK F57.fok rfl ?_
  refine K_reg (Wops_run rfl rfl (K_fin [(0, _)] rfl (?_)))
  cases a with
  | none =>
    obtain ⟨rfl, rfl⟩ := s.nil rfl
    have hx : us xs = [] := by have := s.len; exact List.eq_nil_of_length_eq_zero (by simpa using this)
    refine K_ss (K_reg (Wops_run rfl rfl (Wops_run rfl rfl (K_fin [(0, _), (4, _)] rfl (?_)))))
    refine K_scond rfl (fun hc => ?_) (fun hc => by cases hc)
    refine K_ss (K_reg (Wops_run rfl rfl (K_fin [(2, _)] rfl (?_))))
    exact K_sret (Told.mk _ rfl ⟨none, 0, rfl, by rw [hx]; exact OwS.none, Ext.refl _ _, fun i q => absurd q Blk.none, fun _ => ⟨rfl, rfl⟩⟩)
  | some pa =>
    refine K_ss (K_reg (Wops_run rfl rfl (Wops_run rfl rfl (K_fin [(0, _), (4, _)] rfl (?_)))))
    refine K_scond rfl (fun hc => by cases hc) (fun hc => ?_)
    refine K_sskip (K_reg (Wops_bslice (l := []) rfl rfl fun h1 n1 x1 g1 => ?_))
    refine Wops_run rfl rfl (Wops_app rfl rfl (OwS.new (n := 0) g1 rfl) rfl (s.ext x1).first ⟨by omega, by omega⟩ s.len (by simp [us, isCell]) (by decide) fun h2 a2 c2 x2 o2 b2 => ?_)
    refine Wops_run rfl rfl (K_fin [(2, _)] rfl (?_))
    refine K_ret (Told.mk _ rfl ⟨a2, c2, by simp; rfl, by simpa using o2, x1.then x2 fun i q => .inr (by rw [Blk.at] at q; omega), fun i q => ?_, fun q => by cases q⟩)
    rcases b2 i q with q | q
    · rw [Blk.at] at q; omega
    · omega
theorem C52n {h : Heap} : Fn Try.prog 52 [.slice none 0 0] h fun v h' => v = .slice none 0 0 ∧ h = h' := by
  refine fnK F52.fok rfl ?_
  refine K_reg (Wops_run rfl rfl (K_fin [(0, _)] rfl (?_)))
  refine K_ss (K_reg (Wops_run rfl rfl (Wops_run rfl rfl (K_fin [(0, _), (4, _)] rfl (?_)))))
  refine K_scond rfl (fun hc => ?_) (fun hc => by cases hc)
  refine K_ss (K_reg (Wops_run rfl rfl (K_fin [(2, _)] rfl (?_))))
  exact K_sret (Told.mk _ rfl ⟨rfl, rfl⟩)

/-- twin, of a request without a body -/
theorem C63 {h : Heap} {r0 r1 r2 r3 r6 r7 : Value} {a : Option Addr} {n c : Nat} {xs : List Int} (hr : [r0, r1, r2, r3, r6, r7].all isCell = true) (s : SlA h 1 a n c (us xs)) (hb : n ≤ 1000000) :
    Fn Try.prog 63 [.agg ⟨[r0, r1, r2, r3, .slice none 0 0, .slice a n c, r6, r7]⟩] h fun v h' => ∃ a' c', v = .agg ⟨[r0, r1, r2, r3, .slice none 0 0, .slice a' n c', r6, r7]⟩ ∧ OwS h' 1 a' n c' (us xs) ∧ Ext0 h h' ∧ (∀ i, Blk a' i → h.next ≤ i) ∧ (a = none → a' = none ∧ c' = 0) := by
  simp only [List.all_cons, List.all_nil, Bool.and_true, Bool.and_eq_true] at hr
  refine fnK F63.fok rfl ?_
  refine K_reg (Wops_box (cs := [r0, r1, r2, r3, .slice none 0 0, .slice a n c, r6, r7]) rfl rfl fun h1 n1 x1 g1 => Wops_new fun h2 n2 x2 g2 => K_fin [(1, _), (2, _)] rfl (?_))
  refine K_reg (Wops_run rfl rfl (Wops_ld rfl (x2.some0 g1) (by rfl) (Wops_run rfl rfl (Wops_ld rfl (x2.some0 g1) (by rfl) (Wops_call rfl C52n ?_)))))
  rintro _ _ ⟨rfl, rfl⟩
  refine Wops_chk rfl rfl (x2.some0 g1) (by rfl) s.same ?_
  refine Wops_run rfl rfl (Wops_call rfl (C57 ((s.ext x1).ext x2) hb) ?_)
  rintro _ h3 ⟨a', c', rfl, o3, x3, b3, f3⟩
  have y1 : Ext0 h h2 := x1.trans x2
  have z1 := y1.next
  have z3 := x3.next
  have ne1 : ∀ i, Blk a' i → i ≠ h.next := fun i r => by have := b3 i r; omega
  have ne2 : ∀ i, Blk a' i → i ≠ h1.next := fun i r => by have := b3 i r; omega
  refine Wops_st rfl rfl rfl rfl (x3.some0 (x2.some0 g1)) (by simp) rfl fun h4 n4 x4 g4 => ?_
  refine Wops_run rfl rfl (Wops_st rfl rfl rfl rfl g4 (by simp [putL_length]) rfl fun h5 n5 x5 g5 => ?_)
  refine K_fin [(1, _), (2, _)] rfl (?_)
  have g2' : h5.get h1.next = some (.cells [.int .i64 0, .int .u64 0, .int .u64 0, .string ByteArray.empty, .slice none 0 0, .slice none 0 0, .int .u64 0, .int .u64 0] 0 false) := x5.some (x4.some (x3.some0 g2) (by omega)) (by omega)
  refine K_reg (Wops_ldA (l := [r0, r1, r2, r3, .slice none 0 0, .slice a' n c', r6, r7]) rfl g5 (by simp [putL_length]) (by rfl) ?_)
  refine Wops_st (l := [r0, r1, r2, r3, .slice none 0 0, .slice a' n c', r6, r7]) rfl rfl rfl rfl g2' (by simp) (by simp [hr, cell_slice]) fun h6 n6 x6 g6 => ?_
  refine K_fin [(2, _)] rfl (?_)
  refine K_ret (Told.mk _ (resL_cons (res_c (l := [r0, r1, r2, r3, .slice none 0 0, .slice a' n c', r6, r7]) rfl g6 (by simp [putL_length]) (by rfl)) rfl) ⟨a', c', rfl, ((o3.ext x4 (fun i r => ne1 i r)).ext x5 (fun i r => ne1 i r)).ext x6 (fun i r => ne2 i r), ?_, fun i r => by have := b3 i r; omega, f3⟩)
  exact (((y1.trans x3).then x4 fun i r => .inr (by omega)).then x5 fun i r => .inr (by omega)).then x6 fun i r => .inr (by omega)

/-- echo -/
theorem C65 {h : Heap} {p0 p1 p2 : Value} {a : Option Addr} {n c : Nat} {xs : List Int} (hr : [p0, p1, p2].all isCell = true) (s : SlA h 1 a n c (us xs)) (hb : n ≤ 1000000) :
    Fn Try.prog 65 [.agg ⟨[p0, p1, p2, .slice a n c]⟩] h fun v h' => ∃ a' c', v = .agg ⟨[p0, p1, p2, .slice a' n c']⟩ ∧ OwS h' 1 a' n c' (us xs) ∧ Ext0 h h' ∧ (∀ i, Blk a' i → h.next ≤ i) ∧ (a = none → a' = none ∧ c' = 0) := by
  simp only [List.all_cons, List.all_nil, Bool.and_true, Bool.and_eq_true] at hr
  refine fnK F65.fok rfl ?_
  refine K_reg (Wops_box (cs := [p0, p1, p2, .slice a n c]) rfl rfl fun h1 n1 x1 g1 => Wops_new fun h2 n2 x2 g2 => K_fin [(1, _), (2, _)] rfl (?_))
  refine K_reg (Wops_run rfl rfl (Wops_ld rfl (x2.some0 g1) (by rfl) (Wops_call rfl (C57 ((s.ext x1).ext x2) hb) ?_)))
  rintro _ h3 ⟨a', c', rfl, o3, x3, b3, f3⟩
  have y1 : Ext0 h h2 := x1.trans x2
  have z1 := y1.next
  have z3 := x3.next
  have ne1 : ∀ i, Blk a' i → i ≠ h.next := fun i r => by have := b3 i r; omega
  have ne2 : ∀ i, Blk a' i → i ≠ h1.next := fun i r => by have := b3 i r; omega
  refine Wops_run rfl rfl (Wops_st rfl rfl rfl rfl (x3.some0 (x2.some0 g1)) (by simp) rfl fun h4 n4 x4 g4 => ?_)
  refine K_fin [(1, _), (2, _)] rfl (?_)
  have g2' : h4.get h1.next = some (.cells [.int .u64 0, .int .i64 0, .int .u64 0, .slice none 0 0] 0 false) := x4.some (x3.some0 g2) (by omega)
  refine K_reg (Wops_ldA (l := [p0, p1, p2, .slice a' n c']) rfl g4 (by simp [putL_length]) (by rfl) ?_)
  refine Wops_st (l := [p0, p1, p2, .slice a' n c']) rfl rfl rfl rfl g2' (by simp) (by simp [hr, cell_slice]) fun h6 n6 x6 g6 => ?_
  refine K_fin [(2, _)] rfl (?_)
  refine K_ret (Told.mk _ (resL_cons (res_c (l := [p0, p1, p2, .slice a' n c']) rfl g6 (by simp [putL_length]) (by rfl)) rfl) ⟨a', c', rfl, (o3.ext x4 (fun i r => ne1 i r)).ext x6 (fun i r => ne2 i r), ?_, fun i r => by have := b3 i r; omega, f3⟩)
  exact ((y1.trans x3).then x4 fun i r => .inr (by omega)).then x6 fun i r => .inr (by omega)
end Go.Dx.SYtpbibdlmiomhbaa
