/- Contracts for replies. -/
import Derived.Test.YtkppbmhpcjjceaaRq4
namespace Go.Dx.SYtkppbmhpcjjceaa
open Go.Proofs
set_option linter.unusedVariables false
set_option linter.unusedSimpArgs false

/-- cloakroomref1.SameNums -/
theorem C23 {h : Heap} {a b : Option Addr} {n m c d : Nat} {xs ys : List Nat} (s : SlA h 1 a n c (u64s xs)) (s2 : SlA h 1 b m d (u64s ys)) (hb : n ≤ 1099511627776) :
    Fn Try.prog 23 [.slice a n c, .slice b m d] h fun v h' => v = .bool (decide (xs = ys)) ∧ h = h' := by
  have hn : xs.length = n := by simpa using s.len
  have hm : ys.length = m := by simpa using s2.len
  refine fnK F23.fok rfl ?_
  refine K_reg (Wops_run rfl rfl (K_fin [(0, _), (1, _)] rfl (?_)))
  refine K_ss (K_reg (Wops_run rfl rfl (Wops_run rfl rfl (Wops_run rfl rfl (Wops_run rfl rfl (Wops_run rfl rfl (K_fin [(0, _), (1, _), (10, _)] rfl (?_))))))))
  refine K_scond rfl (fun hc => ?_) (fun hc => ?_)
  · have hne : n ≠ m := fun e => by subst e; simp at hc
    refine K_ss (K_reg (Wops_run rfl rfl (K_fin [(4, _)] rfl (?_))))
    refine K_sret (Told.mk _ rfl (show _ ∧ _ from ⟨?_, rfl⟩))
    rw [decide_eq_false (fun e => hne (by rw [← hn, ← hm, e]))]; rfl
  · have hnm : n = m := by
      have h1 : ((n : Int) != (m : Int)) = false := hc
      simp at h1; omega
    subst hnm
    refine K_sskip (K_ss (K_reg (Wops_run rfl rfl (K_fin [(0, _), (1, _), (5, _)] rfl (?_)))))
    refine K_sblock ?_
    refine K_loop (fun k e h' => ∃ i : Nat, e = [(0, .slice a n c), (1, .slice b n d), (5, .int .i64 i)] ∧ h = h' ∧ i ≤ n ∧ k = n - i ∧ xs.take i = ys.take i) ?_ (k := n) ⟨0, rfl, rfl, by omega, rfl, rfl⟩
    rintro k e h' ⟨i, rfl, rfl, hi, rfl, ht⟩
    refine K_ss (K_reg (Wops_run rfl rfl (Wops_run rfl rfl (Wops_run rfl rfl (Wops_run rfl rfl (K_fin [(0, _), (1, _), (5, _), (14, _)] rfl (?_)))))))
    refine K_scond rfl (fun hc => ?_) (fun hc => ?_)
    · have hlt : i < n := by have := of_decide_eq_true hc; omega
      refine K_sskip (K_sblock ?_)
      refine K_reg (Wops_run rfl rfl (Wops_run rfl rfl (Wops_idx (u := .int .u64 ((xs[i]'(by omega) : Nat) : Int)) rfl rfl s ⟨by omega, by omega⟩ (by simp [u64s, hn, hlt]) fun p => ?_)))
      refine Wops_run rfl rfl (Wops_run rfl rfl (Wops_idx (u := .int .u64 ((ys[i]'(by omega) : Nat) : Int)) rfl rfl s2 ⟨by omega, by omega⟩ (by simp [u64s, hm, hlt]) fun p => ?_))
      refine Wops_run rfl rfl (K_fin [(0, _), (1, _), (5, _), (25, _)] rfl (?_))
      refine K_cond rfl (fun hd => ?_) (fun hd => ?_)
      · refine K_reg (Wops_run rfl rfl (K_fin [(4, _)] rfl (?_)))
        refine K_ret (Told.mk _ rfl (show _ ∧ _ from ⟨?_, rfl⟩))
        rw [decide_eq_false (fun e => by subst e; simp at hd)]; rfl
      · refine K_skip (K_last (Wops_run rfl rfl (Wops_run rfl rfl (Wops_run rfl rfl (K_finL [(0, _), (1, _), (5, _)] rfl (?_))))))
        refine ⟨n - (i + 1), by omega, i + 1, by rw [w64s (by omega)], rfl, by omega, rfl, ?_⟩
        have h1 : (((xs[i]'(by omega) : Nat) : Int) != ((ys[i]'(by omega) : Nat) : Int)) = false := hd
        have h2' : ((xs[i]'(by omega) : Nat) : Int) = ((ys[i]'(by omega) : Nat) : Int) := by simpa using h1
        have h2 : xs[i]'(by omega) = ys[i]'(by omega) := by omega
        rw [List.take_add_one, List.take_add_one, ht, List.getElem?_eq_getElem (by omega), List.getElem?_eq_getElem (by omega), h2]
    · have hin : i = n := by have := of_decide_eq_false hc; omega
      refine K_sexit (bx_same ?_)
      refine K_reg (Wops_run rfl rfl (K_fin [(4, _)] rfl (?_)))
      refine K_ret (Told.mk _ rfl (show _ ∧ _ from ⟨?_, rfl⟩))
      rw [List.take_of_length_le (by omega), List.take_of_length_le (by omega)] at ht
      rw [decide_eq_true ht]; rfl

/-- cloakroomlaw0.Place -/
theorem C22 {h : Heap} {cut : Int} {n : Nat} (h0 : 0 < n) (hn : n ≤ 100000) :
    Fn Try.prog 22 [.int .i64 cut, .int .i64 (n : Int)] h fun v h' => (∃ k : Nat, k < n ∧ v = .int .i64 (k : Int)) ∧ h = h' := by
  refine fnK F22.fok rfl ?_
  refine K_reg (Wops_run rfl rfl (K_fin [(0, _), (1, _)] rfl (?_)))
  refine K_ss (K_reg (Wops_run rfl rfl (Wops_as (w := .bool false) rfl rfl (by rw [decide_eq_false (by omega)]) (K_fin [(0, _), (1, _), (6, _)] rfl (?_)))))
  refine K_scond rfl (fun hc => by cases hc) (fun _ => ?_)
  refine K_sskip (K_reg (Wops_run rfl rfl (Wops_run rfl rfl (Wops_rem rfl rfl (by omega) (Wops_run rfl rfl (K_fin [(0, _), (1, _)] rfl (?_)))))))
  have hlt : cut.tmod n < n := Int.tmod_lt_of_pos cut (by omega)
  have hgt : -(n : Int) < cut.tmod n := by
    have h1 := Int.tmod_lt_of_pos (-cut) (b := (n : Int)) (by omega)
    rw [Int.neg_tmod] at h1; omega
  generalize cut.tmod n = r at hlt hgt ⊢
  refine K_ss (K_reg (Wops_run rfl rfl (Wops_run rfl rfl (K_fin [(0, _), (1, _), (11, _)] rfl (?_)))))
  refine K_scond rfl (fun hc => ?_) (fun hc => ?_)
  · have hr : r < 0 := of_decide_eq_true hc
    refine K_reg (Wops_run rfl rfl (Wops_run rfl rfl (Wops_as (w := .int .i64 (((r + n).toNat : Nat) : Int)) rfl rfl (by rw [w64 (by omega)]; congr 1; omega) (Wops_run rfl rfl (K_fin [(0, _)] rfl (?_))))))
    refine K_reg (Wops_run rfl rfl (Wops_run rfl rfl (K_fin [(4, _)] rfl (?_))))
    exact K_ret (Told.mk _ rfl ⟨⟨(r + n).toNat, by omega, rfl⟩, rfl⟩)
  · have hr : ¬ r < 0 := of_decide_eq_false hc
    refine K_sskip (K_reg (Wops_run rfl rfl (Wops_run rfl rfl (K_fin [(4, _)] rfl (?_)))))
    exact K_ret (Told.mk _ rfl ⟨⟨r.toNat, by omega, by show Value.int .i64 r = _; congr 1; omega⟩, rfl⟩)

def RpV (r : Rp) (a : Option Addr) (n c : Nat) : List Value := [.int .u64 (r.tok : Int), .int .i64 (r.err : Int), .int .u64 (r.han : Int), .slice a n c]
/-- cloakroomref1.SameReply, of the same -/
theorem C26 {h : Heap} {a b : Option Addr} {n m c d : Nat} {r : Rp} (s : SlA h 1 a n c (u64s r.vs)) (s2 : SlA h 1 b m d (u64s r.vs)) (hb : n ≤ 100000) :
    Fn Try.prog 26 [.agg ⟨RpV r a n c⟩, .agg ⟨RpV r b m d⟩] h fun v h' => v = .bool true ∧ Ext0 h h' := by
  refine fnK F26.fok rfl ?_
  refine K_reg (Wops_box (cs := RpV r a n c) rfl rfl fun h1 n1 x1 g1 => Wops_box (cs := RpV r b m d) rfl rfl fun h2 n2 x2 g2 => Wops_run rfl rfl (K_fin [(2, _), (3, _)] rfl (?_)))
  have g12 : At h2 h.next (.cells (RpV r a n c) 0 false) := At.ext g1 x2
  refine K_reg (Wops_run rfl rfl (Wops_ld (v := .int .u64 (r.tok : Int)) rfl g12 rfl (Wops_run rfl rfl (Wops_ld (v := .int .u64 (r.tok : Int)) rfl g2 rfl (Wops_as (w := .bool true) rfl rfl (by simp) (Wops_run rfl rfl (Wops_go rfl (Wops_run rfl rfl (Wops_go rfl (Wops_ld (v := .int .i64 (r.err : Int)) rfl g12 rfl (Wops_go rfl (Wops_run rfl rfl (Wops_go rfl (Wops_ld (v := .int .i64 (r.err : Int)) rfl g2 rfl (Wops_go rfl (Wops_as (w := .bool true) rfl rfl (by simp) ?_))))))))))))))))
  refine Wops_run rfl rfl (Wops_run rfl rfl (Wops_go rfl (Wops_run rfl rfl (Wops_go rfl (Wops_ld (v := .int .u64 (r.han : Int)) rfl g12 rfl (Wops_go rfl (Wops_run rfl rfl (Wops_go rfl (Wops_ld (v := .int .u64 (r.han : Int)) rfl g2 rfl (Wops_go rfl (Wops_as (w := .bool true) rfl rfl (by simp) ?_)))))))))))
  refine Wops_run rfl rfl (Wops_run rfl rfl (Wops_go rfl (Wops_run rfl rfl (Wops_go rfl (Wops_ld (v := .slice a n c) rfl g12 rfl (Wops_go rfl (Wops_run rfl rfl (Wops_go rfl (Wops_ld (v := .slice b m d) rfl g2 rfl (Wops_go rfl (Wops_call rfl (C23 ((s.ext x1).ext x2) ((s2.ext x1).ext x2) (by omega)) ?_)))))))))))
  rintro _ _ ⟨rfl, rfl⟩
  refine Wops_run rfl rfl (Wops_run rfl rfl (K_fin [(4, _)] rfl (?_)))
  refine K_ret (Told.mk _ rfl ⟨by simp; rfl, x1.trans x2⟩)

/-- req.PutReply -/
theorem C24 {h : Heap} {a : Option Addr} {n c : Nat} {r : Rp} (s : SlA h 1 a n c (u64s r.vs)) (hn : n ≤ 12) (ht : r.tok < 18446744073709551616) (he : r.err < 256) (hh : r.han < 18446744073709551616) (hv : ∀ v ∈ r.vs, v < 18446744073709551616) :
    Fn Try.prog 24 [.agg ⟨RpV r a n c⟩] h fun v h' => ∃ a' c', v = .slice a' (encR r).length c' ∧ OwS h' 1 a' (encR r).length c' (bys (encR r)) ∧ Ext0 h h' ∧ ∀ i, Blk a' i → h.next ≤ i := by
  have hl : r.vs.length = n := by simpa using s.len
  refine fnK F24.fok rfl ?_
  refine K_reg (Wops_box (cs := RpV r a n c) rfl rfl fun h1 n1 x1 g1 => Wops_run rfl rfl (K_fin [(1, _)] rfl (?_)))
  refine K_reg (Wops_run rfl rfl (Wops_ld (v := .int .u64 (r.tok : Int)) rfl g1 rfl (Wops_run rfl rfl (Wops_ld (v := .int .i64 (r.err : Int)) rfl g1 rfl (Wops_as (w := .int .u8 (r.err : Int)) rfl rfl (by rw [wr8m, Nat.mod_eq_of_lt he]) (Wops_bslice (l := bys [r.err]) rfl rfl fun h2 n2 x2 g2 => Wops_call rfl (C54 (n := 0) (xs := []) OwS.none (by decide) ht) ?_))))))
  rintro _ h3 ⟨a3, c3, rfl, o3, x3', b3⟩
  have x3 : Ext0 h2 h3 := x3'.mono fun i _ r => absurd r Blk.none
  have g13 : At h3 h.next (.cells (RpV r a n c) 0 false) := (At.ext g1 x2).ext x3
  have g23 : At h3 h1.next (.cells (bys [r.err]) 1 false) := At.ext g2 x3
  refine Wops_chk rfl rfl g13 (v := .int .i64 (r.err : Int)) rfl (by simp [sameV, sameCell]) ?_
  refine Wops_app rfl rfl o3 rfl (OwS.new (n := 1) (c := 1) g23 rfl).sl.first ⟨by omega, by omega⟩ rfl rfl (by decide) fun h4 a4 c4 x4 o4 b4 => ?_
  refine Wops_run rfl rfl (K_fin [(1, _), (3, _)] rfl (?_))
  have z1 := x1.next
  have z2 := x2.next
  have z3 := x3.next
  have z4 := x4.next
  have b3' : ∀ i, Blk a3 i → h2.next ≤ i := fun i q => (b3 i q).elim (fun q => absurd q Blk.none) id
  have g14 : At h4 h.next (.cells (RpV r a n c) 0 false) := g13.ext x4 fun q => by have := b3' _ q; omega
  have x04 : Ext0 h h4 := ((x1.trans x2).trans x3).then x4 fun i q => .inr (by have := b3' i q; omega)
  have b4' : ∀ i, Blk a4 i → h2.next ≤ i := fun i q => (b4 i q).elim (b3' i) fun q => by omega
  rw [List.nil_append, ← bys_app] at o4
  refine K_reg (Wops_run rfl rfl (Wops_run rfl rfl (Wops_ld (v := .int .u64 (r.han : Int)) rfl g14 rfl (Wops_run rfl rfl (Wops_ld (v := .slice a n c) rfl g14 rfl (Wops_run rfl rfl (Wops_as (w := .int .u64 (n : Int)) rfl rfl (by rw [wr64m, Nat.mod_eq_of_lt (by omega)]) (Wops_bslice (l := u64s [r.han, n]) rfl rfl fun h5 n5 x5 g5 => ?_))))))))
  have hv2 : ∀ v ∈ [r.han, n], v < 18446744073709551616 := by
    intro v hm
    rcases List.mem_cons.1 hm with rfl | hm
    · exact hh
    · rcases List.mem_cons.1 hm with rfl | hm
      · omega
      · cases hm
  have g15 : At h5 h.next (.cells (RpV r a n c) 0 false) := g14.ext x5
  have hsz : (encUs [r.han, n]).length ≤ 20 := encUs_len hv2
  refine Wops_run rfl rfl (Wops_ld (v := .slice a n c) rfl g15 rfl (Wops_call rfl (C56 (o4.ext x5) (OwS.new (n := 2) (c := 1) g5 rfl).sl ⟨by omega, by omega⟩ hv2) ?_))
  rintro _ h6 ⟨a6, c6, rfl, o6, x6, b6⟩
  have g16 := g15.ext x6
  refine Wops_chk rfl rfl g16 (v := .slice a n c) rfl s.same ?_
  refine Wops_call rfl (C56 o6 ((((s.ext x04).ext x5).ext x6)) ⟨by omega, by omega⟩ hv) ?_
  rintro _ h7 ⟨a7, c7, rfl, o7, x7, b7⟩
  refine Wops_run rfl rfl (K_fin [(2, _)] rfl (?_))
  have z5 := x5.next
  have z6 := x6.next
  have he : encR r = (enc8 r.tok ++ [r.err]) ++ encUs [r.han, n] ++ encUs r.vs := by
    unfold encR encL encUs
    simp [hl]
  have hln : (encR r).length = 0 + 8 + 1 + (encUs [r.han, n]).length + (encUs r.vs).length := by
    rw [he]; simp only [List.length_append, enc8_len, List.length_singleton]; try omega
  refine K_ret (Told.mk _ rfl ⟨a7, c7, by rw [hln]; rfl, ?_, ((x04.trans x5).trans x6).trans x7, fun i q => ?_⟩)
  · rw [hln, he]; exact o7
  · rcases b7 i q with q | q
    · rcases b6 i q with q | q
      · have := b4' i q; omega
      · omega
    · omega

theorem fixed1_lt (s : Rd) (hx : ∀ x ∈ s.1, x < 256) : (fixedS 1 s).1 < 256 := by
  have h2 : ∀ l : List Nat, (∀ x ∈ l, x < 256) → l.length ≤ 1 → dec l < 256 := fun l hl h1 => by
    match l, h1 with
    | [], _ => decide
    | [x], _ =>
      have := hl x (by simp)
      show (0 * 256 + x) % 18446744073709551616 < 256
      omega
  unfold fixedS bytesS
  split
  · exact (by decide : 0 < 256)
  · exact h2 _ (fun x hm => hx x (List.mem_of_mem_take hm)) (by rw [List.length_take]; omega)

set_option maxHeartbeats 1000000 in
/-- req.TakeReply -/
theorem C25 {h : Heap} {a : Option Addr} {c n : Nat} {xs : List Nat} (s : SlA h 1 a n c (bys xs)) (hb : n ≤ 100000) (hx : ∀ x ∈ xs, x < 256) (ha : ∀ i, Blk a i → i < h.next) :
    Fn Try.prog 25 [.slice a n c] h fun v h' => Ext0 h h' ∧ ∃ a' c', v = .tuple ⟨[.agg ⟨RpV (takeR xs).1 a' (takeR xs).1.vs.length c'⟩, .int .i64 (takeR xs).2]⟩ ∧ OwS h' 1 a' (takeR xs).1.vs.length c' (u64s (takeR xs).1.vs) ∧ ∀ i, Blk a' i → h.next ≤ i := by
  have hn : xs.length = n := by simpa using s.len
  subst hn
  refine fnK F25.fok rfl ?_
  refine K_reg (Wops_new fun h1 n1 x1 g1 => Wops_run rfl rfl (K_fin [(0, _), (2, _)] rfl (?_)))
  refine K_reg (Wops_new fun h2 n2 x2 g2 => K_fin [(0, _), (2, _), (4, _)] rfl (?_))
  refine K_reg (Wops_run rfl rfl (Wops_run rfl rfl (Wops_box (cs := [.slice a xs.length c, .int .i64 0]) rfl rfl fun h3 n3 x3 g3 => Wops_run rfl rfl (K_fin [(2, _), (4, _), (5, _)] rfl (?_)))))
  have q3 : Cu h3 h2.next h.next (xs, 0) [] := ⟨hx, a, c, g3, ((s.ext x1).ext x2).ext x3, hb, by omega, ha⟩
  have g13 : At h3 h.next (.cells [.int .u64 0, .int .i64 0, .int .u64 0, .slice none 0 0] 0 false) := (At.ext g1 x2).ext x3
  have g23 : At h3 h1.next (.cells [.int .u64 0, .int .i64 0, .int .u64 0, .slice none 0 0] 0 false) := At.ext g2 x3
  have x03 : Ext0 h h3 := (x1.trans x2).trans x3
  refine K_reg (Wops_run rfl rfl (Wops_call rfl (C62 q3 (n := 8) (by decide)) ?_))
  rintro _ h4 ⟨q4, x4, rfl⟩
  have hx4 := q4.1
  have g24 := g23.ext x4 (by omega)
  refine Wops_run rfl rfl (Wops_st (l := [.int .u64 ((fixedS 8 (xs, 0)).1 : Int)]) rfl rfl rfl rfl g24 (by simp) rfl fun h5 n5 x5 g5 => K_fin [(2, _), (4, _), (5, _)] rfl (?_))
  have q5 := q4.ext x5 (by omega) (fun i r => by omega)
  have h1lt := fixed1_lt _ hx4
  refine K_reg (Wops_run rfl rfl (Wops_call rfl (C62 q5 (n := 1) (by decide)) ?_))
  rintro _ h6 ⟨q6, x6, rfl⟩
  have g6 := At.ext g5 x6 (by omega)
  refine Wops_as (w := .int .i64 ((fixedS 1 (fixedS 8 (xs, 0)).2).1 : Int)) rfl rfl (by rw [w64 (by omega)]) (Wops_run rfl rfl (Wops_st (l := [.int .i64 ((fixedS 1 (fixedS 8 (xs, 0)).2).1 : Int)]) rfl rfl rfl rfl g6 (by simp [putL]) rfl fun h7 n7 x7 g7 => K_fin [(2, _), (4, _), (5, _)] rfl (?_)))
  have q7 := q6.ext x7 (by omega) (fun i r => by omega)
  refine K_reg (Wops_run rfl rfl (Wops_run rfl rfl (Wops_ld (v := .int .i64 ((fixedS 1 (fixedS 8 (xs, 0)).2).1 : Int)) rfl g7 rfl (Wops_as (w := .bool (decide ((fixedS 1 (fixedS 8 (xs, 0)).2).1 > 17))) rfl rfl (by congr 1; exact decide_eq_decide.2 (by omega)) (Wops_call rfl (C63 q7) ?_)))))
  rintro _ h8 ⟨q8, x8⟩
  refine K_fin [(2, _), (4, _), (5, _)] rfl (?_)
  have g8 := At.ext g7 x8 (by omega)
  refine K_reg (Wops_run rfl rfl (Wops_call rfl (C64 q8) ?_))
  rintro _ h9 ⟨q9, x9, rfl⟩
  have g9 := g8.ext x9 (by omega)
  refine Wops_run rfl rfl (Wops_st (l := [.int .u64 ((numberS (failS (decide ((fixedS 1 (fixedS 8 (xs, 0)).2).1 > 17)) 2 (fixedS 1 (fixedS 8 (xs, 0)).2).2)).1 : Int)]) rfl rfl rfl rfl g9 (by simp [putL]) rfl fun h10 n10 x10 g10 => K_fin [(2, _), (4, _), (5, _)] rfl (?_))
  have q10 := q9.ext x10 (by omega) (fun i r => by omega)
  refine K_reg (Wops_run rfl rfl (Wops_call rfl (C65 q10) ?_))
  rintro _ h11 ⟨q11, x11, av, cv, rfl, ov, bv⟩
  have g11 := At.ext g10 x11 (by omega)
  have z1 := x03.next
  have z4 := x4.next
  have z5 := x5.next
  have z6 := x6.next
  have z7 := x7.next
  have z8 := x8.next
  have z9 := x9.next
  have z10 := x10.next
  have z11 := x11.next
  refine Wops_run rfl rfl (Wops_st (l := [.slice av _ cv]) rfl rfl rfl rfl g11 (by simp [putL]) rfl fun h12 n12 x12 g12 => K_fin [(2, _), (4, _), (5, _)] rfl (?_))
  have q12 := q11.ext x12 (by omega) (fun i r => by omega)
  refine K_ss (K_reg (Wops_run rfl rfl (Wops_call rfl (C45 q12) ?_)))
  rintro _ h13 ⟨q13, x13, rfl⟩
  have g13' := At.ext g12 x13 (by omega)
  have z12 := x12.next
  have z13 := x13.next
  have X : Ext0 h h13 := (((((((((x03.then x4 fun i r => .inr (by omega)).then x5 fun i r => .inr (by omega)).then x6 fun i r => .inr (by omega)).then x7 fun i r => .inr (by omega)).then x8 fun i r => .inr (by omega)).then x9 fun i r => .inr (by omega)).then x10 fun i r => .inr (by omega)).then x11 fun i r => .inr (by omega)).then x12 fun i r => .inr (by omega)).then x13 fun i r => .inr (by omega)
  have gr : At h13 h.next (.cells [.int .u64 0, .int .i64 0, .int .u64 0, .slice none 0 0] 0 false) := (((((((((g13.ext x4 (by omega)).ext x5 (by omega)).ext x6 (by omega)).ext x7 (by omega)).ext x8 (by omega)).ext x9 (by omega)).ext x10 (by omega)).ext x11 (by omega)).ext x12 (by omega)).ext x13 (by omega)
  have ov13 := (ov.ext x12 (fun i r => by have := bv i r; omega)).ext x13 (fun i r => by have := bv i r; omega)
  refine Wops_run rfl rfl (K_fin [(2, _), (4, _), (6, _)] rfl (?_))
  have hR : (readR xs).2 = (numbersS (numberS (failS (decide ((fixedS 1 (fixedS 8 (xs, 0)).2).1 > 17)) 2 (fixedS 1 (fixedS 8 (xs, 0)).2).2)).2).2 := rfl
  rw [← hR]
  have htk : takeR xs = if (endS (readR xs).2).2 ≠ 0 then (Rp.zero, (endS (readR xs).2).2) else ((readR xs).1, 0) := rfl
  refine K_ss (K_reg (Wops_run rfl rfl ?_))
  by_cases h0 : (endS (readR xs).2).2 = 0
  · rw [if_neg (fun w => w h0)] at htk
    rw [htk]
    refine Wops_as (w := .bool false) rfl rfl (by simp [h0]) (K_fin [(2, _), (4, _), (6, _), (31, _)] rfl (?_))
    refine K_scond rfl (fun hc => by cases hc) (fun _ => ?_)
    refine K_sskip (K_reg (Wops_ldA (l := RpV (readR xs).1 av (readR xs).1.vs.length cv) rfl g13' (by simp [putL]) rfl ?_))
    refine Wops_st (l := RpV (readR xs).1 av (readR xs).1.vs.length cv) rfl rfl rfl rfl gr (by simp) rfl fun h14 n14 x14 g14 => ?_
    refine Wops_run rfl rfl (K_fin [(2, _), (3, _)] rfl (?_))
    refine K_ret (Told.mk _ (resL_cons (res_c (l := RpV (readR xs).1 av (readR xs).1.vs.length cv) rfl g14 (by simp [putL_length]) (by rfl)) (resL_cons rfl rfl)) ⟨X.then x14 fun i r => .inr (by omega), av, cv, rfl, ?_, fun i r => by have := bv i r; omega⟩)
    exact ov13.ext x14 fun i r z => by have := bv i r; omega
  · rw [if_pos h0] at htk
    rw [htk]
    refine Wops_as (w := .bool true) rfl rfl (by simp [h0]) (K_fin [(2, _), (4, _), (6, _), (31, _)] rfl (?_))
    refine K_scond rfl (fun _ => ?_) (fun hc => by cases hc)
    refine K_ss (K_reg (Wops_run rfl rfl (Wops_run rfl rfl (Wops_st (l := [.int .u64 0, .int .i64 0, .int .u64 0, .slice none 0 0]) rfl rfl rfl rfl gr (by simp) rfl fun h14 n14 x14 g14 => ?_))))
    refine Wops_run rfl rfl (K_fin [(2, _), (3, _)] rfl (?_))
    exact K_sret (Told.mk _ (resL_cons (res_c (l := [.int .u64 0, .int .i64 0, .int .u64 0, .slice none 0 0]) rfl g14 (by simp [putL_length]) (by rfl)) (resL_cons rfl rfl)) ⟨X.then x14 fun i r => .inr (by omega), none, 0, rfl, OwS.none, fun i r => absurd r Blk.none⟩)
end Go.Dx.SYtkppbmhpcjjceaa
