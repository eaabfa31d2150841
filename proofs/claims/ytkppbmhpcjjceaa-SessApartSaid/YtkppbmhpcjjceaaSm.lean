/- Texts merged: Rr1.lean, Rr2.lean, Rr3.lean, Fr1.lean, Fr2.lean, Fr3.lean, Fr4.lean, Se1.lean, Se2.lean, Se3.lean, Se4.lean, Se5.lean, Se6.lean. -/
import Derived.Test.YtkppbmhpcjjceaaRq12
import Derived.Test.YtkppbmhpcjjceaaDx30
import Derived.Test.YtkppbmhpcjjceaaDx31
namespace Go.Dx.SYtkppbmhpcjjceaa
open Go.Proofs
section
/- The document's writers: eight, PutU, putName, PutRequest; SameRequest. -/
set_option linter.unusedVariables false
set_option linter.unusedSimpArgs false

/-- the document's eight -/
theorem C57 {h : Heap} {a : Option Addr} {n c : Nat} {xs : List Nat} {v : Nat} (s : SlA h 1 a n c (bys xs)) (hb : n ≤ 1000) (hv : v < 18446744073709551616) :
    Fn Try.prog 57 [.slice a n c, .int .u64 (v : Int)] h fun r h' => ∃ a' c', r = .slice a' (n + 8) c' ∧ OwS h' 1 a' (n + 8) c' (bys (xs ++ enc8 v)) ∧ Ext0 h h' ∧ ∀ i, Blk a' i → h.next ≤ i := by
  refine fnK F57.fok rfl ?_
  refine K_reg (Wops_run rfl rfl (K_fin [(0, _), (1, _)] rfl (?_)))
  refine K_reg (Wops_bslice (l := []) rfl rfl fun h1 n1 x1 g1 => ?_)
  refine Wops_run rfl rfl (Wops_app rfl rfl (OwS.new (n := 0) g1 rfl) rfl (s.ext x1).first ⟨by omega, by omega⟩ s.len (bys_cell _) (by decide) fun h2 a2 c2 x2 o2 b2 => ?_)
  refine Wops_run rfl rfl (K_fin [(1, _), (5, _)] rfl (?_))
  have z1 := x1.next
  have z2 := x2.next
  have b2' : ∀ i, Blk a2 i → h.next ≤ i := fun i q => (b2 i q).elim (fun q => by rw [Blk.at] at q; omega) fun q => by omega
  have x02 : Ext0 h h2 := x1.then x2 fun i q => .inr (by rw [Blk.at] at q; omega)
  rw [List.nil_append, Nat.zero_add] at o2
  rw [Nat.zero_add]
  refine K_ss (K_reg (Wops_run rfl rfl (K_fin [(1, _), (5, _), (6, _)] rfl (?_))))
  refine K_sblock ?_
  refine K_loop (fun k e h' => ∃ (j : Nat) (a' : Option Addr) (c' : Nat), e = [(1, .int .u64 (v : Int)), (5, .slice a' (n + j) c'), (6, .int .i64 (j : Int))] ∧ j ≤ 8 ∧ k = 8 - j ∧ OwS h' 1 a' (n + j) c' (bys (xs ++ (enc8 v).take j)) ∧ Ext0 h h' ∧ ∀ i, Blk a' i → h.next ≤ i) ?_ (k := 8) ⟨0, a2, c2, rfl, by omega, rfl, by simpa using o2, x02, b2'⟩
  rintro k e h' ⟨j, a', c', rfl, hj, rfl, o', x', b'⟩
  refine K_ss (K_reg (Wops_run rfl rfl ?_))
  by_cases hj8 : j < 8
  · refine Wops_as (w := .bool true) rfl rfl (by rw [decide_eq_true (by omega)]) (K_fin [(1, _), (5, _), (6, _), (11, _)] rfl (?_))
    refine K_scond rfl (fun _ => ?_) (fun hc => by cases hc)
    refine K_sskip (K_sblock ?_)
    refine K_last (Wops_run rfl rfl (Wops_run rfl rfl (Wops_run rfl rfl (Wops_as (w := .int .i64 ((8 * j : Nat) : Int)) rfl rfl (by rw [w64 (by omega)]; congr 1) (Wops_as (w := .int .i64 ((8 * (7 - j) : Nat) : Int)) rfl rfl (by rw [w64 (by omega)]; congr 1; omega) (Wops_as (w := .int .u64 ((v / 2 ^ (8 * (7 - j)) : Nat) : Int)) rfl rfl ?_ (Wops_as (w := .int .u8 ((v / 2 ^ (8 * (7 - j)) % 256 : Nat) : Int)) rfl rfl (by rw [wr8m]) ?_)))))))
    · exact Option.some.inj (shrN (kk := .i64) (k := .u64) (by show _ ≤ 64; omega))
    refine Wops_bslice (l := bys [v / 2 ^ (8 * (7 - j)) % 256]) rfl rfl fun h1 n1 x1 g1 => ?_
    refine Wops_app rfl rfl (o'.ext x1) rfl (OwS.new (n := 1) (c := 1) g1 rfl).sl.first ⟨by omega, by omega⟩ rfl rfl (by decide) fun h2 a2 c2 x2 o2 b2 => ?_
    refine Wops_run rfl rfl (K_finL [(1, _), (5, _), (6, _)] rfl (?_))
    refine K_last (Wops_run rfl rfl (Wops_run rfl rfl (Wops_run rfl rfl (K_finL [(1, _), (5, _), (6, _)] rfl (?_)))))
    have z' := x'.next
    have z1 := x1.next
    refine ⟨8 - (j + 1), by omega, j + 1, a2, c2, by rw [w64s (by omega)]; rfl, by omega, rfl, ?_, (x'.trans x1).then x2 fun i r => .inr (b' i r), fun i r => (b2 i r).elim (b' i) fun r => by omega⟩
    rw [enc8_take hj8, ← List.append_assoc, bys_app]; exact o2
  · obtain rfl : j = 8 := by omega
    refine Wops_as (w := .bool false) rfl rfl rfl (K_fin [(1, _), (5, _), (6, _), (11, _)] rfl (?_))
    refine K_scond rfl (fun hc => by cases hc) (fun _ => ?_)
    refine K_sexit (bx_same ?_)
    refine K_reg (Wops_run rfl rfl (Wops_run rfl rfl (K_fin [(4, _)] rfl (?_))))
    exact K_ret (Told.mk _ rfl ⟨a', c', rfl, o', x', b'⟩)

/-- the document's PutU -/
theorem C59 {h : Heap} {a : Option Addr} {n c : Nat} {xs : List Nat} {v : Nat} (s : SlA h 1 a n c (bys xs)) (hb : n ≤ 10000) (hv : v < 18446744073709551616) :
    Fn Try.prog 59 [.slice a n c, .int .u64 (v : Int)] h fun r h' => ∃ a' c', r = .slice a' (n + (encU v).length) c' ∧ OwS h' 1 a' (n + (encU v).length) c' (bys (xs ++ encU v)) ∧ Ext0 h h' ∧ ∀ i, Blk a' i → h.next ≤ i := by
  have hlen : (encU v).length ≤ 10 := encU_len 10 v (Nat.lt_of_lt_of_le hv (by decide)) (by decide)
  refine fnK F59.fok rfl ?_
  refine K_reg (Wops_run rfl rfl (K_fin [(0, _), (1, _)] rfl (?_)))
  refine K_reg (Wops_bslice (l := []) rfl rfl fun h1 n1 x1 g1 => ?_)
  refine Wops_run rfl rfl (Wops_app rfl rfl (OwS.new (n := 0) g1 rfl) rfl (s.ext x1).first ⟨by omega, by omega⟩ s.len (bys_cell _) (by decide) fun h2 a2 c2 x2 o2 b2 => ?_)
  refine Wops_run rfl rfl (K_fin [(1, _), (5, _)] rfl (?_))
  have z1 := x1.next
  have z2 := x2.next
  have b2' : ∀ i, Blk a2 i → h.next ≤ i := fun i q => (b2 i q).elim (fun q => by rw [Blk.at] at q; omega) fun q => by omega
  have x02 : Ext0 h h2 := x1.then x2 fun i q => .inr (by rw [Blk.at] at q; omega)
  rw [List.nil_append, Nat.zero_add] at o2
  rw [Nat.zero_add]
  refine K_sblock ?_
  refine K_loop (fun k e h' => ∃ (w : Nat) (pre : List Nat) (la : Option Addr) (lc : Nat), e = [(1, .int .u64 (w : Int)), (5, .slice la (n + pre.length) lc)] ∧ w = k ∧ w ≤ v ∧ encU v = pre ++ encU w ∧ OwS h' 1 la (n + pre.length) lc (bys (xs ++ pre)) ∧ (∀ j, Blk la j → h.next ≤ j) ∧ Ext0 h h') ?_ (k := v) ⟨v, [], a2, c2, rfl, rfl, Nat.le_refl _, rfl, by simpa using o2, b2', x02⟩
  rintro k e h' ⟨w, pre, la, lc, rfl, rfl, hwv, he, o, bo, x'⟩
  have hpl : pre.length + (encU w).length ≤ 10 := by have := congrArg List.length he; rw [List.length_append] at this; omega
  have hwp := encU_pos w
  refine K_ss (K_reg (Wops_run rfl rfl ?_))
  by_cases hw : w < 128
  · refine Wops_as (w := .bool false) rfl rfl (by rw [decide_eq_false (by omega)]) (K_fin [(1, _), (5, _), (10, _)] rfl (?_))
    refine K_scond rfl (fun hc => by cases hc) (fun _ => ?_)
    refine K_sexit (bx_same ?_)
    refine K_reg (Wops_run rfl rfl (Wops_run rfl rfl (Wops_as (w := .int .u8 (w : Int)) rfl rfl (by rw [wr8m, Nat.mod_eq_of_lt (by omega)]) (Wops_bslice (l := bys [w]) rfl rfl fun h1 n1 x1 g1 => ?_))))
    refine Wops_app rfl rfl (o.ext x1) rfl (OwS.new (n := 1) (c := 1) g1 rfl).sl.first ⟨by omega, by omega⟩ rfl rfl (by decide) fun h2 a2 c2 x2 o2 b2 => ?_
    have z' := x'.next
    have z1 := x1.next
    refine Wops_run rfl rfl (K_fin [(4, _)] rfl (?_))
    have hl : n + (encU v).length = n + pre.length + 1 := by rw [he, encU_lt hw]; simp; omega
    refine K_ret (Told.mk _ rfl ⟨a2, c2, by rw [hl]; rfl, ?_, (x'.trans x1).then x2 fun i r => .inr (bo i r), fun i r => (b2 i r).elim (bo i) fun r => by omega⟩)
    rw [hl, he, encU_lt hw, ← List.append_assoc, bys_app]; exact o2
  · refine Wops_as (w := .bool true) rfl rfl (by rw [decide_eq_true (by omega)]) (K_fin [(1, _), (5, _), (10, _)] rfl (?_))
    refine K_scond rfl (fun _ => ?_) (fun hc => by cases hc)
    refine K_sskip (K_block ?_)
    refine K_reg (Wops_run rfl rfl (Wops_run rfl rfl (Wops_as (w := .int .u8 ((w % 256 : Nat) : Int)) rfl rfl (by rw [wr8m]) (Wops_as (w := .int .u8 ((w % 128 + 128 : Nat) : Int)) rfl rfl ?_ ?_))))
    · have h1 := or128 ⟨w % 256, Nat.mod_lt _ (by decide)⟩
      show Value.int .u8 (IntKind.wrap .u8 (((BitVec.ofInt 8 ((w % 256 : Nat) : Int) ||| BitVec.ofInt 8 128).toNat : Nat) : Int)) = _
      rw [h1, wr8m]; congr 2; simp only; omega
    refine Wops_bslice (l := bys [w % 128 + 128]) rfl rfl fun h1 n1 x1 g1 => ?_
    refine Wops_app rfl rfl (o.ext x1) rfl (OwS.new (n := 1) (c := 1) g1 rfl).sl.first ⟨by omega, by omega⟩ rfl rfl (by decide) fun h2 a2 c2 x2 o2 b2 => ?_
    refine Wops_run rfl rfl (K_fin [(1, _), (5, _)] rfl (?_))
    refine K_last (Wops_run rfl rfl (Wops_as (w := .int .u64 ((w / 128 : Nat) : Int)) rfl rfl (by show Value.int .u64 ((w : Int).fdiv _) = _; congr 1; exact fdivN w 128) (Wops_run rfl rfl (K_finL [(1, _), (5, _)] rfl (?_)))))
    have z' := x'.next
    have z1 := x1.next
    refine ⟨w / 128, by omega, w / 128, pre ++ [w % 128 + 128], a2, c2, by simp [Nat.add_assoc], rfl, by omega, by rw [he, encU_ge hw]; simp, ?_, fun j r => (b2 j r).elim (bo j) fun r => by omega, (x'.trans x1).then x2 fun i r => .inr (bo i r)⟩
    rw [List.length_append, ← List.append_assoc, bys_app, ← Nat.add_assoc]; exact o2

/-- the document's putName -/
theorem C58 {h : Heap} {a : Option Addr} {n c : Nat} {xs nm : List Nat} (s : SlA h 1 a n c (bys xs)) (hb : n ≤ 500) (hl : nm.length ≤ 100) (hn : ∀ x ∈ nm, x < 256) :
    Fn Try.prog 58 [.slice a n c, .string (strOf nm)] h fun v h' => ∃ a' c', v = .slice a' (n + (encN nm).length) c' ∧ OwS h' 1 a' (n + (encN nm).length) c' (bys (xs ++ encN nm)) ∧ Ext0 h h' ∧ ∀ i, Blk a' i → h.next ≤ i := by
  refine fnK F58.fok rfl ?_
  refine K_reg (Wops_run rfl rfl (K_fin [(0, _), (1, _)] rfl (?_)))
  have hlen : (encU nm.length).length ≤ 10 := encU_len 10 nm.length (Nat.lt_of_le_of_lt hl (by decide)) (by decide)
  refine K_reg (Wops_run rfl rfl (Wops_run rfl rfl (Wops_run rfl rfl (Wops_as (w := .int .u64 (nm.length : Int)) rfl rfl (by rw [strOf_size, wr64m, Nat.mod_eq_of_lt (by omega)]) (Wops_call rfl (C59 s (by omega) (by omega)) ?_)))))
  rintro _ h2 ⟨a2, c2, rfl, o2, x2, b2⟩
  refine Wops_run rfl rfl (Wops_app (m := (strOf nm).size) rfl rfl o2 rfl (first_str hn) (by rw [strOf_size]; omega) (by rw [strOf_size]; simp) (bys_cell _) (by decide) fun h3 a3 c3 x3 o3 b3 => ?_)
  refine Wops_run rfl rfl (K_fin [(4, _)] rfl (?_))
  have z2 := x2.next
  have e2 : n + (encN nm).length = n + (encU nm.length).length + (strOf nm).size := by unfold encN; rw [strOf_size, List.length_append]; omega
  refine K_ret (Told.mk _ rfl ⟨a3, c3, by rw [e2]; rfl, ?_, x2.then x3 fun i r => .inr (b2 i r), fun i r => (b3 i r).elim (b2 i) fun r => by omega⟩)
  rw [e2]; unfold encN; rw [← List.append_assoc, bys_app]; exact o3

set_option maxHeartbeats 2000000 in
/-- the document's PutRequest -/
theorem C20 {h : Heap} {r : Rq} {ba aa : Option Addr} {bn bc an ac : Nat} (k : r.Fit) (s1 : SlA h 1 ba bn bc (bys r.body)) (s2 : SlA h 1 aa an ac (u64s r.args)) :
    Fn Try.prog 20 [.agg ⟨RqV r ba bn bc aa an ac⟩] h fun v h' => ∃ a' c', v = .slice a' (encQ r).length c' ∧ OwS h' 1 a' (encQ r).length c' (bys (encQ r)) ∧ Ext0 h h' ∧ ∀ i, Blk a' i → h.next ≤ i := by
  have hbn : r.body.length = bn := by simpa using s1.len
  have han : r.args.length = an := by simpa using s2.len
  have kb := k.b
  have ka := k.a
  have kn := k.n
  have kk1 := k.k1
  have kk6 := k.k6
  refine fnK F20.fok rfl ?_
  refine K_reg (Wops_box (cs := RqV r ba bn bc aa an ac) rfl rfl fun h1 n1 x1 g1 => Wops_run rfl rfl (K_fin [(1, _)] rfl (?_)))
  refine K_reg (Wops_run rfl rfl (Wops_ld (v := .int .i64 (r.kind : Int)) rfl g1 rfl (Wops_as (w := .int .u8 (r.kind : Int)) rfl rfl (by rw [wr8m, Nat.mod_eq_of_lt (by omega)]) (Wops_bslice (l := bys [r.kind]) rfl rfl fun h2 n2 x2 g2 => ?_))))
  have g12 : At h2 h.next (.cells (RqV r ba bn bc aa an ac) 0 false) := At.ext g1 x2
  refine Wops_run rfl rfl (Wops_ld (v := .int .u64 (r.tok : Int)) rfl g12 rfl (Wops_call rfl (C57 (n := 1) (xs := [r.kind]) (OwS.new (n := 1) (c := 1) g2 rfl).sl (by decide) k.t) ?_))
  rintro _ h3 ⟨a3, c3, rfl, o3, x3, b3⟩
  refine Wops_run rfl rfl (K_fin [(1, _), (3, _)] rfl (?_))
  have z1 := x1.next
  have z2 := x2.next
  have z3 := x3.next
  have b3' : ∀ i, Blk a3 i → h.next + 1 ≤ i := fun i q => by have := b3 i q; omega
  have x03 : Ext0 h h3 := (x1.trans x2).trans x3
  have g13 : At h3 h.next (.cells (RqV r ba bn bc aa an ac) 0 false) := g12.ext x3
  have s13 := s1.ext x03
  have s23 := s2.ext x03
  have hlen : (encQ r).length = 1 + 8 + (encB r).length := by unfold encQ; simp only [List.length_append, enc8_len, List.length_singleton]; omega
  have hq : encQ r = ([r.kind] ++ enc8 r.tok) ++ encB r := by unfold encQ; rw [List.append_assoc]
  have hs := encU_len 10 r.han (Nat.lt_of_lt_of_le k.h (by decide)) (by decide)
  have hnl : (encN r.name).length ≤ 70 := by
    have h1 := encU_len 10 r.name.length (Nat.lt_of_le_of_lt kn (by decide)) (by decide)
    unfold encN; rw [List.length_append]; omega
  rw [hlen, hq]
  refine K_ss (K_reg (Wops_run rfl rfl (Wops_ld (v := .int .i64 (r.kind : Int)) rfl g13 rfl (K_fin [(1, _), (3, _), (13, _)] rfl (?_)))))
  refine K_sblock ?_
  have hh : r.kind = 1 ∨ r.kind = 2 ∨ r.kind = 3 ∨ r.kind = 4 ∨ r.kind = 5 ∨ r.kind = 6 := by omega
  rcases hh with hk | hk | hk | hk | hk | hk
  · refine K_reg (Wops_as (w := .bool true) rfl rfl (by rw [hk]; rfl) (Wops_run rfl rfl (K_fin [(1, _), (3, _), (13, _), (14, _)] rfl (?_))))
    refine K_cond rfl (fun _ => ?_) (fun hc => by cases hc)
    have eB : encB r = r.body := by unfold encB; rw [hk]; rfl
    rw [eB]
    refine K_reg (Wops_run rfl rfl (Wops_run rfl rfl (Wops_ld (v := .slice ba bn bc) rfl g13 rfl (Wops_app (m := bn) rfl rfl o3 rfl s13.first ⟨by omega, by omega⟩ s13.len (bys_cell _) (by decide) fun h4 a4 c4 x4 o4 b4 => ?_))))
    refine Wops_run rfl rfl (K_fin [(2, _)] rfl (?_))
    refine K_ret (Told.mk _ rfl ⟨a4, c4, by rw [hbn]; rfl, ?_, x03.then x4 fun i q => .inr (by have := b3' i q; omega), fun i q => (b4 i q).elim (fun q => by have := b3' i q; omega) fun q => by omega⟩)
    rw [hbn, bys_app]; exact o4
  · refine K_reg (Wops_as (w := .bool false) rfl rfl (by rw [hk]; rfl) (Wops_run rfl rfl (K_fin [(1, _), (3, _), (13, _), (14, _)] rfl (?_))))
    refine K_cond rfl (fun hc => by cases hc) (fun _ => ?_)
    refine K_reg (Wops_as (w := .bool true) rfl rfl (by rw [hk]; rfl) (Wops_run rfl rfl (K_fin [(1, _), (3, _), (13, _), (20, _)] rfl (?_))))
    refine K_cond rfl (fun _ => ?_) (fun hc => by cases hc)
    have eB : encB r = encU r.han ++ encN r.name := by unfold encB; rw [hk]; rfl
    rw [eB]
    refine K_reg (Wops_run rfl rfl (Wops_run rfl rfl (Wops_ld (v := .int .u64 (r.han : Int)) rfl g13 rfl (Wops_run rfl rfl (Wops_ld (v := .string (strOf r.name)) rfl g13 rfl (Wops_call rfl (C59 o3.sl (by decide) k.h) ?_))))))
    rintro _ h5 ⟨a5, c5, rfl, o5, x5, b5⟩
    have g15 := g13.ext x5
    have z5 := x5.next
    refine Wops_chk rfl rfl g15 (v := .string (strOf r.name)) rfl (sameS _) (Wops_call rfl (C58 o5.sl (by omega) (by omega) k.nb) ?_)
    rintro _ h6 ⟨a6, c6, rfl, o6, x6, b6⟩
    refine Wops_run rfl rfl (K_fin [(2, _)] rfl (?_))
    refine K_ret (Told.mk _ rfl ⟨a6, c6, by rw [List.length_append, ← Nat.add_assoc]; rfl, ?_, (x03.trans x5).trans x6, fun i q => by have := b6 i q; omega⟩)
    rw [List.length_append, ← Nat.add_assoc, ← List.append_assoc]; exact o6
  · refine K_reg (Wops_as (w := .bool false) rfl rfl (by rw [hk]; rfl) (Wops_run rfl rfl (K_fin [(1, _), (3, _), (13, _), (14, _)] rfl (?_))))
    refine K_cond rfl (fun hc => by cases hc) (fun _ => ?_)
    refine K_reg (Wops_as (w := .bool false) rfl rfl (by rw [hk]; rfl) (Wops_run rfl rfl (K_fin [(1, _), (3, _), (13, _), (20, _)] rfl (?_))))
    refine K_cond rfl (fun hc => by cases hc) (fun _ => ?_)
    refine K_reg (Wops_as (w := .bool true) rfl rfl (by rw [hk]; rfl) (Wops_run rfl rfl (K_fin [(1, _), (3, _), (13, _), (29, _)] rfl (?_))))
    refine K_cond rfl (fun _ => ?_) (fun hc => by cases hc)
    have eB : encB r = encN r.name := by unfold encB; rw [hk]; rfl
    rw [eB]
    refine K_reg (Wops_run rfl rfl (Wops_run rfl rfl (Wops_ld (v := .string (strOf r.name)) rfl g13 rfl (Wops_call rfl (C58 o3.sl (by omega) (by omega) k.nb) ?_))))
    rintro _ h6 ⟨a6, c6, rfl, o6, x6, b6⟩
    refine Wops_run rfl rfl (K_fin [(2, _)] rfl (?_))
    exact K_ret (Told.mk _ rfl ⟨a6, c6, rfl, o6, x03.trans x6, fun i q => by have := b6 i q; omega⟩)
  · refine K_reg (Wops_as (w := .bool false) rfl rfl (by rw [hk]; rfl) (Wops_run rfl rfl (K_fin [(1, _), (3, _), (13, _), (14, _)] rfl (?_))))
    refine K_cond rfl (fun hc => by cases hc) (fun _ => ?_)
    refine K_reg (Wops_as (w := .bool false) rfl rfl (by rw [hk]; rfl) (Wops_run rfl rfl (K_fin [(1, _), (3, _), (13, _), (20, _)] rfl (?_))))
    refine K_cond rfl (fun hc => by cases hc) (fun _ => ?_)
    refine K_reg (Wops_as (w := .bool false) rfl rfl (by rw [hk]; rfl) (Wops_run rfl rfl (K_fin [(1, _), (3, _), (13, _), (29, _)] rfl (?_))))
    refine K_cond rfl (fun hc => by cases hc) (fun _ => ?_)
    refine K_reg (Wops_as (w := .bool true) rfl rfl (by rw [hk]; rfl) (Wops_run rfl rfl (K_fin [(1, _), (3, _), (13, _), (35, _)] rfl (?_))))
    refine K_cond rfl (fun _ => ?_) (fun hc => by cases hc)
    have eB : encB r = encU r.han ++ (encN r.name ++ (encL r.args ++ encU r.tic)) := by unfold encB; rw [hk]; rfl
    rw [eB]
    refine K_reg (Wops_run rfl rfl (Wops_run rfl rfl (Wops_ld (v := .int .u64 (r.han : Int)) rfl g13 rfl (Wops_run rfl rfl (Wops_ld (v := .string (strOf r.name)) rfl g13 rfl (Wops_run rfl rfl (Wops_ld (v := .slice aa an ac) rfl g13 rfl (Wops_run rfl rfl (Wops_as (w := .int .u64 (an : Int)) rfl rfl (by rw [wr64m, Nat.mod_eq_of_lt (by omega)]) (Wops_call rfl (C59 o3.sl (by decide) k.h) ?_))))))))))
    rintro _ h5 ⟨a5, c5, rfl, o5, x5, b5⟩
    have g15 := g13.ext x5
    have z5 := x5.next
    refine Wops_chk rfl rfl g15 (v := .string (strOf r.name)) rfl (sameS _) (Wops_chk rfl rfl g15 (v := .slice aa an ac) rfl s2.same (Wops_call rfl (C58 o5.sl (by omega) (by omega) k.nb) ?_))
    rintro _ h6 ⟨a6, c6, rfl, o6, x6, b6⟩
    have z6 := x6.next
    have g16 := g15.ext x6
    refine Wops_chk rfl rfl g16 (v := .slice aa an ac) rfl s2.same (Wops_call rfl (C59 o6.sl (by omega) (by omega)) ?_)
    rintro _ h7 ⟨a7, c7, rfl, o7, x7, b7⟩
    refine Wops_run rfl rfl (K_fin [(1, _), (3, _)] rfl (?_))
    have z7 := x7.next
    have g17 := g16.ext x7
    have x07 : Ext0 h h7 := ((x03.trans x5).trans x6).trans x7
    have hal := encU_len 10 an (by omega) (by decide)
    refine K_ss (K_reg (Wops_run rfl rfl (K_fin [(1, _), (3, _), (4, _)] rfl (?_))))
    generalize hX : [r.kind] ++ enc8 r.tok ++ encU r.han ++ encN r.name ++ encU an = X at o7
    have hXl : X.length = 1 + 8 + (encU r.han).length + (encN r.name).length + (encU an).length := by
      rw [← hX]; simp only [List.length_append, enc8_len, List.length_singleton]; try omega
    rw [← hXl] at o7 ⊢
    have hXb : X.length ≤ 100 := by omega
    refine K_sblock ?_
    refine K_loop (fun kk e h' => ∃ (i : Nat) (a' : Option Addr) (c' : Nat), e = [(1, ptr h.next), (3, .slice a' (X.length + (encUs (r.args.take i)).length) c'), (4, .int .i64 (i : Int))] ∧ i ≤ an ∧ kk = an - i ∧ OwS h' 1 a' (X.length + (encUs (r.args.take i)).length) c' (bys (X ++ encUs (r.args.take i))) ∧ Ext0 h h' ∧ (At h' h.next (.cells (RqV r ba bn bc aa an ac) 0 false)) ∧ ∀ j, Blk a' j → h.next ≤ j) ?_ (k := an)
      ⟨0, a7, c7, rfl, by omega, rfl, by simpa [encUs] using o7, x07, g17, fun j q => by have := b7 j q; omega⟩
    rintro kk e h' ⟨i, a', c', rfl, hi, rfl, o', x', g', b'⟩
    have hlt10 : (encUs (r.args.take i)).length ≤ 10 * i := by
      have := encUs_len (vs := r.args.take i) fun v hx => k.ab v (List.mem_of_mem_take hx)
      rw [List.length_take] at this; omega
    have z' := x'.next
    refine K_ss (K_reg (Wops_run rfl rfl (Wops_run rfl rfl (Wops_ld (v := .slice aa an ac) rfl g' rfl (Wops_run rfl rfl (Wops_run rfl rfl (K_fin [(1, _), (3, _), (4, _), (53, _)] rfl (?_))))))))
    refine K_scond rfl (fun hc => ?_) (fun hc => ?_)
    · have hlt : i < an := by have := of_decide_eq_true hc; omega
      have hil : i < r.args.length := by omega
      refine K_sskip (K_sblock ?_)
      refine K_last (Wops_run rfl rfl (Wops_run rfl rfl (Wops_ld (v := .slice aa an ac) rfl g' rfl (Wops_run rfl rfl (Wops_idx (u := .int .u64 ((r.args[i] : Nat) : Int)) rfl rfl (s2.ext x') ⟨by omega, by omega⟩ (by simp [u64s, hil]) fun _ => ?_)))))
      refine Wops_call rfl (C59 o'.sl (by omega) (k.ab _ (List.getElem_mem _))) ?_
      rintro _ h8 ⟨a8, c8, rfl, o8, x8, b8⟩
      refine Wops_run rfl rfl (K_finL [(1, _), (3, _), (4, _)] rfl (?_))
      refine K_last (Wops_run rfl rfl (Wops_run rfl rfl (Wops_run rfl rfl (K_finL [(1, _), (3, _), (4, _)] rfl (?_)))))
      have hst : encUs (r.args.take (i + 1)) = encUs (r.args.take i) ++ encU r.args[i] := by
        unfold encUs
        rw [List.take_add_one, List.getElem?_eq_getElem hil, Option.toList_some, List.flatMap_append]
        simp
      refine ⟨an - (i + 1), by omega, i + 1, a8, c8, by rw [w64s (by omega), hst, List.length_append, Nat.add_assoc], by omega, rfl, ?_, x'.trans x8, g'.ext x8, fun j q => by have := b8 j q; omega⟩
      rw [hst, List.length_append, ← Nat.add_assoc, ← List.append_assoc]; exact o8
    · have hin : i = an := by have := of_decide_eq_false hc; omega
      have hall : r.args.take i = r.args := List.take_of_length_le (by omega)
      rw [hall] at o' hlt10 ⊢
      refine K_sexit (bx_same ?_)
      refine K_reg (Wops_run rfl rfl (Wops_run rfl rfl (Wops_ld (v := .int .u64 (r.tic : Int)) rfl g' rfl (Wops_call rfl (C59 o'.sl (by omega) k.c) ?_))))
      rintro _ h8 ⟨a8, c8, rfl, o8, x8, b8⟩
      refine Wops_run rfl rfl (K_fin [(2, _)] rfl (?_))
      have hl4 : 1 + 8 + (encU r.han ++ (encN r.name ++ (encL r.args ++ encU r.tic))).length = X.length + (encUs r.args).length + (encU r.tic).length := by
        rw [hXl]; simp only [List.length_append, encL, han]; omega
      have hq4 : [r.kind] ++ enc8 r.tok ++ (encU r.han ++ (encN r.name ++ (encL r.args ++ encU r.tic))) = X ++ encUs r.args ++ encU r.tic := by
        rw [← hX]; simp only [encL, han, List.append_assoc]
      refine K_ret (Told.mk _ rfl ⟨a8, c8, by rw [hl4]; rfl, ?_, x'.trans x8, fun j q => by have := b8 j q; omega⟩)
      rw [hl4, hq4]; exact o8
  · refine K_reg (Wops_as (w := .bool false) rfl rfl (by rw [hk]; rfl) (Wops_run rfl rfl (K_fin [(1, _), (3, _), (13, _), (14, _)] rfl (?_))))
    refine K_cond rfl (fun hc => by cases hc) (fun _ => ?_)
    refine K_reg (Wops_as (w := .bool false) rfl rfl (by rw [hk]; rfl) (Wops_run rfl rfl (K_fin [(1, _), (3, _), (13, _), (20, _)] rfl (?_))))
    refine K_cond rfl (fun hc => by cases hc) (fun _ => ?_)
    refine K_reg (Wops_as (w := .bool false) rfl rfl (by rw [hk]; rfl) (Wops_run rfl rfl (K_fin [(1, _), (3, _), (13, _), (29, _)] rfl (?_))))
    refine K_cond rfl (fun hc => by cases hc) (fun _ => ?_)
    refine K_reg (Wops_as (w := .bool false) rfl rfl (by rw [hk]; rfl) (Wops_run rfl rfl (K_fin [(1, _), (3, _), (13, _), (35, _)] rfl (?_))))
    refine K_cond rfl (fun hc => by cases hc) (fun _ => ?_)
    refine K_reg (Wops_as (w := .bool true) rfl rfl (by rw [hk]; rfl) (Wops_run rfl rfl (K_fin [(1, _), (3, _), (67, _)] rfl (?_))))
    refine K_cond rfl (fun _ => ?_) (fun hc => by cases hc)
    have eB : encB r = encU r.han := by unfold encB; rw [hk]; rfl
    rw [eB]
    refine K_reg (Wops_run rfl rfl (Wops_run rfl rfl (Wops_ld (v := .int .u64 (r.han : Int)) rfl g13 rfl (Wops_call rfl (C59 o3.sl (by decide) k.h) ?_))))
    rintro _ h5 ⟨a5, c5, rfl, o5, x5, b5⟩
    refine Wops_run rfl rfl (K_fin [(2, _)] rfl (?_))
    exact K_ret (Told.mk _ rfl ⟨a5, c5, rfl, o5, x03.trans x5, fun i q => by have := b5 i q; omega⟩)
  · refine K_reg (Wops_as (w := .bool false) rfl rfl (by rw [hk]; rfl) (Wops_run rfl rfl (K_fin [(1, _), (3, _), (13, _), (14, _)] rfl (?_))))
    refine K_cond rfl (fun hc => by cases hc) (fun _ => ?_)
    refine K_reg (Wops_as (w := .bool false) rfl rfl (by rw [hk]; rfl) (Wops_run rfl rfl (K_fin [(1, _), (3, _), (13, _), (20, _)] rfl (?_))))
    refine K_cond rfl (fun hc => by cases hc) (fun _ => ?_)
    refine K_reg (Wops_as (w := .bool false) rfl rfl (by rw [hk]; rfl) (Wops_run rfl rfl (K_fin [(1, _), (3, _), (13, _), (29, _)] rfl (?_))))
    refine K_cond rfl (fun hc => by cases hc) (fun _ => ?_)
    refine K_reg (Wops_as (w := .bool false) rfl rfl (by rw [hk]; rfl) (Wops_run rfl rfl (K_fin [(1, _), (3, _), (13, _), (35, _)] rfl (?_))))
    refine K_cond rfl (fun hc => by cases hc) (fun _ => ?_)
    refine K_reg (Wops_as (w := .bool false) rfl rfl (by rw [hk]; rfl) (Wops_run rfl rfl (K_fin [(1, _), (3, _), (67, _)] rfl (?_))))
    refine K_cond rfl (fun hc => by cases hc) (fun _ => ?_)
    have eB : encB r = enc8 r.oth := by unfold encB; rw [hk]; rfl
    rw [eB]
    refine K_skip ?_
    refine K_reg (Wops_run rfl rfl (Wops_run rfl rfl (Wops_ld (v := .int .u64 (r.oth : Int)) rfl g13 rfl (Wops_call rfl (C57 o3.sl (by decide) k.o) ?_))))
    rintro _ h5 ⟨a5, c5, rfl, o5, x5, b5⟩
    refine Wops_run rfl rfl (K_fin [(2, _)] rfl (?_))
    exact K_ret (Told.mk _ rfl ⟨a5, c5, rfl, o5, x03.trans x5, fun i q => by have := b5 i q; omega⟩)

set_option maxHeartbeats 2000000 in
/-- the document's SameRequest -/
theorem C16 {h : Heap} {r q : Rq} {ba aa bb ab : Option Addr} {bn bc an ac bm bd am ad : Nat} (s1 : SlA h 1 ba bn bc (bys r.body)) (s2 : SlA h 1 aa an ac (u64s r.args)) (s3 : SlA h 1 bb bm bd (bys q.body)) (s4 : SlA h 1 ab am ad (u64s q.args))
    (hr : ∀ x ∈ r.name, x < 256) (hq : ∀ x ∈ q.name, x < 256) (hrb : ∀ x ∈ r.body, x < 256) (hqb : ∀ x ∈ q.body, x < 256) (han : an ≤ 1000000) :
    Fn Try.prog 16 [.agg ⟨RqV r ba bn bc aa an ac⟩, .agg ⟨RqV q bb bm bd ab am ad⟩] h fun v h' => v = .bool (decide (r = q)) ∧ Ext0 h h' := by
  refine fnK F16.fok rfl ?_
  refine K_reg (Wops_box (cs := RqV r ba bn bc aa an ac) rfl rfl fun h1 n1 x1 g1' => Wops_box (cs := RqV q bb bm bd ab am ad) rfl rfl fun h2 n2 x2 g2 => Wops_run rfl rfl (K_fin [(2, _), (3, _)] rfl (?_)))
  have g1 : At h2 h.next (.cells (RqV r ba bn bc aa an ac) 0 false) := At.ext g1' x2
  have no : ∀ {P : Prop}, (r = q → P) → ¬ P → decide (r = q) = false := fun f n => decide_eq_false fun e => n (f e)
  refine K_reg ?_
  refine Wops_run rfl rfl (Wops_ld (v := .int .i64 (r.kind : Int)) rfl g1 rfl (Wops_run rfl rfl (Wops_ld (v := .int .i64 (q.kind : Int)) rfl g2 rfl ?_)))
  by_cases hf : r.kind = q.kind
  case neg =>
    refine Wops_as (w := .bool false) rfl rfl (by simp; omega) ?_
    (repeat (first | refine Wops_skip rfl ?_ | refine Wops_run rfl rfl ?_))
    exact (K_fin [(4, _)] rfl (K_ret (Told.mk _ rfl ⟨by rw [no (fun e => congrArg Rq.kind e) hf]; rfl, x1.trans x2⟩)))
  refine Wops_as (w := .bool true) rfl rfl (by simp; omega) ?_
  have h0 := hf
  clear hf
  refine Wops_run rfl rfl ?_
  refine Wops_go rfl (Wops_run rfl rfl (Wops_go rfl (Wops_ld (v := .int .u64 (r.tok : Int)) rfl g1 rfl (Wops_go rfl (Wops_run rfl rfl (Wops_go rfl (Wops_ld (v := .int .u64 (q.tok : Int)) rfl g2 rfl ?_)))))))
  by_cases hf : r.tok = q.tok
  case neg =>
    refine Wops_go rfl (Wops_as (w := .bool false) rfl rfl (by simp; omega) ?_)
    (repeat (first | refine Wops_skip rfl ?_ | refine Wops_run rfl rfl ?_))
    exact (K_fin [(4, _)] rfl (K_ret (Told.mk _ rfl ⟨by rw [no (fun e => congrArg Rq.tok e) hf]; rfl, x1.trans x2⟩)))
  refine Wops_go rfl (Wops_as (w := .bool true) rfl rfl (by simp; omega) ?_)
  have h1_ := hf
  clear hf
  refine Wops_run rfl rfl (Wops_run rfl rfl ?_)
  refine Wops_go rfl (Wops_run rfl rfl (Wops_go rfl (Wops_ld (v := .int .u64 (r.han : Int)) rfl g1 rfl (Wops_go rfl (Wops_run rfl rfl (Wops_go rfl (Wops_ld (v := .int .u64 (q.han : Int)) rfl g2 rfl ?_)))))))
  by_cases hf : r.han = q.han
  case neg =>
    refine Wops_go rfl (Wops_as (w := .bool false) rfl rfl (by simp; omega) ?_)
    (repeat (first | refine Wops_skip rfl ?_ | refine Wops_run rfl rfl ?_))
    exact (K_fin [(4, _)] rfl (K_ret (Told.mk _ rfl ⟨by rw [no (fun e => congrArg Rq.han e) hf]; rfl, x1.trans x2⟩)))
  refine Wops_go rfl (Wops_as (w := .bool true) rfl rfl (by simp; omega) ?_)
  have h2_ := hf
  clear hf
  refine Wops_run rfl rfl (Wops_run rfl rfl ?_)
  refine Wops_go rfl (Wops_run rfl rfl (Wops_go rfl (Wops_ld (v := .string (strOf r.name)) rfl g1 rfl (Wops_go rfl (Wops_run rfl rfl (Wops_go rfl (Wops_ld (v := .string (strOf q.name)) rfl g2 rfl ?_)))))))
  by_cases hf : r.name = q.name
  case neg =>
    refine Wops_go rfl (Wops_streq (v := false) rfl rfl (by rw [str_eq hr hq, decide_eq_false hf]) ?_)
    (repeat (first | refine Wops_skip rfl ?_ | refine Wops_run rfl rfl ?_))
    exact (K_fin [(4, _)] rfl (K_ret (Told.mk _ rfl ⟨by rw [no (fun e => congrArg Rq.name e) hf]; rfl, x1.trans x2⟩)))
  refine Wops_go rfl (Wops_streq (v := true) rfl rfl (by rw [str_eq hr hq, decide_eq_true hf]) ?_)
  have h3_ := hf
  clear hf
  refine Wops_run rfl rfl (Wops_run rfl rfl ?_)
  have e1 := (s1.ext x1).ext x2
  have e3 := (s3.ext x1).ext x2
  rw [bys_ints] at e1 e3
  refine Wops_go rfl (Wops_run rfl rfl (Wops_go rfl (Wops_ld (v := .slice ba bn bc) rfl g1 rfl (Wops_go rfl (Wops_toStr rfl e1 (Wops_go rfl (Wops_run rfl rfl (Wops_go rfl (Wops_ld (v := .slice bb bm bd) rfl g2 rfl (Wops_go rfl (Wops_toStr rfl e3 (Wops_go rfl (Wops_streq (v := decide (r.body = q.body)) rfl rfl (str_eq hrb hqb) ?_)))))))))))))
  by_cases hf : r.body = q.body
  case neg =>
    rw [decide_eq_false hf]
    (repeat (first | refine Wops_skip rfl ?_ | refine Wops_run rfl rfl ?_))
    exact (K_fin [(4, _)] rfl (K_ret (Told.mk _ rfl ⟨by rw [no (fun e => congrArg Rq.body e) hf]; rfl, x1.trans x2⟩)))
  rw [decide_eq_true hf]
  have h4_ := hf
  clear hf
  refine Wops_run rfl rfl (Wops_run rfl rfl ?_)
  refine Wops_go rfl (Wops_run rfl rfl (Wops_go rfl (Wops_ld (v := .slice aa an ac) rfl g1 rfl (Wops_go rfl (Wops_run rfl rfl (Wops_go rfl (Wops_ld (v := .slice ab am ad) rfl g2 rfl ?_)))))))
  refine Wops_go rfl (Wops_call rfl (C23 ((s2.ext x1).ext x2) ((s4.ext x1).ext x2) (by omega)) ?_)
  rintro _ _ ⟨rfl, rfl⟩
  by_cases hf : r.args = q.args
  case neg =>
    rw [decide_eq_false hf]
    (repeat (first | refine Wops_skip rfl ?_ | refine Wops_run rfl rfl ?_))
    exact (K_fin [(4, _)] rfl (K_ret (Told.mk _ rfl ⟨by rw [no (fun e => congrArg Rq.args e) hf]; rfl, x1.trans x2⟩)))
  rw [decide_eq_true hf]
  have h5_ := hf
  clear hf
  refine Wops_run rfl rfl (Wops_run rfl rfl ?_)
  refine Wops_go rfl (Wops_run rfl rfl (Wops_go rfl (Wops_ld (v := .int .u64 (r.tic : Int)) rfl g1 rfl (Wops_go rfl (Wops_run rfl rfl (Wops_go rfl (Wops_ld (v := .int .u64 (q.tic : Int)) rfl g2 rfl ?_)))))))
  by_cases hf : r.tic = q.tic
  case neg =>
    refine Wops_go rfl (Wops_as (w := .bool false) rfl rfl (by simp; omega) ?_)
    (repeat (first | refine Wops_skip rfl ?_ | refine Wops_run rfl rfl ?_))
    exact (K_fin [(4, _)] rfl (K_ret (Told.mk _ rfl ⟨by rw [no (fun e => congrArg Rq.tic e) hf]; rfl, x1.trans x2⟩)))
  refine Wops_go rfl (Wops_as (w := .bool true) rfl rfl (by simp; omega) ?_)
  have h6_ := hf
  clear hf
  refine Wops_run rfl rfl (Wops_run rfl rfl ?_)
  refine Wops_go rfl (Wops_run rfl rfl (Wops_go rfl (Wops_ld (v := .int .u64 (r.oth : Int)) rfl g1 rfl (Wops_go rfl (Wops_run rfl rfl (Wops_go rfl (Wops_ld (v := .int .u64 (q.oth : Int)) rfl g2 rfl ?_)))))))
  by_cases hf : r.oth = q.oth
  case neg =>
    refine Wops_go rfl (Wops_as (w := .bool false) rfl rfl (by simp; omega) ?_)
    (repeat (first | refine Wops_skip rfl ?_ | refine Wops_run rfl rfl ?_))
    exact (K_fin [(4, _)] rfl (K_ret (Told.mk _ rfl ⟨by rw [no (fun e => congrArg Rq.oth e) hf]; rfl, x1.trans x2⟩)))
  refine Wops_go rfl (Wops_as (w := .bool true) rfl rfl (by simp; omega) ?_)
  have h7_ := hf
  clear hf
  refine Wops_run rfl rfl (Wops_run rfl rfl (K_fin [(4, _)] rfl (?_)))
  refine K_ret (Told.mk _ rfl ⟨?_, x1.trans x2⟩)
  have e : r = q := by
    cases r; cases q
    simp only at h0 h1_ h2_ h3_ h4_ h5_ h6_ h7_
    subst h0 h1_ h2_ h3_ h4_ h5_ h6_ h7_; rfl
  rw [decide_eq_true e]; rfl



end
section
/- The document's reader. -/
set_option linter.unusedVariables false
set_option linter.unusedSimpArgs false

/-- Fail -/
theorem C47 {h : Heap} {p B : Nat} {s : Rd} {rest : List Value} {e : Int} (q : Cu h p B s rest) :
    Fn Try.prog 47 [ptr p, .int .i64 e] h fun v h' => Cu h' p B (failS true e s) rest ∧ Ext (· = p) h h' := by
  obtain ⟨hx, a, c, g, sl, hb, hd⟩ := id q
  refine fnK F47.fok rfl ?_
  refine K_reg (Wops_run rfl rfl (Wops_run rfl rfl (Wops_run rfl rfl (Wops_ld (v := .int .i64 s.2) rfl g rfl ?_))))
  by_cases h0 : s.2 = 0
  · refine Wops_as (w := .bool true) rfl rfl (by simp [h0]) (K_fin [(0, _), (1, _), (8, _)] rfl (?_))
    refine K_cond rfl (fun _ => ?_) (fun hc => by cases hc)
    refine K_last (Wops_run rfl rfl (Wops_run rfl rfl (Wops_run rfl rfl (Wops_run rfl rfl (Wops_st (l := [.int .i64 e]) rfl rfl rfl rfl g (by simp) rfl fun h1 n1 x1 g1 => K_finL [] rfl (?_))))))
    refine Told.mk [] rfl ⟨?_, x1⟩
    have hf : failS true e s = (s.1, e) := by simp [failS, h0]
    rw [hf]
    exact ⟨hx, a, c, g1, sl.ext x1 fun i r z => by have := hd.1; have := hd.2 i r; omega, hb, hd⟩
  · refine Wops_as (w := .bool false) rfl rfl (by simp [h0]) (K_fin [(0, _), (1, _), (8, _)] rfl (?_))
    refine K_cond rfl (fun hc => by cases hc) (fun _ => K_skip (Told.mk [] rfl ⟨?_, Ext.refl _ _⟩))
    have hf : failS true e s = s := by simp [failS, h0]
    rw [hf]; exact q

/-- Byte -/
theorem C46 {h : Heap} {p B : Nat} {s : Rd} {rest : List Value} (q : Cu h p B s rest) :
    Fn Try.prog 46 [ptr p] h fun v h' => Cu h' p B (fixedS 1 s).2 rest ∧ Ext (· = p) h h' ∧ v = .int .u8 ((fixedS 1 s).1 : Int) := by
  obtain ⟨hx, a, c, g, sl, hb, hd⟩ := id q
  refine fnK F46.fok rfl ?_
  refine K_reg (Wops_run rfl rfl (K_fin [(0, _)] rfl (?_)))
  refine K_join (fun e h' => ∃ l : Env, e = [(0, ptr p)] ++ l ∧ Cu h' p B (failS (decide (s.1.length < 1)) 3 s) rest ∧ Ext (· = p) h h') ?_ ?_
  · refine K_reg (Wops_run rfl rfl (Wops_run rfl rfl (Wops_run rfl rfl (Wops_ld (v := .int .i64 s.2) rfl g rfl ?_))))
    by_cases h0 : s.2 = 0
    case neg =>
      refine Wops_as (w := .bool false) rfl rfl (by simp [h0]) ?_
      (repeat (first | refine Wops_skip rfl ?_ | refine Wops_run rfl rfl ?_))
      refine K_fin [(0, _), (16, _)] rfl (K_cond rfl (fun hc => by cases hc) (fun _ => K_skip ⟨[_], rfl, ?_, Ext.refl _ _⟩))
      rw [stick_fail h0]; exact q
    refine Wops_as (w := .bool true) rfl rfl (by simp [h0]) (Wops_run rfl rfl (Wops_go rfl (Wops_run rfl rfl (Wops_go rfl (Wops_run rfl rfl (Wops_go rfl (Wops_run rfl rfl (Wops_go rfl (Wops_ld (v := .slice a s.1.length c) rfl g rfl (Wops_go rfl (Wops_run rfl rfl (Wops_go rfl ?_))))))))))))
    by_cases hl : s.1.length = 0
    · refine Wops_as (w := .bool true) rfl rfl (by simp [hl]) (Wops_run rfl rfl (K_fin [(0, _), (16, _)] rfl (?_)))
      refine K_cond rfl (fun _ => ?_) (fun hc => by cases hc)
      refine K_last (Wops_run rfl rfl (Wops_run rfl rfl (Wops_run rfl rfl (Wops_st (l := [.int .i64 3]) rfl rfl rfl rfl g (by simp) rfl fun h1 n1 x1 g1 => K_finL [(0, _)] rfl (?_)))))
      refine ⟨[], rfl, ?_, x1⟩
      have hf : failS (decide (s.1.length < 1)) 3 s = (s.1, 3) := by simp [failS, h0, hl]
      rw [hf]
      exact ⟨hx, a, c, g1, sl.ext x1 fun i r z => by have := hd.1; have := hd.2 i r; omega, hb, hd⟩
    · refine Wops_as (w := .bool false) rfl rfl (by rw [Value.bool.injEq, beq_eq_false_iff_ne]; omega) (Wops_run rfl rfl (K_fin [(0, _), (16, _)] rfl (?_)))
      refine K_cond rfl (fun hc => by cases hc) (fun _ => K_skip ⟨[_], rfl, ?_, Ext.refl _ _⟩)
      have hf : failS (decide (s.1.length < 1)) 3 s = s := by
        rw [decide_eq_false (by omega)]; exact fail_no
      rw [hf]; exact q
  rintro _ h1 ⟨l, rfl, q1, x1⟩
  have hbs : bytesS 1 s = if (failS (decide (s.1.length < 1)) 3 s).2 ≠ 0 then ([], failS (decide (s.1.length < 1)) 3 s) else (s.1.take 1, s.1.drop 1, 0) := rfl
  obtain ⟨hx1, a1, c1, g1, sl1, hb1, hd1⟩ := id q1
  refine K_ss (K_reg (Wops_run rfl rfl (Wops_run rfl rfl (Wops_run rfl rfl (Wops_ld (v := .int .i64 (failS (decide (s.1.length < 1)) 3 s).2) rfl g1 rfl ?_)))))
  unfold fixedS
  by_cases h0 : (failS (decide (s.1.length < 1)) 3 s).2 = 0
  · obtain ⟨hd0, hs1⟩ := failS_ok (by decide) h0
    have hle : 1 ≤ s.1.length := by have := of_decide_eq_false hd0; omega
    rw [if_neg (fun w => w h0)] at hbs
    rw [hbs]
    rw [hs1] at g1 sl1 hb1 q1
    have hs0 : s.2 = 0 := by rw [hs1] at h0; exact h0
    refine Wops_as (w := .bool false) rfl rfl (by rw [Value.bool.injEq, bne_eq_false_iff_eq]; exact h0) (K_fin [(0, _), (24, _)] rfl (?_))
    refine K_scond rfl (fun hc => by cases hc) (fun _ => ?_)
    have hl0 : 0 < s.1.length := by omega
    have hx0 := hx s.1[0] (List.getElem_mem _)
    refine K_sskip (K_reg (Wops_run rfl rfl (Wops_run rfl rfl (Wops_run rfl rfl (Wops_ld (v := .slice a1 s.1.length c1) rfl g1 rfl (Wops_idx (u := .int .u8 ((s.1[0] : Nat) : Int)) rfl rfl sl1 ⟨by omega, by omega⟩ (by simp [bys, hl0]) fun _ => ?_))))))
    refine Wops_run rfl rfl (K_fin [(0, _), (3, _)] rfl (?_))
    have hsub2 := sl1.sub (i := 1) (j := s.1.length) hle (Nat.le_refl _)
    rw [bys_sub] at hsub2
    have htk : (s.1.drop 1).take (s.1.length - 1) = s.1.drop 1 := List.take_of_length_le (by simp)
    have hdl : (s.1.drop 1).length = s.1.length - 1 := by simp
    rw [htk] at hsub2
    refine K_reg (Wops_run rfl rfl (Wops_run rfl rfl (Wops_run rfl rfl (Wops_run rfl rfl (Wops_ld (v := .slice a1 s.1.length c1) rfl g1 rfl (Wops_slV (lov := some (.int .i64 ((1 : Nat) : Int))) (hiv := none) rfl rfl rfl sl1.ok (bounds_lo hle) (Wops_run rfl rfl (Wops_run rfl rfl (Wops_st (l := [.slice (shift a1 (1 * 1)) (s.1.length - 1) c1]) rfl rfl rfl rfl g1 (by simp) rfl fun h3 n3 x3 g3 => K_fin [(3, _)] rfl (?_))))))))))
    refine K_reg (Wops_run rfl rfl (Wops_run rfl rfl (K_fin [(2, _)] rfl (?_))))
    refine K_ret (Told.mk _ rfl ⟨⟨fun x hxm => hx x (List.mem_of_mem_drop hxm), shift a1 (1 * 1), c1, ?_, ?_, ?_, ?_⟩, x1.trans x3, ?_⟩)
    · rw [hdl, ← hs0]; exact g3
    · rw [hdl]; exact hsub2.ext x3 fun i r z => by have := hd1.1; have := hd1.2 i (shift_blk.1 r); omega
    · rw [hdl]; omega
    · exact ⟨hd1.1, fun i r => hd1.2 i (shift_blk.1 r)⟩
    · have : s.1.take 1 = [s.1[0]] := by
        have h1 := List.take_add_one (l := s.1) (i := 0)
        rw [List.getElem?_eq_getElem hl0] at h1
        simpa using h1
      rw [this]
      show Value.int .u8 _ = Value.int .u8 (((0 * 256 + s.1[0]) % 18446744073709551616 : Nat) : Int)
      congr 2; omega
  · rw [if_pos h0] at hbs
    rw [hbs]
    refine Wops_as (w := .bool true) rfl rfl (by rw [Value.bool.injEq, bne_iff_ne]; exact h0) (K_fin [(0, _), (24, _)] rfl (?_))
    refine K_scond rfl (fun _ => ?_) (fun hc => by cases hc)
    refine K_ss (K_reg (Wops_run rfl rfl (K_fin [(2, _)] rfl (?_))))
    exact K_sret (Told.mk _ rfl ⟨q1, x1, rfl⟩)

/-- Eight -/
theorem C48 {h : Heap} {p B : Nat} {s : Rd} {rest : List Value} (q : Cu h p B s rest) :
    Fn Try.prog 48 [ptr p] h fun v h' => Cu h' p B (fixedS 8 s).2 rest ∧ Ext (· = p) h h' ∧ v = .int .u64 ((fixedS 8 s).1 : Int) := by
  obtain ⟨hx, a, c, g, sl, hb, hd⟩ := id q
  refine fnK F48.fok rfl ?_
  refine K_reg (Wops_run rfl rfl (K_fin [(0, _)] rfl (?_)))
  refine K_join (fun e h' => ∃ l : Env, e = [(0, ptr p)] ++ l ∧ Cu h' p B (failS (decide (s.1.length < 8)) 3 s) rest ∧ Ext (· = p) h h') ?_ ?_
  · refine K_reg (Wops_run rfl rfl (Wops_run rfl rfl (Wops_run rfl rfl (Wops_ld (v := .int .i64 s.2) rfl g rfl ?_))))
    by_cases h0 : s.2 = 0
    case neg =>
      refine Wops_as (w := .bool false) rfl rfl (by simp [h0]) ?_
      (repeat (first | refine Wops_skip rfl ?_ | refine Wops_run rfl rfl ?_))
      refine K_fin [(0, _), (17, _)] rfl (K_cond rfl (fun hc => by cases hc) (fun _ => K_skip ⟨[_], rfl, ?_, Ext.refl _ _⟩))
      rw [stick_fail h0]; exact q
    refine Wops_as (w := .bool true) rfl rfl (by simp [h0]) (Wops_run rfl rfl (Wops_go rfl (Wops_run rfl rfl (Wops_go rfl (Wops_run rfl rfl (Wops_go rfl (Wops_run rfl rfl (Wops_go rfl (Wops_ld (v := .slice a s.1.length c) rfl g rfl (Wops_go rfl (Wops_run rfl rfl (Wops_go rfl ?_))))))))))))
    by_cases hl : s.1.length < 8
    · refine Wops_as (w := .bool true) rfl rfl (by rw [decide_eq_true (by omega)]) (Wops_run rfl rfl (K_fin [(0, _), (17, _)] rfl (?_)))
      refine K_cond rfl (fun _ => ?_) (fun hc => by cases hc)
      refine K_last (Wops_run rfl rfl (Wops_run rfl rfl (Wops_run rfl rfl (Wops_st (l := [.int .i64 3]) rfl rfl rfl rfl g (by simp) rfl fun h1 n1 x1 g1 => K_finL [(0, _)] rfl (?_)))))
      refine ⟨[], rfl, ?_, x1⟩
      have hf : failS (decide (s.1.length < 8)) 3 s = (s.1, 3) := by simp [failS, h0, hl]
      rw [hf]
      exact ⟨hx, a, c, g1, sl.ext x1 fun i r z => by have := hd.1; have := hd.2 i r; omega, hb, hd⟩
    · refine Wops_as (w := .bool false) rfl rfl (by rw [decide_eq_false (by omega)]) (Wops_run rfl rfl (K_fin [(0, _), (17, _)] rfl (?_)))
      refine K_cond rfl (fun hc => by cases hc) (fun _ => K_skip ⟨[_], rfl, ?_, Ext.refl _ _⟩)
      have hf : failS (decide (s.1.length < 8)) 3 s = s := by
        rw [decide_eq_false (by omega)]; exact fail_no
      rw [hf]; exact q
  rintro _ h1 ⟨l, rfl, q1, x1⟩
  have hbs : bytesS 8 s = if (failS (decide (s.1.length < 8)) 3 s).2 ≠ 0 then ([], failS (decide (s.1.length < 8)) 3 s) else (s.1.take 8, s.1.drop 8, 0) := rfl
  obtain ⟨hx1, a1, c1, g1, sl1, hb1, hd1⟩ := id q1
  refine K_ss (K_reg (Wops_run rfl rfl (Wops_run rfl rfl (Wops_run rfl rfl (Wops_ld (v := .int .i64 (failS (decide (s.1.length < 8)) 3 s).2) rfl g1 rfl ?_)))))
  unfold fixedS
  by_cases h0 : (failS (decide (s.1.length < 8)) 3 s).2 = 0
  · obtain ⟨hd0, hs1⟩ := failS_ok (by decide) h0
    have hle : 8 ≤ s.1.length := by have := of_decide_eq_false hd0; omega
    rw [if_neg (fun w => w h0)] at hbs
    rw [hbs]
    rw [hs1] at g1 sl1 hb1 q1
    have hs0 : s.2 = 0 := by rw [hs1] at h0; exact h0
    refine Wops_as (w := .bool false) rfl rfl (by simp [h0]) (K_fin [(0, _), (25, _)] rfl (?_))
    refine K_scond rfl (fun hc => by cases hc) (fun _ => ?_)
    refine K_sskip (K_reg (Wops_run rfl rfl (K_fin [(0, _), (3, _)] rfl (?_))))
    refine K_ss (K_reg (Wops_run rfl rfl (K_fin [(0, _), (3, _), (4, _)] rfl (?_))))
    refine K_sblock ?_
    refine K_loop (fun k e h' => ∃ i : Nat, e = [(0, ptr p), (3, .int .u64 ((dec (s.1.take i) : Nat) : Int)), (4, .int .i64 (i : Int))] ∧ h1 = h' ∧ i ≤ 8 ∧ k = 8 - i) ?_ (k := 8) ⟨0, rfl, rfl, by omega, rfl⟩
    rintro k e h' ⟨i, rfl, rfl, hi, rfl⟩
    refine K_ss (K_reg (Wops_run rfl rfl ?_))
    by_cases hi8 : i < 8
    · refine Wops_as (w := .bool true) rfl rfl (by rw [decide_eq_true (by omega)]) (K_fin [(0, _), (3, _), (4, _), (27, _)] rfl (?_))
      refine K_scond rfl (fun _ => ?_) (fun hc => by cases hc)
      have hil : i < s.1.length := by omega
      have hxi : s.1[i] < 256 := hx _ (List.getElem_mem _)
      have htk : s.1.take (i + 1) = s.1.take i ++ [s.1[i]] := by rw [List.take_add_one, List.getElem?_eq_getElem hil, Option.toList_some]
      have hdl := dec_lt (s.1.take i)
      generalize hxd : s.1[i] = x at hxi htk
      refine K_sskip (K_sblock ?_)
      refine K_last (Wops_run rfl rfl (Wops_as (w := .int .u64 ((dec (s.1.take i) * 256 % 18446744073709551616 : Nat) : Int)) rfl rfl (Option.some.inj (shl8 (kk := .u64))) (Wops_run rfl rfl (Wops_run rfl rfl (Wops_run rfl rfl (Wops_ld (v := .slice a1 s.1.length c1) rfl g1 rfl (Wops_run rfl rfl (Wops_idx (u := .int .u8 (x : Int)) rfl rfl sl1 ⟨by omega, by omega⟩ (by simp [bys, hil, hxd]) fun _ => ?_))))))))
      refine Wops_as (w := .int .u64 (x : Int)) rfl rfl (by rw [wr64m, Nat.mod_eq_of_lt (by omega)]) (Wops_as (w := .int .u64 ((dec (s.1.take (i + 1)) : Nat) : Int)) rfl rfl ?_ (Wops_run rfl rfl (K_finL [(0, _), (3, _), (4, _)] rfl (?_))))
      · refine (Option.some.inj (orN (Nat.mod_lt _ (by decide)) (by omega))).trans ?_
        congr 2
        have e1 : dec (s.1.take i) * 256 % 18446744073709551616 = (dec (s.1.take i) % 72057594037927936) * 2 ^ 8 := by omega
        rw [e1, Nat.or_comm, orAdd (by show x < 256; exact hxi), htk, dec_snoc]
        omega
      refine K_last (Wops_run rfl rfl (Wops_run rfl rfl (Wops_run rfl rfl (K_finL [(0, _), (3, _), (4, _)] rfl (?_)))))
      exact ⟨8 - (i + 1), by omega, i + 1, by rw [w64s (by omega)], rfl, by omega, rfl⟩
    · obtain rfl : i = 8 := by omega
      refine Wops_as (w := .bool false) rfl rfl rfl (K_fin [(0, _), (3, _), (4, _), (27, _)] rfl (?_))
      refine K_scond rfl (fun hc => by cases hc) (fun _ => ?_)
      refine K_sexit (bx_same ?_)
      have hsub2 := sl1.sub (i := 8) (j := s.1.length) hle (Nat.le_refl _)
      rw [bys_sub] at hsub2
      have htk : (s.1.drop 8).take (s.1.length - 8) = s.1.drop 8 := List.take_of_length_le (by simp)
      have hdl : (s.1.drop 8).length = s.1.length - 8 := by simp
      rw [htk] at hsub2
      refine K_reg (Wops_run rfl rfl (Wops_run rfl rfl (Wops_run rfl rfl (Wops_run rfl rfl (Wops_ld (v := .slice a1 s.1.length c1) rfl g1 rfl (Wops_slV (lov := some (.int .i64 ((8 : Nat) : Int))) (hiv := none) rfl rfl rfl sl1.ok (bounds_lo hle) (Wops_run rfl rfl (Wops_run rfl rfl (Wops_st (l := [.slice (shift a1 (8 * 1)) (s.1.length - 8) c1]) rfl rfl rfl rfl g1 (by simp) rfl fun h3 n3 x3 g3 => K_fin [(3, _)] rfl (?_))))))))))
      refine K_reg (Wops_run rfl rfl (Wops_run rfl rfl (K_fin [(2, _)] rfl (?_))))
      refine K_ret (Told.mk _ rfl ⟨⟨fun x hxm => hx x (List.mem_of_mem_drop hxm), shift a1 (8 * 1), c1, ?_, ?_, ?_, ?_⟩, x1.trans x3, rfl⟩)
      · rw [hdl, ← hs0]; exact g3
      · rw [hdl]; exact hsub2.ext x3 fun i r z => by have := hd1.1; have := hd1.2 i (shift_blk.1 r); omega
      · rw [hdl]; omega
      · exact ⟨hd1.1, fun i r => hd1.2 i (shift_blk.1 r)⟩
  · rw [if_pos h0] at hbs
    rw [hbs]
    refine Wops_as (w := .bool true) rfl rfl (by simp [h0]) (K_fin [(0, _), (25, _)] rfl (?_))
    refine K_scond rfl (fun _ => ?_) (fun hc => by cases hc)
    refine K_ss (K_reg (Wops_run rfl rfl (K_fin [(2, _)] rfl (?_))))
    exact K_sret (Told.mk _ rfl ⟨q1, x1, rfl⟩)

/-- Take -/
theorem C49 {h : Heap} {p B n : Nat} {s : Rd} {rest : List Value} (q : Cu h p B s rest) (hn : n < 4294967296) :
    Fn Try.prog 49 [ptr p, .int .u32 (n : Int)] h fun v h' => Cu h' p B (bytesS n s).2 rest ∧ Ext (· = p) h h' ∧ ∃ a' c', v = .slice a' (bytesS n s).1.length c' ∧ OwS h' 1 a' (bytesS n s).1.length c' (bys (bytesS n s).1) ∧ ∀ i, Blk a' i → h.next ≤ i := by
  have hp := q.lt
  obtain ⟨hx, a, c, g, sl, hb, hd⟩ := id q
  refine fnK F49.fok rfl ?_
  refine K_reg (Wops_run rfl rfl (K_fin [(0, _), (1, _)] rfl (?_)))
  refine K_join (fun e h' => ∃ l : Env, e = [(0, ptr p), (1, .int .u32 (n : Int))] ++ l ∧ Cu h' p B (failS (decide (s.1.length < n)) 3 s) rest ∧ Ext (· = p) h h') ?_ ?_
  · refine K_reg (Wops_run rfl rfl (Wops_run rfl rfl (Wops_run rfl rfl (Wops_ld (v := .int .i64 s.2) rfl g rfl ?_))))
    by_cases h0 : s.2 = 0
    case neg =>
      refine Wops_as (w := .bool false) rfl rfl (by simp [h0]) ?_
      (repeat (first | refine Wops_skip rfl ?_ | refine Wops_run rfl rfl ?_))
      refine K_fin [(0, _), (1, _), (21, _)] rfl (K_cond rfl (fun hc => by cases hc) (fun _ => K_skip ⟨[_], rfl, ?_, Ext.refl _ _⟩))
      rw [stick_fail h0]; exact q
    refine Wops_as (w := .bool true) rfl rfl (by simp [h0]) (Wops_run rfl rfl (Wops_go rfl (Wops_run rfl rfl (Wops_go rfl (Wops_as (w := .int .u64 (n : Int)) rfl rfl (by rw [wr64m, Nat.mod_eq_of_lt (by omega)]) (Wops_go rfl (Wops_run rfl rfl (Wops_go rfl (Wops_run rfl rfl (Wops_go rfl (Wops_run rfl rfl (Wops_go rfl (Wops_ld (v := .slice a s.1.length c) rfl g rfl (Wops_go rfl (Wops_run rfl rfl (Wops_go rfl (Wops_as (w := .int .u64 (s.1.length : Int)) rfl rfl (by rw [wr64m, Nat.mod_eq_of_lt (by omega)]) (Wops_go rfl ?_))))))))))))))))))
    by_cases hl : s.1.length < n
    · refine Wops_as (w := .bool true) rfl rfl (by rw [decide_eq_true (by omega)]) (Wops_run rfl rfl (K_fin [(0, _), (1, _), (21, _)] rfl (?_)))
      refine K_cond rfl (fun _ => ?_) (fun hc => by cases hc)
      refine K_last (Wops_run rfl rfl (Wops_run rfl rfl (Wops_run rfl rfl (Wops_st (l := [.int .i64 3]) rfl rfl rfl rfl g (by simp) rfl fun h1 n1 x1 g1 => K_finL [(0, _), (1, _)] rfl (?_)))))
      refine ⟨[], rfl, ?_, x1⟩
      have hf : failS (decide (s.1.length < n)) 3 s = (s.1, 3) := by simp [failS, h0, hl]
      rw [hf]
      exact ⟨hx, a, c, g1, sl.ext x1 fun i r z => by have := hd.1; have := hd.2 i r; omega, hb, hd⟩
    · refine Wops_as (w := .bool false) rfl rfl (by rw [decide_eq_false (by omega)]) (Wops_run rfl rfl (K_fin [(0, _), (1, _), (21, _)] rfl (?_)))
      refine K_cond rfl (fun hc => by cases hc) (fun _ => K_skip ⟨[_], rfl, ?_, Ext.refl _ _⟩)
      have hf : failS (decide (s.1.length < n)) 3 s = s := by
        rw [decide_eq_false (by omega)]; exact fail_no
      rw [hf]; exact q
  rintro _ h1 ⟨l, rfl, q1, x1⟩
  have hbs : bytesS n s = if (failS (decide (s.1.length < n)) 3 s).2 ≠ 0 then ([], failS (decide (s.1.length < n)) 3 s) else (s.1.take n, s.1.drop n, 0) := rfl
  obtain ⟨hx1, a1, c1, g1, sl1, hb1, hd1⟩ := id q1
  refine K_ss (K_reg (Wops_run rfl rfl (Wops_run rfl rfl (Wops_run rfl rfl (Wops_ld (v := .int .i64 (failS (decide (s.1.length < n)) 3 s).2) rfl g1 rfl ?_)))))
  by_cases h0 : (failS (decide (s.1.length < n)) 3 s).2 = 0
  · obtain ⟨hd0, hs1⟩ := failS_ok (by decide) h0
    have hle : n ≤ s.1.length := by have := of_decide_eq_false hd0; omega
    rw [if_neg (fun w => w h0)] at hbs
    rw [hbs]
    rw [hs1] at g1 sl1 hb1 q1
    have hs0 : s.2 = 0 := by rw [hs1] at h0; exact h0
    refine Wops_as (w := .bool false) rfl rfl (by simp [h0]) (K_fin [(0, _), (1, _), (29, _)] rfl (?_))
    refine K_scond rfl (fun hc => by cases hc) (fun _ => ?_)
    have hsub := sl1.sub (i := 0) (j := n) (Nat.zero_le _) hle
    rw [bys_sub, List.drop_zero, Nat.sub_zero] at hsub
    have hlen : (s.1.take n).length = n := by rw [List.length_take]; omega
    have z1 := x1.next
    refine K_sskip (K_reg (Wops_bslice (l := []) rfl rfl fun h2 n2 x2 g2 => ?_))
    have g12 := g1.ext x2
    have sl2 := sl1.ext x2
    refine Wops_run rfl rfl (Wops_run rfl rfl (Wops_run rfl rfl (Wops_ld (v := .slice a1 s.1.length c1) rfl g12 rfl (Wops_run rfl rfl (Wops_slV (lov := none) (hiv := some (.int .u32 (n : Int))) rfl rfl rfl sl2.ok (bounds_hi hle) ?_)))))
    refine Wops_app (m := n) rfl rfl (OwS.new (n := 0) g2 rfl) rfl (hsub.ext x2).first ⟨by omega, by omega⟩ (by simp [bys]; omega) (bys_cell _) (by decide) fun h3 a3 c3 x3 o3 b3 => ?_
    refine Wops_run rfl rfl (K_fin [(0, _), (1, _), (5, _)] rfl (?_))
    rw [List.nil_append, Nat.zero_add] at o3
    rw [Nat.zero_add]
    have z2 := x2.next
    have g13 := g12.ext x3 (fun r => by rw [Blk.at] at r; omega)
    have sl3 := sl2.ext x3 (fun i r z => by rw [Blk.at] at z; have := hd1.1; have := hd1.2 i r; omega)
    have hsub2 := sl3.sub (i := n) (j := s.1.length) hle (Nat.le_refl _)
    rw [bys_sub] at hsub2
    have htk : (s.1.drop n).take (s.1.length - n) = s.1.drop n := List.take_of_length_le (by simp)
    have hdl : (s.1.drop n).length = s.1.length - n := by simp
    rw [htk] at hsub2
    have b3' : ∀ i, Blk a3 i → h1.next ≤ i := fun i r => (b3 i r).elim (fun r => by rw [Blk.at] at r; omega) fun r => by omega
    refine K_reg (Wops_run rfl rfl (Wops_run rfl rfl (Wops_run rfl rfl (Wops_run rfl rfl (Wops_ld (v := .slice a1 s.1.length c1) rfl g13 rfl (Wops_run rfl rfl (Wops_slV (lov := some (.int .u32 (n : Int))) (hiv := none) rfl rfl rfl sl3.ok (bounds_lo hle) (Wops_run rfl rfl (Wops_run rfl rfl (Wops_st (l := [.slice (shift a1 (n * 1)) (s.1.length - n) c1]) rfl rfl rfl rfl g13 (by simp) rfl fun h4 n4 x4 g4 => K_fin [(5, _)] rfl (?_)))))))))))
    refine K_reg (Wops_run rfl rfl (Wops_run rfl rfl (K_fin [(4, _)] rfl (?_))))
    refine K_ret (Told.mk _ rfl ⟨⟨fun x hxm => hx x (List.mem_of_mem_drop hxm), shift a1 (n * 1), c1, ?_, ?_, ?_, ?_⟩, ((x1.then0 x2).then x3 fun i r => .inr (by rw [Blk.at] at r; omega)).trans x4, a3, c3, ?_, ?_, fun i r => by have := b3' i r; omega⟩)
    · rw [hdl, ← hs0]; exact g4
    · rw [hdl]; exact hsub2.ext x4 fun i r z => by have := hd1.1; have := hd1.2 i (shift_blk.1 r); omega
    · rw [hdl]; omega
    · exact ⟨hd1.1, fun i r => hd1.2 i (shift_blk.1 r)⟩
    · rw [hlen]; rfl
    · rw [hlen]
      exact o3.ext x4 fun i r z => by have := b3' i r; omega
  · rw [if_pos h0] at hbs
    rw [hbs]
    refine Wops_as (w := .bool true) rfl rfl (by simp [h0]) (K_fin [(0, _), (1, _), (29, _)] rfl (?_))
    refine K_scond rfl (fun _ => ?_) (fun hc => by cases hc)
    refine K_ss (K_reg (Wops_run rfl rfl (K_fin [(4, _)] rfl (?_))))
    exact K_sret (Told.mk _ rfl ⟨q1, x1, none, 0, rfl, OwS.none, fun i r => absurd r Blk.none⟩)

/-- Over -/
theorem C53 {h : Heap} {p B : Nat} {s : Rd} {rest : List Value} (q : Cu h p B s rest) :
    Fn Try.prog 53 [ptr p] h fun v h' => Cu h' p B (endS s) rest ∧ Ext (· = p) h h' := by
  obtain ⟨hx, a, c, g, sl, hb, hd⟩ := id q
  refine fnK F53.fok rfl ?_
  refine K_reg (Wops_run rfl rfl (Wops_run rfl rfl (Wops_run rfl rfl (Wops_ld (v := .slice a s.1.length c) rfl g rfl (Wops_run rfl rfl ?_)))))
  by_cases hl : 0 < s.1.length
  · refine Wops_as (w := .bool true) rfl rfl (by rw [decide_eq_true (by omega)]) (K_fin [(0, _), (7, _)] rfl (?_))
    refine K_cond rfl (fun _ => ?_) (fun hc => by cases hc)
    refine K_last (Wops_run rfl rfl (Wops_call rfl (C47 q) ?_))
    rintro _ h1 ⟨q1, x1⟩
    refine K_finL [] rfl (Told.mk [] rfl ⟨?_, x1⟩)
    unfold endS; rw [decide_eq_true hl]; exact q1
  · refine Wops_as (w := .bool false) rfl rfl (by rw [decide_eq_false (by omega)]) (K_fin [(0, _), (7, _)] rfl (?_))
    refine K_cond rfl (fun hc => by cases hc) (fun _ => K_skip (Told.mk [] rfl ⟨?_, Ext.refl _ _⟩))
    unfold endS; rw [decide_eq_false hl, fail_no]; exact q

end
section
/- The document's numbers and names. -/
set_option linter.unusedVariables false
set_option linter.unusedSimpArgs false

set_option maxHeartbeats 2000000 in
/-- number, without a sign -/
theorem C94 {h : Heap} {a : Option Addr} {n c size most : Nat} {xs : List Nat} (s : SlA h 1 a n c (bys xs)) (hb : n ≤ 100000) (hx : ∀ x ∈ xs, x < 256) (hs0 : 0 < size) (hs : size ≤ 64) (hmq : ((size : Int) + 6).tdiv 7 = (most : Int)) (hm : size ≤ 7 * most ∧ 7 * most < size + 7) :
    Fn Try.prog 94 [.slice a n c, .int .i64 (size : Int), .bool false] h fun v h' => v = rdV .u64 (rdL size 0 0 xs) ∧ h = h' := by
  have hn : xs.length = n := by simpa using s.len
  refine fnK F94.fok rfl ?_
  refine K_reg (Wops_run rfl rfl (Wops_run rfl rfl (Wops_run rfl rfl (K_fin [(0, _), (1, _), (2, _)] rfl (?_)))))
  refine K_reg (Wops_run rfl rfl (K_fin [(0, _), (1, _), (2, _), (9, _)] rfl (?_)))
  refine K_reg (Wops_run rfl rfl (Wops_as (w := .int .i64 ((size : Int) + 6)) rfl rfl (by rw [w64 (by omega)]) (Wops_as (w := .int .i64 (most : Int)) rfl rfl (by rw [hmq, w64 (by omega)]) (Wops_run rfl rfl (K_fin [(0, _), (1, _), (2, _), (9, _), (10, _)] rfl (?_))))))
  refine K_ss (K_reg (Wops_run rfl rfl (K_fin [(0, _), (1, _), (2, _), (9, _), (10, _), (11, _)] rfl (?_))))
  refine K_sblock ?_
  refine K_loop (fun k e h' => ∃ i v : Nat, e = [(0, .slice a n c), (1, .int .i64 (size : Int)), (2, .bool false), (9, .int .u64 (v : Int)), (10, .int .i64 (most : Int)), (11, .int .i64 (i : Int))] ∧ h = h' ∧ i ≤ n ∧ k = n - i ∧ 7 * i < size ∧ v < 2 ^ (7 * i) ∧ rdL size i v (xs.drop i) = rdL size 0 0 xs) ?_ (k := n) ⟨0, 0, rfl, rfl, by omega, rfl, by omega, by decide, rfl⟩
  rintro k e h' ⟨i, v, rfl, rfl, hi, rfl, h7, hv, hr⟩
  refine K_ss (K_reg (Wops_run rfl rfl (Wops_run rfl rfl (Wops_as (w := .bool true) rfl rfl (by rw [decide_eq_true (by omega)]) (K_fin [(0, _), (1, _), (2, _), (9, _), (10, _), (11, _), (22, _)] rfl (?_))))))
  refine K_scond rfl (fun _ => ?_) (fun hc => by cases hc)
  refine K_sskip (K_sblock ?_)
  refine K_ss (K_reg (Wops_run rfl rfl (Wops_run rfl rfl (Wops_run rfl rfl ?_))))
  by_cases hin : i = n
  · refine Wops_as (w := .bool true) rfl rfl (by rw [decide_eq_true (by omega)]) (K_fin [(0, _), (1, _), (2, _), (9, _), (10, _), (11, _), (28, _)] rfl (?_))
    refine K_scond rfl (fun _ => ?_) (fun hc => by cases hc)
    refine K_ss (K_reg (Wops_run rfl rfl (Wops_run rfl rfl (Wops_run rfl rfl (K_fin [(6, _), (7, _), (8, _)] rfl (?_))))))
    refine K_sret (Told.mk _ rfl ⟨?_, rfl⟩)
    rw [← hr, List.drop_eq_nil_of_le (by omega)]; rfl
  have hil : i < xs.length := by omega
  have hxi : xs[i] < 256 := hx _ (List.getElem_mem _)
  rw [List.drop_eq_getElem_cons hil] at hr
  generalize hxd : xs[i] = x at hr hxi
  refine Wops_as (w := .bool false) rfl rfl (by rw [decide_eq_false (by omega)]) (K_fin [(0, _), (1, _), (2, _), (9, _), (10, _), (11, _), (28, _)] rfl (?_))
  refine K_scond rfl (fun hc => by cases hc) (fun _ => ?_)
  refine K_sskip (K_reg (Wops_run rfl rfl (Wops_run rfl rfl (Wops_idx (u := .int .u8 (x : Int)) rfl rfl s ⟨by omega, by omega⟩ (by simp [bys, hil, hxd]) fun _ => ?_))))
  refine Wops_run rfl rfl (K_fin [(0, _), (1, _), (2, _), (9, _), (10, _), (11, _), (12, _)] rfl (?_))
  refine K_reg (Wops_run rfl rfl (Wops_as (w := .int .u8 ((x % 128 : Nat) : Int)) rfl rfl (Option.some.inj (and127b hxi)) (Wops_as (w := .int .u64 ((x % 128 : Nat) : Int)) rfl rfl (by rw [wr64m, Nat.mod_eq_of_lt (by omega)]) (Wops_run rfl rfl (K_fin [(0, _), (1, _), (2, _), (9, _), (10, _), (11, _), (12, _), (13, _)] rfl (?_))))))
  refine K_ss (K_reg (Wops_run rfl rfl (Wops_run rfl rfl (Wops_as (w := .int .i64 ((most : Int) - 1)) rfl rfl (by rw [w64 (by omega)]) (Wops_as (w := .bool (decide (size ≤ 7 * i + 7))) rfl rfl (by rw [Value.bool.injEq, Bool.eq_iff_iff, beq_iff_eq, decide_eq_true_iff]; omega) (K_fin [(0, _), (1, _), (2, _), (9, _), (10, _), (11, _), (12, _), (13, _), (39, _)] rfl (?_)))))))
  refine K_join (fun e h' => ∃ l : Env, e = [(0, .slice a n c), (1, .int .i64 (size : Int)), (2, .bool false), (9, .int .u64 (v : Int)), (10, .int .i64 (most : Int)), (11, .int .i64 (i : Int)), (12, .int .u8 (x : Int)), (13, .int .u64 ((x % 128 : Nat) : Int))] ++ l ∧ h = h' ∧ ¬ (size ≤ 7 * i + 7 ∧ ¬ (x < 128 ∧ x / 2 ^ (size - 7 * i) = 0))) ?_ ?_
  · refine K_cond rfl (fun hc => ?_) (fun hc => K_skip ⟨[_], rfl, rfl, fun w => (of_decide_eq_false hc) w.1⟩)
    have hl : size ≤ 7 * i + 7 := of_decide_eq_true hc
    refine K_reg (Wops_run rfl rfl (Wops_run rfl rfl (Wops_as (w := .int .i64 ((7 * i : Nat) : Int)) rfl rfl (by rw [w64 (by omega)]; congr 1) (Wops_as (w := .int .i64 ((size - 7 * i : Nat) : Int)) rfl rfl (by rw [w64 (by omega)]; congr 1; omega) (Wops_run rfl rfl (K_fin [(0, _), (1, _), (2, _), (9, _), (10, _), (11, _), (12, _), (13, _), (14, _)] rfl (?_)))))))
    refine K_reg (Wops_run rfl rfl (Wops_run rfl rfl (Wops_as (w := .int .u64 ((x % 128 / 2 ^ (size - 7 * i) : Nat) : Int)) rfl rfl (Option.some.inj (shrN (kk := .i64) (k := .u64) (by show _ ≤ 64; omega))) (Wops_run rfl rfl (K_fin [(0, _), (1, _), (2, _), (9, _), (10, _), (11, _), (12, _), (13, _), (14, _), (15, _)] rfl (?_))))))
    refine K_ss (K_reg (Wops_run rfl rfl (K_fin [(0, _), (1, _), (2, _), (9, _), (10, _), (11, _), (12, _), (13, _), (14, _), (15, _), (47, _)] rfl (?_))))
    refine K_scond rfl (fun hc => by cases hc) (fun _ => ?_)
    refine K_sskip (K_reg (Wops_run rfl rfl (Wops_run rfl rfl (Wops_run rfl rfl (K_fin [(0, _), (1, _), (2, _), (9, _), (10, _), (11, _), (12, _), (13, _), (14, _), (15, _), (16, _)] rfl (?_))))))
    refine K_ss (K_reg (Wops_run rfl rfl (K_fin [(0, _), (1, _), (2, _), (9, _), (10, _), (11, _), (12, _), (13, _), (14, _), (15, _), (16, _), (54, _)] rfl (?_))))
    refine K_scond rfl (fun hc => by cases hc) (fun _ => ?_)
    refine K_sskip (K_reg (Wops_run rfl rfl ?_))
    by_cases h1 : x < 128
    · refine Wops_as (w := .bool false) rfl rfl (by rw [decide_eq_false (by omega)]) (Wops_run rfl rfl (Wops_go rfl (Wops_run rfl rfl (Wops_go rfl ?_))))
      have hmod : x % 128 = x := Nat.mod_eq_of_lt h1
      rw [hmod]
      by_cases h2 : x / 2 ^ (size - 7 * i) = 0
      · refine Wops_as (w := .bool false) rfl rfl (by rw [h2]; rfl) (Wops_go rfl (Wops_run rfl rfl ?_))
        refine Wops_skip rfl (Wops_skip rfl (Wops_skip rfl (Wops_skip rfl (Wops_skip rfl (Wops_skip rfl (Wops_skip rfl (Wops_go rfl (Wops_run rfl rfl (Wops_run rfl rfl (K_fin [(0, _), (1, _), (2, _), (9, _), (10, _), (11, _), (12, _), (13, _), (72, _)] rfl (?_)))))))))))
        exact K_cond rfl (fun hc => by cases hc) (fun _ => K_skip ⟨[_], rfl, rfl, fun w => w.2 ⟨h1, h2⟩⟩)
      · refine Wops_as (w := .bool true) rfl rfl (by rw [Value.bool.injEq, bne_iff_ne]; omega) (Wops_go rfl (Wops_run rfl rfl ?_))
        refine Wops_go rfl (Wops_run rfl rfl (Wops_go rfl (Wops_run rfl rfl (Wops_go rfl (Wops_run rfl rfl (Wops_skip rfl (Wops_skip rfl (Wops_skip rfl (Wops_go rfl (Wops_run rfl rfl (Wops_go rfl (Wops_run rfl rfl (Wops_run rfl rfl (K_fin [(0, _), (1, _), (2, _), (9, _), (10, _), (11, _), (12, _), (13, _), (72, _)] rfl (?_)))))))))))))))
        refine K_cond rfl (fun _ => ?_) (fun hc => by cases hc)
        refine K_reg (Wops_run rfl rfl (Wops_run rfl rfl (Wops_run rfl rfl (K_fin [(6, _), (7, _), (8, _)] rfl (?_)))))
        refine K_ret (Told.mk _ rfl ⟨?_, rfl⟩)
        rw [← hr]; unfold rdL; rw [if_pos ⟨hl, fun w => h2 w.2⟩]; rfl
    · refine Wops_as (w := .bool true) rfl rfl (by rw [decide_eq_true (by omega)]) (Wops_run rfl rfl ?_)
      (repeat (first | refine Wops_skip rfl ?_ | refine Wops_run rfl rfl ?_))
      refine K_fin [(0, _), (1, _), (2, _), (9, _), (10, _), (11, _), (12, _), (13, _), (72, _)] rfl (?_)
      refine K_cond rfl (fun _ => ?_) (fun hc => by cases hc)
      refine K_reg (Wops_run rfl rfl (Wops_run rfl rfl (Wops_run rfl rfl (K_fin [(6, _), (7, _), (8, _)] rfl (?_)))))
      refine K_ret (Told.mk _ rfl ⟨?_, rfl⟩)
      rw [← hr]; unfold rdL; rw [if_pos ⟨hl, fun w => h1 w.1⟩]; rfl
  rintro _ _ ⟨l, rfl, rfl, hng⟩
  have hp7 := p7 h7 hs
  have hlt : v + x % 128 * 2 ^ (7 * i) < 2 ^ (7 * (i + 1)) := by
    rw [pow7]
    have h1 : x % 128 + 1 ≤ 128 := by omega
    have h2 := Nat.mul_le_mul_right (2 ^ (7 * i)) h1
    rw [Nat.add_mul, Nat.one_mul] at h2
    omega
  have hb64 : x % 128 * 2 ^ (7 * i) < 18446744073709551616 := by
    by_cases hl : size ≤ 7 * i + 7
    · have hok : x < 128 ∧ x / 2 ^ (size - 7 * i) = 0 := Decidable.byContradiction fun q => hng ⟨hl, q⟩
      have h1 : x < 2 ^ (size - 7 * i) := by
        have := hok.2
        rw [Nat.div_eq_zero_iff] at this
        rcases this with r | r
        · exact absurd r (by have := Nat.two_pow_pos (size - 7 * i); omega)
        · exact r
      have h2 : x * 2 ^ (7 * i) < 2 ^ (size - 7 * i) * 2 ^ (7 * i) := Nat.mul_lt_mul_of_pos_right h1 (Nat.two_pow_pos _)
      rw [← Nat.pow_add] at h2
      have h3 : (2 : Nat) ^ (size - 7 * i + 7 * i) ≤ 2 ^ 64 := Nat.pow_le_pow_right (by decide) (by omega)
      have h4 : x % 128 = x := Nat.mod_eq_of_lt hok.1
      rw [h4]
      exact Nat.lt_of_lt_of_le h2 h3
    · have h3 : (2 : Nat) ^ (7 * (i + 1)) ≤ 2 ^ 64 := Nat.pow_le_pow_right (by decide) (by omega)
      have h4 : (2 : Nat) ^ 64 = 18446744073709551616 := rfl
      omega
  refine K_reg (Wops_run rfl rfl (Wops_run rfl rfl (Wops_run rfl rfl (Wops_as (w := .int .i64 ((7 * i : Nat) : Int)) rfl rfl (by rw [w64 (by omega)]; congr 1) (Wops_as (w := .int .u64 ((x % 128 * 2 ^ (7 * i) : Nat) : Int)) rfl rfl (Option.some.inj (shlN (kk := .i64) (by omega) hb64)) (Wops_as (w := .int .u64 ((v + x % 128 * 2 ^ (7 * i) : Nat) : Int)) rfl rfl ?_ (Wops_run rfl rfl (K_fin [(0, _), (1, _), (2, _), (9, _), (10, _), (11, _), (12, _)] rfl (?_)))))))))
  · refine (Option.some.inj (orN (by omega) hb64)).trans ?_
    rw [orAdd hv]
  conv at hr => lhs; unfold rdL
  rw [if_neg hng] at hr
  refine K_reg (Wops_run rfl rfl ?_)
  by_cases h1 : x < 128
  · rw [if_pos h1] at hr
    refine Wops_as (w := .bool true) rfl rfl (by rw [decide_eq_true (by omega)]) (K_fin [(0, _), (1, _), (2, _), (9, _), (10, _), (11, _), (12, _), (80, _)] rfl (?_))
    refine K_cond rfl (fun _ => ?_) (fun hc => by cases hc)
    refine K_ss (K_reg (Wops_run rfl rfl (Wops_run rfl rfl (Wops_skip rfl (Wops_skip rfl (Wops_skip rfl (Wops_run rfl rfl (Wops_run rfl rfl (Wops_skip rfl (Wops_skip rfl (Wops_skip rfl (Wops_skip rfl (Wops_run rfl rfl (K_fin [(9, _), (11, _), (92, _)] rfl (?_)))))))))))))))
    refine K_scond rfl (fun hc => by cases hc) (fun _ => ?_)
    refine K_sskip (K_reg (Wops_run rfl rfl (Wops_run rfl rfl (Wops_as (w := .int .i64 ((i + 1 : Nat) : Int)) rfl rfl (by rw [w64s (by omega)]) (Wops_run rfl rfl (Wops_run rfl rfl (Wops_run rfl rfl (K_fin [(6, _), (7, _), (8, _)] rfl (?_)))))))))
    refine K_ret (Told.mk _ rfl ⟨?_, rfl⟩)
    rw [← hr, Nat.mod_eq_of_lt h1]; rfl
  · rw [if_neg h1] at hr
    refine Wops_as (w := .bool false) rfl rfl (by rw [decide_eq_false (by omega)]) (K_fin [(0, _), (1, _), (2, _), (9, _), (10, _), (11, _), (12, _), (80, _)] rfl (?_))
    refine K_cond rfl (fun hc => by cases hc) (fun _ => ?_)
    refine K_skip ?_
    have h8 : 7 * (i + 1) < size := by
      have : ¬ size ≤ 7 * i + 7 := fun q => hng ⟨q, fun r => h1 r.1⟩
      omega
    refine K_last (Wops_run rfl rfl (Wops_as (w := .int .i64 ((i + 1 : Nat) : Int)) rfl rfl (by rw [w64s (by omega)]) (Wops_run rfl rfl (K_finL [(0, _), (1, _), (2, _), (9, _), (10, _), (11, _)] rfl (?_)))))
    exact ⟨n - (i + 1), by omega, i + 1, _, rfl, rfl, by omega, rfl, h8, hlt, hr⟩

/-- A number of so many bits read. -/
def numS (size : Nat) (s : Rd) : Nat × Rd := if s.2 ≠ 0 then (0, s) else ((rdL size 0 0 s.1).1, s.1.drop (rdL size 0 0 s.1).2.1, (rdL size 0 0 s.1).2.2)
/-- num -/
theorem C85 {h : Heap} {p B size most : Nat} {s : Rd} {rest : List Value} (q : Cu h p B s rest) (hs0 : 0 < size) (hs : size ≤ 64) (hmq : ((size : Int) + 6).tdiv 7 = (most : Int)) (hm : size ≤ 7 * most ∧ 7 * most < size + 7) :
    Fn Try.prog 85 [ptr p, .int .i64 (size : Int), .bool false] h fun v h' => Cu h' p B (numS size s).2 rest ∧ Ext (· = p) h h' ∧ v = .int .u64 ((numS size s).1 : Int) := by
  obtain ⟨hx, a, c, g, sl, hb, hd⟩ := id q
  refine fnK F85.fok rfl ?_
  refine K_reg (Wops_run rfl rfl (K_fin [(0, _), (1, _), (2, _)] rfl (?_)))
  refine K_ss (K_reg (Wops_run rfl rfl (Wops_run rfl rfl (Wops_run rfl rfl (Wops_ld (v := .int .i64 s.2) rfl g rfl ?_)))))
  by_cases h0 : s.2 = 0
  · have hns : numS size s = ((rdL size 0 0 s.1).1, s.1.drop (rdL size 0 0 s.1).2.1, (rdL size 0 0 s.1).2.2) := by unfold numS; rw [if_neg (fun w => w h0)]
    rw [hns]
    have hle : (rdL size 0 0 s.1).2.1 ≤ s.1.length := by have := rdL_len (size := size) s.1 0 0; omega
    refine Wops_as (w := .bool false) rfl rfl (by simp [h0]) (K_fin [(0, _), (1, _), (2, _), (14, _)] rfl (?_))
    refine K_scond rfl (fun hc => by cases hc) (fun _ => ?_)
    refine K_sskip (K_reg (Wops_run rfl rfl (Wops_run rfl rfl (Wops_run rfl rfl (Wops_ld (v := .slice a s.1.length c) rfl g rfl (Wops_run rfl rfl (Wops_run rfl rfl (Wops_call rfl (C94 sl hb hx hs0 hs hmq hm) ?_))))))))
    rintro _ _ ⟨rfl, rfl⟩
    generalize rdL size 0 0 s.1 = r at hle ⊢
    obtain ⟨v, n, er⟩ := r
    have hle' : n ≤ s.1.length := hle
    refine Wops_run rfl rfl (Wops_run rfl rfl (Wops_run rfl rfl (Wops_run rfl rfl (Wops_run rfl rfl (Wops_run rfl rfl (Wops_run rfl rfl (K_fin [(0, _), (7, _), (8, _), (9, _)] rfl (?_))))))))
    have hsub2 := sl.sub (i := n) (j := s.1.length) hle' (Nat.le_refl _)
    have hsame := hsub2.same
    rw [bys_sub] at hsub2
    have htk : (s.1.drop n).take (s.1.length - n) = s.1.drop n := List.take_of_length_le (by simp)
    have hdl : (s.1.drop n).length = s.1.length - n := by simp
    rw [htk] at hsub2
    refine K_reg (Wops_run rfl rfl (Wops_run rfl rfl (Wops_run rfl rfl (Wops_run rfl rfl (Wops_run rfl rfl (Wops_run rfl rfl (Wops_ld (v := .slice a s.1.length c) rfl g rfl (Wops_run rfl rfl (Wops_slV (lov := some (.int .i64 (n : Int))) (hiv := none) rfl rfl rfl sl.ok (bounds_lo hle') (Wops_run rfl rfl (Wops_run rfl rfl (Wops_st (l := [.int .i64 er]) rfl rfl rfl rfl g (by simp) rfl fun h3 n3 x3 g3 => ?_))))))))))))
    have sl3 := sl.ext x3 fun i r z => by have := hd.1; have := hd.2 i r; omega
    refine Wops_chkV (lov := some (.int .i64 (n : Int))) (hiv := none) rfl rfl rfl rfl sl3.ok (bounds_lo hle') hsame ?_
    refine Wops_run rfl rfl (Wops_run rfl rfl (Wops_st (l := [.slice (shift a (n * 1)) (s.1.length - n) c]) rfl rfl rfl rfl g3 (by simp [putL]) rfl fun h4 n4 x4 g4 => K_fin [(7, _)] rfl (?_)))
    refine K_reg (Wops_run rfl rfl (Wops_run rfl rfl (K_fin [(6, _)] rfl (?_))))
    refine K_ret (Told.mk _ rfl ⟨⟨fun x hxm => hx x (List.mem_of_mem_drop hxm), shift a (n * 1), c, ?_, ?_, ?_, ?_⟩, x3.trans x4, rfl⟩)
    · show At h4 p (.cells (.slice _ (s.1.drop n).length c :: .int .i64 er :: rest) 0 false)
      rw [hdl]; exact g4
    · show SlA h4 1 _ (s.1.drop n).length c (bys (s.1.drop n))
      rw [hdl]; exact hsub2.ext (x3.trans x4) fun i r z => by have := hd.1; have := hd.2 i (shift_blk.1 r); omega
    · show (s.1.drop n).length ≤ _
      rw [hdl]; omega
    · exact ⟨hd.1, fun i r => hd.2 i (shift_blk.1 r)⟩
  · have hns : numS size s = (0, s) := by unfold numS; rw [if_pos h0]
    rw [hns]
    refine Wops_as (w := .bool true) rfl rfl (by simp [h0]) (K_fin [(0, _), (1, _), (2, _), (14, _)] rfl (?_))
    refine K_scond rfl (fun _ => ?_) (fun hc => by cases hc)
    refine K_ss (K_reg (Wops_run rfl rfl (K_fin [(6, _)] rfl (?_))))
    exact K_sret (Told.mk _ rfl ⟨q, Ext.refl _ _, rfl⟩)
/-- U64 -/
theorem C50 {h : Heap} {p B : Nat} {s : Rd} {rest : List Value} (q : Cu h p B s rest) :
    Fn Try.prog 50 [ptr p] h fun v h' => Cu h' p B (numberS s).2 rest ∧ Ext (· = p) h h' ∧ v = .int .u64 ((numberS s).1 : Int) := by
  refine fnK F50.fok rfl ?_
  refine K_reg (Wops_run rfl rfl (K_fin [(0, _)] rfl (?_)))
  refine K_reg (Wops_run rfl rfl (Wops_call rfl (C85 (size := 64) (most := 10) q (by decide) (by decide) (by decide) (by decide)) ?_))
  rintro _ h1 ⟨q1, x1, rfl⟩
  refine Wops_run rfl rfl (K_fin [(2, _)] rfl (?_))
  exact K_ret (Told.mk _ rfl ⟨q1, x1, rfl⟩)
theorem num32_lt (s : Rd) (hx : ∀ x ∈ s.1, x < 256) : (numS 32 s).1 < 4294967296 := by
  unfold numS
  split
  · exact (by decide : (0 : Nat) < 4294967296)
  · exact rdL_lt (size := 32) s.1 0 0 (by decide) (by decide) hx
/-- U32 -/
theorem C52 {h : Heap} {p B : Nat} {s : Rd} {rest : List Value} (q : Cu h p B s rest) :
    Fn Try.prog 52 [ptr p] h fun v h' => Cu h' p B (numS 32 s).2 rest ∧ Ext (· = p) h h' ∧ v = .int .u32 ((numS 32 s).1 : Int) := by
  have hlt := num32_lt s q.1
  refine fnK F52.fok rfl ?_
  refine K_reg (Wops_run rfl rfl (K_fin [(0, _)] rfl (?_)))
  refine K_reg (Wops_run rfl rfl (Wops_call rfl (C85 (size := 32) (most := 5) q (by decide) (by decide) (by decide) (by decide)) ?_))
  rintro _ h1 ⟨q1, x1, rfl⟩
  refine Wops_run rfl rfl (K_fin [(3, _)] rfl (?_))
  refine K_reg (Wops_run rfl rfl (Wops_as (w := .int .u32 ((numS 32 s).1 : Int)) rfl rfl (by rw [wr32m, Nat.mod_eq_of_lt hlt]) (Wops_run rfl rfl (K_fin [(2, _)] rfl (?_)))))
  exact K_ret (Told.mk _ rfl ⟨q1, x1, rfl⟩)
theorem count_num (m : Nat) (s : Rd) : countS m s = ((numS 32 s).1, failS (decide ((numS 32 s).1 > m)) 4 (numS 32 s).2) := by
  unfold countS numS
  by_cases h0 : s.2 ≠ 0
  · rw [if_pos h0, if_pos h0, stick_fail h0]
  · rw [if_neg h0, if_neg h0]
/-- name -/
theorem C51 {h : Heap} {p B : Nat} {s : Rd} {rest : List Value} (q : Cu h p B s rest) :
    Fn Try.prog 51 [ptr p] h fun v h' => Cu h' p B (nameS s).2 rest ∧ Ext (· = p) h h' ∧ v = .string (strOf (nameS s).1) := by
  have hlt := num32_lt s q.1
  unfold nameS
  rw [count_num]
  refine fnK F51.fok rfl ?_
  refine K_reg (Wops_run rfl rfl (K_fin [(0, _)] rfl (?_)))
  refine K_reg (Wops_run rfl rfl (Wops_call rfl (C52 q) ?_))
  rintro _ h1 ⟨q1, x1, rfl⟩
  refine Wops_run rfl rfl (K_fin [(0, _), (3, _)] rfl (?_))
  refine K_ss (K_reg (Wops_run rfl rfl (Wops_as (w := .bool (decide ((numS 32 s).1 > 32))) rfl rfl (by congr 1; exact decide_eq_decide.2 (by omega)) (K_fin [(0, _), (3, _), (7, _)] rfl (?_)))))
  refine K_join (fun e h' => ∃ l : Env, e = [(0, ptr p), (3, .int .u32 ((numS 32 s).1 : Int))] ++ l ∧ Cu h' p B (failS (decide ((numS 32 s).1 > 32)) 4 (numS 32 s).2) rest ∧ Ext (· = p) h h') ?_ ?_
  · refine K_cond rfl (fun hc => ?_) (fun hc => K_skip ⟨[_], rfl, by rw [hc, fail_no]; exact q1, x1⟩)
    refine K_last (Wops_run rfl rfl (Wops_call rfl (C47 q1) ?_))
    rintro _ h2 ⟨q2, x2⟩
    exact K_finL [(0, _), (3, _)] rfl ⟨[], rfl, by rw [hc]; exact q2, x1.trans x2⟩
  rintro _ h2 ⟨l, rfl, q2, x2⟩
  refine K_reg (Wops_run rfl rfl (Wops_run rfl rfl (Wops_call rfl (C49 q2 hlt) ?_)))
  rintro _ h3 ⟨q3, x3, a', c', rfl, o, b'⟩
  have s' := o.sl
  rw [bys_ints] at s'
  refine Wops_toStr rfl s' (Wops_run rfl rfl (K_fin [(2, _)] rfl (?_)))
  exact K_ret (Told.mk _ rfl ⟨q3, x2.trans x3, rfl⟩)

end
section
/- Contracts of frame's functions: Clone, Grow, Concat of bytes. -/
set_option linter.unusedVariables false
set_option linter.unusedSimpArgs false

/-- slices.Clone of bytes -/
theorem C72f {h : Heap} {a : Option Addr} {n c : Nat} {l : List Value} (s : SlA h 1 a n c l) (hc : l.all isCell = true) (hb : n ≤ 1073741824) :
    Fn Try.prog 72 [.slice a n c] h fun v h' => ∃ a' c', v = .slice a' n c' ∧ OwS h' 1 a' n c' l ∧ Ext0 h h' ∧ ∀ i, Blk a' i → h.next ≤ i ∧ i < h'.next := by
  refine fnK F72.fok rfl ?_
  refine K_reg (Wops_run rfl rfl (K_fin [(0, _)] rfl (?_)))
  cases a with
  | none =>
    obtain ⟨rfl, rfl⟩ := s.nil rfl
    have hx : l = [] := List.eq_nil_of_length_eq_zero (by simpa using s.len)
    subst hx
    refine K_ss (K_reg (Wops_run rfl rfl (Wops_run rfl rfl (K_fin [(0, _), (4, _)] rfl (?_)))))
    refine K_scond rfl (fun hc => ?_) (fun hc => by cases hc)
    refine K_ss (K_reg (Wops_run rfl rfl (K_fin [(2, _)] rfl (?_))))
    exact K_sret (Told.mk _ rfl ⟨none, 0, rfl, OwS.none, Ext.refl _ _, fun i q => absurd q Blk.none⟩)
  | some pa =>
    refine K_ss (K_reg (Wops_run rfl rfl (Wops_run rfl rfl (K_fin [(0, _), (4, _)] rfl (?_)))))
    refine K_scond rfl (fun hc => by cases hc) (fun _ => ?_)
    refine K_sskip (K_reg (Wops_bslice (l := []) rfl rfl fun h1 n1 x1 g1 => ?_))
    refine Wops_run rfl rfl (Wops_app rfl rfl (OwS.new (n := 0) g1 rfl) rfl (s.ext x1).first ⟨by omega, by omega⟩ s.len hc (by decide) fun h2 a2 c2 x2 o2 b2 => ?_)
    refine Wops_run rfl rfl (K_fin [(2, _)] rfl (?_))
    refine K_ret (Told.mk _ rfl ⟨a2, c2, by simp; rfl, by simpa using o2, x1.then x2 fun i q => .inr (by rw [Blk.at] at q; omega), fun i q => ⟨?_, o2.lt q⟩⟩)
    rcases b2 i q with q | q
    · rw [Blk.at] at q; omega
    · omega

/-- slices.Grow of nothing -/
theorem C98 {h : Heap} {m : Nat} (hb : m ≤ 1073741824) : Fn Try.prog 98 [.slice none 0 0, .int .i64 m] h fun v h' => ∃ a' c', v = .slice a' 0 c' ∧ OwS h' 1 a' 0 c' [] ∧ Ext0 h h' ∧ ∀ i, Blk a' i → h.next ≤ i := by
  refine fnK F98.fok rfl ?_
  refine K_reg (Wops_run rfl rfl (K_fin [(0, _), (1, _)] rfl (?_)))
  refine K_ss (K_reg (Wops_run rfl rfl (Wops_run rfl rfl (K_fin [(0, _), (1, _), (6, _)] rfl (?_)))))
  refine K_scond rfl (fun hc => ?_) (fun hc => ?_)
  · have := of_decide_eq_true hc; omega
  refine K_sskip (K_ss (K_reg (Wops_run rfl rfl (Wops_run rfl rfl (Wops_run rfl rfl (Wops_run rfl rfl (Wops_run rfl rfl (Wops_run rfl rfl (Wops_as (w := .int .i64 m) rfl rfl (by
    have h1 : IntKind.wrap .i64 (((0 : Nat) : Int) - ((0 : Nat) : Int)) = 0 := rfl
    show Value.int .i64 (IntKind.wrap .i64 ((m : Int) - IntKind.wrap .i64 (((0 : Nat) : Int) - ((0 : Nat) : Int)))) = _
    rw [h1, w64 (by omega)]; simp) (Wops_run rfl rfl (K_fin [(0, _), (1, _)] rfl (?_))))))))))))
  refine K_ss (K_reg (Wops_run rfl rfl (Wops_run rfl rfl (K_fin [(0, _), (1, _), (16, _)] rfl (?_)))))
  refine K_scond rfl (fun hc => ?_) (fun hc => ?_)
  · refine K_reg (Wops_run rfl rfl (Wops_run rfl rfl (Wops_run rfl rfl (Wops_slV rfl rfl rfl rfl (bounds_hi (i := 0) (by omega)) ?_))))
    refine Wops_run rfl rfl (Wops_appZ (m := m) rfl rfl (OwS.none (sz := 1)) ⟨by omega, by omega⟩ rfl rfl (by decide) fun h1 a1 c1 x1 o1 b1 => ?_)
    refine Wops_run rfl rfl (Wops_run rfl rfl (Wops_slV rfl rfl rfl o1.sl.ok (bounds_hi (i := 0) (by omega)) ?_))
    refine Wops_run rfl rfl (K_fin [(0, _)] rfl (?_))
    have o2 := o1.sub (i := 0) (j := 0) (by omega) (by omega)
    refine K_reg (Wops_run rfl rfl (Wops_run rfl rfl (K_fin [(4, _)] rfl (?_))))
    refine K_ret (Told.mk _ rfl ⟨shift a1 (0 * 1), c1, rfl, by simpa using o2, x1.mono fun i _ r => absurd r Blk.none, fun i r => ?_⟩)
    exact (b1 i (shift_blk.1 r)).elim (fun r => absurd r Blk.none) id
  · refine K_sskip (K_reg (Wops_run rfl rfl (Wops_run rfl rfl (K_fin [(4, _)] rfl (?_)))))
    exact K_ret (Told.mk _ rfl ⟨none, 0, rfl, OwS.none, Ext.refl _ _, fun i r => absurd r Blk.none⟩)

def sumL (fs : List (List Int)) : Nat := (fs.map List.length).sum

/-- slices.Concat of bytes -/
theorem C89 {h : Heap} {S : Nat → Prop} {a : Option Addr} {n c : Nat} {vs : List Value} {fs : List (List Int)} (s : SlA h 1 a n c vs) (b : Bys h .u8 S vs fs) (hS : ∀ i, S i → i < h.next) (ha : ∀ i, Blk a i → i < h.next) (hn : n ≤ 1000) (hb : ∀ f ∈ fs, f.length ≤ 1000000) :
    Fn Try.prog 89 [.slice a n c] h fun v h' => ∃ a' c', v = .slice a' fs.flatten.length c' ∧ OwS h' 1 a' fs.flatten.length c' (ints .u8 fs.flatten) ∧ Ext0 h h' ∧ ∀ i, Blk a' i → h.next ≤ i := by
  have hfn : fs.length = n := by have := s.len; rw [b.length] at this; omega
  have hsum : ∀ i, i ≤ n → (fs.take i).flatten.length ≤ i * 1000000 := by
    intro i
    induction i with
    | zero => intro _; simp
    | succ i ih =>
      intro hi
      rw [List.take_add_one, List.getElem?_eq_getElem (by omega), Option.toList_some, List.flatten_append, List.length_append]
      have := ih (by omega)
      have := hb fs[i] (List.getElem_mem _)
      simp only [List.flatten_cons, List.flatten_nil, List.append_nil]; omega
  refine fnK F89.fok rfl ?_
  refine K_reg (Wops_run rfl rfl (K_fin [(0, _)] rfl (?_)))
  refine K_reg (Wops_run rfl rfl (K_fin [(0, _), (3, _)] rfl (?_)))
  refine K_ss (K_reg (Wops_run rfl rfl (Wops_run rfl rfl (Wops_run rfl rfl (K_fin [(0, _), (3, _), (9, _), (10, _), (11, _)] rfl (?_))))))
  refine K_sblock ?_
  refine K_loop (fun k e h' => ∃ i : Nat, e = [(0, .slice a n c), (3, .int .i64 ((fs.take i).flatten.length : Nat)), (9, .slice a n c), (10, .int .i64 n), (11, .int .i64 i)] ∧ h = h' ∧ i ≤ n ∧ k = n - i) ?_ (k := n) ⟨0, rfl, rfl, by omega, rfl⟩
  rintro k e h' ⟨i, rfl, rfl, hi, rfl⟩
  have hsi := hsum i hi
  refine K_reg (Wops_run rfl rfl (K_fin [(0, _), (3, _), (9, _), (10, _), (11, _), (12, _)] rfl (?_)))
  refine K_scond rfl (fun hc => ?_) (fun hc => ?_)
  · have hlt : i < n := by have := of_decide_eq_true hc; omega
    obtain ⟨ai, ni, ci, hv, si, di⟩ := b.get i (by omega)
    have hni : fs[i].length = ni := by simpa using si.len
    have hbi := hb fs[i] (List.getElem_mem _)
    have hnext : ((fs.take (i + 1)).flatten.length : Nat) = (fs.take i).flatten.length + ni := by
      rw [List.take_add_one, List.getElem?_eq_getElem (by omega), Option.toList_some, List.flatten_append, List.length_append]; simp [hni]
    refine K_sskip (K_sblock ?_)
    refine K_reg (Wops_idx (u := .slice ai ni ci) rfl rfl s ⟨by omega, by omega⟩ (by simpa using hv) fun p => ?_)
    refine Wops_run rfl rfl (K_fin [(0, _), (3, _), (5, _), (9, _), (10, _), (11, _)] rfl (?_))
    refine K_reg (Wops_run rfl rfl (Wops_run rfl rfl (Wops_run rfl rfl (Wops_as (w := .int .i64 ((fs.take (i + 1)).flatten.length : Nat)) rfl rfl (by rw [w64 (by omega), hnext]; simp) (Wops_run rfl rfl (K_fin [(0, _), (3, _), (9, _), (10, _), (11, _)] rfl (?_)))))))
    refine K_reg (Wops_run rfl rfl (Wops_run rfl rfl (K_fin [(0, _), (3, _), (9, _), (10, _), (11, _), (20, _)] rfl (?_))))
    refine K_cond rfl (fun hc => by have := of_decide_eq_true hc; omega) (fun _ => ?_)
    refine K_skip (K_last (Wops_run rfl rfl (Wops_run rfl rfl (K_finL [(0, _), (3, _), (9, _), (10, _), (11, _)] rfl (?_)))))
    exact ⟨n - (i + 1), by omega, i + 1, by rw [w64s (by omega)], rfl, by omega, rfl⟩
  · have hin : i = n := by have := of_decide_eq_false hc; omega
    have htk : fs.take i = fs := List.take_of_length_le (by omega)
    rw [htk] at hsi ⊢
    refine K_sexit (bx_same ?_)
    refine K_reg (Wops_run rfl rfl (Wops_call rfl (C98 (m := fs.flatten.length) (by omega)) ?_))
    rintro _ h1 ⟨a1, c1, rfl, o1, x1, b1⟩
    refine Wops_run rfl rfl (K_fin [(0, _), (6, _)] rfl (?_))
    refine K_ss (K_reg (Wops_run rfl rfl (Wops_run rfl rfl (Wops_run rfl rfl (K_fin [(6, _), (25, _), (26, _), (27, _)] rfl (?_))))))
    refine K_sblock ?_
    refine K_loop (fun k e h' => ∃ (i : Nat) (a6 : Option Addr) (c6 : Nat), e = [(6, .slice a6 (fs.take i).flatten.length c6), (25, .slice a n c), (26, .int .i64 n), (27, .int .i64 i)] ∧ i ≤ n ∧ k = n - i ∧ OwS h' 1 a6 (fs.take i).flatten.length c6 (ints .u8 (fs.take i).flatten) ∧ Ext0 h h' ∧ ∀ i, Blk a6 i → h.next ≤ i) ?_ (k := n) ⟨0, a1, c1, rfl, by omega, rfl, o1, x1, b1⟩
    clear o1 x1 b1
    rintro k e h2 ⟨i, a6, c6, rfl, hi, rfl, o6, x6, b6⟩
    have hsi := hsum i hi
    refine K_reg (Wops_run rfl rfl (K_fin [(6, _), (25, _), (26, _), (27, _), (28, _)] rfl (?_)))
    refine K_scond rfl (fun hc => ?_) (fun hc => ?_)
    · have hlt : i < n := by have := of_decide_eq_true hc; omega
      obtain ⟨ai, ni, ci, hv, si, di⟩ := b.get i (by omega)
      have hni : fs[i].length = ni := by simpa using si.len
      have hbi := hb fs[i] (List.getElem_mem _)
      have htk1 : (fs.take (i + 1)).flatten = (fs.take i).flatten ++ fs[i] := by
        rw [List.take_add_one, List.getElem?_eq_getElem (by omega), Option.toList_some, List.flatten_append]; simp
      refine K_sskip (K_sblock ?_)
      refine K_reg (Wops_idx (u := .slice ai ni ci) rfl rfl (s.ext x6) ⟨by omega, by omega⟩ (by simpa using hv) fun p => ?_)
      refine Wops_run rfl rfl (K_fin [(6, _), (8, _), (25, _), (26, _), (27, _)] rfl (?_))
      refine K_last (Wops_run rfl rfl (Wops_run rfl rfl (Wops_app rfl rfl o6 rfl (si.ext x6).first ⟨by omega, by omega⟩ si.len (ints_cell _ _) (by decide) fun h3 a3 c3 x3 o3 b3 => ?_)))
      refine Wops_run rfl rfl (K_finL [(6, _), (25, _), (26, _), (27, _)] rfl (?_))
      refine K_last (Wops_run rfl rfl (Wops_run rfl rfl (K_finL [(6, _), (25, _), (26, _), (27, _)] rfl (?_))))
      have hl : (fs.take i).flatten.length + ni = (fs.take (i + 1)).flatten.length := by rw [htk1, List.length_append, hni]
      refine ⟨n - (i + 1), by omega, i + 1, a3, c3, by rw [w64s (by omega), hl], by omega, rfl, ?_, x6.then x3 fun i r => .inr (b6 i r), fun i r => (b3 i r).elim (b6 i) fun q => Nat.le_trans x6.next q⟩
      rw [← hl, htk1]; simpa [ints] using o3
    · have hin : i = n := by have := of_decide_eq_false hc; omega
      have htk : fs.take i = fs := List.take_of_length_le (by omega)
      rw [htk] at o6
      refine K_sexit (bx_same ?_)
      refine K_reg (Wops_run rfl rfl (Wops_run rfl rfl (K_fin [(2, _)] rfl (?_))))
      exact K_ret (Told.mk _ rfl ⟨a6, c6, by rw [htk]; rfl, o6, x6, b6⟩)

end
section
/- Contracts of frame's functions: frames out of bytes. -/
set_option linter.unusedVariables false
set_option linter.unusedSimpArgs false

def Byte (xs : List Int) : Prop := ∀ x ∈ xs, 0 ≤ x ∧ x ≤ 255

inductive Nx where
  | short | long
  | whole (f rest : List Int)
def nextF : List Int → Nx
  | b0 :: b1 :: r => if b0 * 256 + b1 > 5000 then .long else if (r.length : Int) < b0 * 256 + b1 then .short else .whole (r.take (b0 * 256 + b1).toNat) (r.drop (b0 * 256 + b1).toNat)
  | _ => .short
def splitF : Nat → List Int → List (List Int) × List Int × Bool
  | 0, bs => ([], bs, false)
  | k + 1, bs => match nextF bs with
    | .short => ([], bs, false)
    | .long => ([], [], true)
    | .whole f rest => (f :: (splitF k rest).1, (splitF k rest).2)

/-- Pieces: those of M are all that may be turned. -/
def Pt (M : Nat → Prop) (h : Heap) (p : Nat) (bs : List Int) (bad : Bool) : Prop :=
  M p ∧ ∃ a n c, At h p (.cells [.slice a n c, .bool bad] 0 false) ∧ SlA h 1 a n c (ints .u8 bs) ∧ ∀ i, Blk a i → ¬ M i ∧ i < h.next
theorem Pt.ext {M T : Nat → Prop} {h h' : Heap} {p : Nat} {bs : List Int} {bad : Bool} (q : Pt M h p bs bad) (x : Ext T h h') (hp : ¬ T p) (hT : ∀ i, T i → M i) : Pt M h' p bs bad := by
  obtain ⟨m, a, n, c, h1, h2, h3⟩ := q
  exact ⟨m, a, n, c, h1.ext x hp, h2.ext x (fun i r t => (h3 i r).1 (hT i t)), fun i r => ⟨(h3 i r).1, Nat.lt_of_lt_of_le (h3 i r).2 x.next⟩⟩
theorem Pt.ext0 {M : Nat → Prop} {h h' : Heap} {p : Nat} {bs : List Int} {bad : Bool} (q : Pt M h p bs bad) (x : Ext0 h h') : Pt M h' p bs bad := q.ext x (fun r => r) (fun _ r => r.elim)

theorem or_i64 {a b : Int} (ha : 0 ≤ a ∧ a ≤ 255) (hb : 0 ≤ b ∧ b ≤ 255) : IntKind.wrap .i64 ((BitVec.ofInt (IntKind.bits .i64) (a * 256) ||| BitVec.ofInt (IntKind.bits .i64) b).toNat : Nat) = a * 256 + b := by
  obtain ⟨x, rfl⟩ : ∃ x : Nat, a = x := ⟨a.toNat, by omega⟩
  obtain ⟨y, rfl⟩ : ∃ y : Nat, b = y := ⟨b.toNat, by omega⟩
  have e1 : ((x : Int) * 256) = ((x * 256 : Nat) : Int) := by simp
  rw [e1, BitVec.ofInt_natCast, BitVec.ofInt_natCast, BitVec.toNat_or, BitVec.toNat_ofNat, BitVec.toNat_ofNat]
  have e2 : (x * 256) % 2 ^ IntKind.bits .i64 = x * 256 := Nat.mod_eq_of_lt (by show _ < 2 ^ 64; omega)
  have e3 : y % 2 ^ IntKind.bits .i64 = y := Nat.mod_eq_of_lt (by show _ < 2 ^ 64; omega)
  rw [e2, e3]
  have := Nat.two_pow_add_eq_or_of_lt (i := 8) (b := y) (by omega) x
  rw [show x * 256 = 2 ^ 8 * x by omega, ← this, w64 (by omega)]
  omega

theorem C90 {M : Nat → Prop} {h : Heap} {p : Nat} {bs : List Int} {bad : Bool} (hM : ∀ i, M i → i < h.next) (q : Pt M h p bs bad) (hw : Byte bs) (hb : bs.length ≤ 1000000) :
    Fn Try.prog 90 [ptr p] h fun v h' => match nextF bs with
      | .short => v = .tuple ⟨[.slice none 0 0, .bool false, .bool false]⟩ ∧ h = h'
      | .long => v = .tuple ⟨[.slice none 0 0, .bool false, .bool true]⟩ ∧ h = h'
      | .whole f rest => ∃ a n c, v = .tuple ⟨[.slice a n c, .bool true, .bool false]⟩ ∧ OwS h' 1 a n c (ints .u8 f) ∧ (∀ i, Blk a i → h.next ≤ i) ∧ Pt M h' p rest bad ∧ Ext (· = p) h h' := by
  obtain ⟨mp, a, n, c, g, s, ha⟩ := q
  have hn : bs.length = n := by simpa using s.len
  refine fnK F90.fok rfl ?_
  refine K_reg (Wops_run rfl rfl (Wops_run rfl rfl (Wops_run rfl rfl (K_fin [(0, _)] rfl (?_)))))
  refine K_ss (K_reg (Wops_run rfl rfl (Wops_run rfl rfl (Wops_run rfl rfl (Wops_ld rfl g (by rfl) ?_)))))
  refine Wops_run rfl rfl (Wops_run rfl rfl (K_fin [(0, _), (11, _)] rfl (?_)))
  refine K_scond rfl (fun hc => ?_) (fun hc => ?_)
  · have h2 : n < 2 := by have := of_decide_eq_true hc; omega
    have hx : nextF bs = .short := by
      match bs, hn with
      | [], _ => rfl
      | [_], _ => rfl
      | _ :: _ :: _, hn => simp at hn; omega
    rw [hx]
    refine K_ss (K_reg (Wops_run rfl rfl (Wops_run rfl rfl (Wops_run rfl rfl (K_fin [(2, _), (3, _), (4, _)] rfl (?_))))))
    exact K_sret (Told.mk _ rfl ⟨rfl, rfl⟩)
  · have h2 : 2 ≤ n := by have := of_decide_eq_false hc; omega
    obtain ⟨b0, b1, r, rfl⟩ : ∃ b0 b1 r, bs = b0 :: b1 :: r := by
      match bs, hn with
      | [], hn => simp at hn; omega
      | [_], hn => simp at hn; omega
      | b0 :: b1 :: r, _ => exact ⟨b0, b1, r, rfl⟩
    have w0 := hw b0 (by simp)
    have w1 := hw b1 (by simp)
    have hr : r.length + 2 = n := by simpa using hn
    refine K_sskip (K_reg (Wops_run rfl rfl (Wops_run rfl rfl (Wops_run rfl rfl (Wops_ld rfl g (by rfl) ?_)))))
    refine Wops_idx (u := .int .u8 b0) rfl rfl s ⟨by omega, by omega⟩ (by simp) fun _ => ?_
    refine Wops_as (w := .int .i64 b0) rfl rfl (by rw [w64 (by omega)]) (Wops_as (w := .int .i64 (b0 * 256)) rfl rfl (by
      show Value.int .i64 (IntKind.wrap .i64 (b0 * 2 ^ 8)) = _
      rw [w64 (by omega)]; rfl) ?_)
    refine Wops_run rfl rfl (Wops_run rfl rfl (Wops_run rfl rfl (Wops_ld rfl g (by rfl) ?_)))
    refine Wops_idx (u := .int .u8 b1) rfl rfl s ⟨by omega, by omega⟩ (by simp) fun _ => ?_
    refine Wops_as (w := .int .i64 b1) rfl rfl (by rw [w64 (by omega)]) (Wops_as (w := .int .i64 (b0 * 256 + b1)) rfl rfl (by rw [← or_i64 w0 w1]) ?_)
    refine Wops_run rfl rfl (K_fin [(0, _), (5, _)] rfl (?_))
    obtain ⟨m, hm⟩ : ∃ m : Nat, b0 * 256 + b1 = m := ⟨(b0 * 256 + b1).toNat, by omega⟩
    simp only [nextF, hm]
    refine K_ss (K_reg (Wops_run rfl rfl (Wops_run rfl rfl (K_fin [(0, _), (5, _), (29, _)] rfl (?_)))))
    refine K_scond rfl (fun hc => ?_) (fun hc => ?_)
    · rw [if_pos (of_decide_eq_true hc)]
      refine K_ss (K_reg (Wops_run rfl rfl (Wops_run rfl rfl (Wops_run rfl rfl (K_fin [(2, _), (3, _), (4, _)] rfl (?_))))))
      exact K_sret (Told.mk _ rfl ⟨rfl, rfl⟩)
    · rw [if_neg (of_decide_eq_false hc)]
      have h5 : m ≤ 5000 := by have := of_decide_eq_false hc; omega
      refine K_sskip (K_ss (K_reg (Wops_run rfl rfl (Wops_run rfl rfl (Wops_run rfl rfl (Wops_ld rfl g (by rfl) ?_))))))
      refine Wops_run rfl rfl (Wops_as (w := .int .i64 (r.length : Nat)) rfl rfl (by rw [w64 (by omega)]; congr 1; omega) ?_)
      refine Wops_run rfl rfl (Wops_run rfl rfl (K_fin [(0, _), (5, _), (37, _)] rfl (?_)))
      refine K_scond rfl (fun hc => ?_) (fun hc => ?_)
      · rw [if_pos (of_decide_eq_true hc)]
        refine K_ss (K_reg (Wops_run rfl rfl (Wops_run rfl rfl (Wops_run rfl rfl (K_fin [(2, _), (3, _), (4, _)] rfl (?_))))))
        exact K_sret (Told.mk _ rfl ⟨rfl, rfl⟩)
      · rw [if_neg (of_decide_eq_false hc)]
        have hmr : m ≤ r.length := by have := of_decide_eq_false hc; omega
        have hcast : IntKind.wrap .i64 (2 + (m : Int)) = ((2 + m : Nat) : Int) := by rw [w64 (by omega)]; omega
        have sA := s.sub (i := 2) (j := 2 + m) (by omega) (by omega)
        have sB := s.sub (i := 2 + m) (j := n) (by omega) (Nat.le_refl _)
        have hA : List.take ((2 + m - 2) * 1) (List.drop (2 * 1) (ints .u8 (b0 :: b1 :: r))) = ints .u8 (r.take m) := by
          simp [ints, List.map_take]
        have hB : List.take ((n - (2 + m)) * 1) (List.drop ((2 + m) * 1) (ints .u8 (b0 :: b1 :: r))) = ints .u8 (r.drop m) := by
          rw [List.take_of_length_le (by simp; omega), show (2 + m) * 1 = m + 2 by omega]
          simp [ints, List.map_drop]
        rw [hA] at sA
        rw [hB] at sB
        have hlt := g.lt
        refine K_sskip (K_reg (Wops_run rfl rfl (Wops_run rfl rfl (Wops_run rfl rfl (Wops_ld rfl g (by rfl) ?_)))))
        refine Wops_run rfl rfl (Wops_as (w := .int .i64 ((2 + m : Nat) : Int)) rfl rfl (by rw [hcast]) (Wops_slV rfl rfl rfl s.ok (bounds_lh (i := 2) (j := 2 + m) ⟨by omega, by omega⟩) ?_))
        refine Wops_call rfl (C72f sA (ints_cell _ _) (by omega)) ?_
        rintro _ h1 ⟨a1, c1, rfl, o1, x1, b1'⟩
        refine Wops_run rfl rfl (K_fin [(0, _), (2, _), (5, _)] rfl (?_))
        refine K_reg (Wops_run rfl rfl (Wops_run rfl rfl (Wops_run rfl rfl (Wops_run rfl rfl (Wops_ld rfl (At.ext (o := .cells [.slice a n c, .bool bad] 0 false) g x1) (by rfl) ?_)))))
        refine Wops_run rfl rfl (Wops_as (w := .int .i64 ((2 + m : Nat) : Int)) rfl rfl (by rw [hcast]) (Wops_slV rfl rfl rfl (s.ext x1).ok (bounds_lo (i := 2 + m) (by omega)) ?_))
        refine Wops_run rfl rfl (Wops_run rfl rfl (Wops_st rfl rfl rfl rfl (x1.some0 g) (by simp) rfl fun h3 n3 x3 g3 => ?_))
        refine K_fin [(2, _)] rfl (?_)
        refine K_reg (Wops_run rfl rfl (Wops_run rfl rfl (Wops_run rfl rfl (Wops_run rfl rfl (K_fin [(2, _), (3, _), (4, _)] rfl (?_))))))
        refine K_ret (Told.mk _ rfl ⟨a1, _, c1, rfl, ?_, fun i r => (b1' i r).1, ⟨mp, shift a ((2 + m) * 1), _, c, g3, (sB.ext x1).ext x3 (fun i r e => (ha i (shift_blk.1 r)).1 (by rw [e]; exact mp)), fun i r => ?_⟩, x1.of0.then x3 fun i r => .inl r⟩)
        · exact o1.ext x3 fun i r e => by have := (b1' i r).1; omega
        · obtain ⟨q1, q2⟩ := ha i (shift_blk.1 r)
          exact ⟨q1, by have := x1.next; omega⟩

end
section
/- Contracts of frame's functions: Add, the program's and the document's. -/
set_option linter.unusedVariables false
set_option linter.unusedSimpArgs false

theorem Pt.swap {M M' : Nat → Prop} {h : Heap} {p : Nat} {bs : List Int} {bad : Bool} (q : Pt M h p bs bad) (hs : ∀ i, M' i → M i ∨ h.next ≤ i) (mp : M' p) : Pt M' h p bs bad := by
  obtain ⟨m, a, n, c, h1, h2, h3⟩ := q
  exact ⟨mp, a, n, c, h1, h2, fun i r => ⟨fun t => (hs i t).elim (h3 i r).1 fun u => by have := (h3 i r).2; omega, (h3 i r).2⟩⟩

theorem nextF_whole {bs f rest : List Int} (h : nextF bs = .whole f rest) : rest.length + 2 ≤ bs.length ∧ (Byte bs → Byte f ∧ Byte rest) := by
  match bs, h with
  | [], h => simp [nextF] at h
  | [_], h => simp [nextF] at h
  | b0 :: b1 :: r, h =>
    simp only [nextF] at h
    split at h
    · cases h
    · split at h
      · cases h
      · cases h
        refine ⟨by simp [List.length_drop], fun w => ⟨fun x hx => w x ?_, fun x hx => w x ?_⟩⟩
        · exact List.mem_cons_of_mem _ (List.mem_cons_of_mem _ (List.mem_of_mem_take hx))
        · exact List.mem_cons_of_mem _ (List.mem_cons_of_mem _ (List.mem_of_mem_drop hx))
theorem nextF_long {bs : List Int} (h : nextF bs = .long) : 2 ≤ bs.length := by
  match bs, h with
  | [], h => simp [nextF] at h
  | [_], h => simp [nextF] at h
  | b0 :: b1 :: r, h => exact Nat.le_add_left 2 _
theorem splitF_short {k : Nat} {bs : List Int} (h : nextF bs = .short) : splitF k bs = ([], bs, false) := by
  cases k with
  | zero => rfl
  | succ k => simp only [splitF, h]

def Fs (h h' : Heap) (af : Option Addr) (i : Nat) : Prop := h.next ≤ i ∧ i < h'.next ∧ ¬ Blk af i

structure FrS (M : Nat → Prop) (h h' : Heap) (p : Nat) (cur : List Int) (fs : List (List Int)) (af : Option Addr) (nf cf : Nat) (vs : List Value) (k n0 : Nat) : Prop where
  pl : p < h.next
  x : Ext (· = p) h h'
  q : Pt (fun i => M i ∨ Blk af i) h' p cur false
  w : Byte cur
  le : cur.length ≤ k
  nk : nf + k ≤ n0
  o : OwS h' 1 af nf cf vs
  b : Bys h' .u8 (Fs h h' af) vs fs
  nw : ∀ i, Blk af i → h.next ≤ i

theorem FrS.push {M : Nat → Prop} {h h' h2 h3 : Heap} {p nf cf k k' n0 n1 c1 c3 : Nat} {cur rest f : List Int} {fs : List (List Int)} {af a1 a3 : Option Addr} {vs : List Value} (t : FrS M h h' p cur fs af nf cf vs k n0)
    (x2 : Ext (· = p) h' h2) (q2 : Pt (fun i => M i ∨ Blk af i) h2 p rest false) (wr : Byte rest) (o1 : OwS h2 1 a1 n1 c1 (ints .u8 f)) (d1 : ∀ i, Blk a1 i → h'.next ≤ i)
    (x3 : Ext (Blk af) h2 h3) (o3 : OwS h3 1 a3 (nf + 1) c3 (vs ++ [.slice a1 n1 c1])) (b3 : ∀ i, Blk a3 i → Blk af i ∨ h2.next ≤ i) (hk : rest.length ≤ k') (hk2 : k' + 1 ≤ k) : FrS M h h3 p rest (fs ++ [f]) a3 (nf + 1) c3 (vs ++ [.slice a1 n1 c1]) k' n0 := by
  have hp : ¬ Blk af p := fun r => by have := t.nw p r; have := t.pl; omega
  have e1 := t.x.next
  have e2 := x2.next
  have e3 := x3.next
  have l1 : ∀ i, Blk a1 i → i < h2.next := fun i r => o1.lt r
  have laf : ∀ i, Blk af i → i < h'.next := fun i r => t.o.lt r
  refine ⟨t.pl, (t.x.trans x2).then x3 fun i r => .inr (t.nw i r), ?_, wr, hk, by have := t.nk; omega, o3, ?_, fun i r => (b3 i r).elim (t.nw i) fun r => by omega⟩
  · have q3 := (q2.swap (M' := fun i => M i ∨ Blk af i ∨ Blk a3 i) (fun i r => by
      rcases r with r | r | r
      · exact .inl (.inl r)
      · exact .inl (.inr r)
      · exact (b3 i r).elim (fun r => .inl (.inr r)) .inr) (q2.1.elim .inl fun r => absurd r hp)).ext x3 hp (fun i r => .inr (.inl r))
    exact q3.swap (fun i r => .inl (r.imp id .inr)) (q2.1.elim .inl fun r => absurd r hp)
  · refine Bys.append ?_ (Bys.one ((o1.ext x3 fun i r s => by have := d1 i r; have := laf i s; omega).sl) fun i r => ⟨by have := d1 i r; omega, by have := l1 i r; omega, fun s => ?_⟩)
    · refine ((t.b.ext x2 fun i r e => ?_).ext x3 fun i r => r.2.2).mono fun i r => ⟨r.1, by have := r.2.1; omega, fun s => ?_⟩
      · have := r.1; have := t.pl; omega
      · exact (b3 i s).elim r.2.2 fun u => by have := r.2.1; omega
    · rcases b3 i s with u | u
      · have := d1 i r; have := laf i u; omega
      · have := l1 i r; omega

theorem C70 {M : Nat → Prop} {h : Heap} {p nb cb : Nat} {ab : Option Addr} {bs ys : List Int} {bad : Bool} (hM : ∀ i, M i → i < h.next) (q : Pt M h p bs bad) (hw : Byte bs) (sy : SlA h 1 ab nb cb (ints .u8 ys)) (ly : ∀ i, Blk ab i → i < h.next) (hwy : Byte ys)
    (hb : bs.length ≤ 100000) (hb2 : ys.length ≤ 100000) :
    Fn Try.prog 70 [ptr p, .slice ab nb cb] h fun v h' => if bad = true then v = .tuple ⟨[.slice none 0 0, .int .i64 4]⟩ ∧ h = h' else ∃ af nf cf vs,
      v = .tuple ⟨[.slice af nf cf, .int .i64 (if (splitF (bs ++ ys).length (bs ++ ys)).2.2 = true then 4 else 0)]⟩ ∧ OwS h' 1 af nf cf vs ∧ Bys h' .u8 (Fs h h' af) vs (splitF (bs ++ ys).length (bs ++ ys)).1 ∧ (∀ i, Blk af i → h.next ≤ i) ∧
      Pt M h' p (splitF (bs ++ ys).length (bs ++ ys)).2.1 (splitF (bs ++ ys).length (bs ++ ys)).2.2 ∧ Ext (· = p) h h' := by
  obtain ⟨mp, a, n, c, g, s, ha⟩ := id q
  have hlt := g.lt
  refine fnK F70.fok rfl ?_
  refine K_reg (Wops_run rfl rfl (Wops_run rfl rfl (K_fin [(0, _), (1, _), (4, _)] rfl (?_))))
  refine K_sblock ?_
  refine K_reg (Wops_run rfl rfl (Wops_run rfl rfl (Wops_run rfl rfl (K_fin [(0, _), (1, _), (4, _), (9, _)] rfl (?_)))))
  refine K_cond rfl (fun hc => by cases hc) (fun _ => ?_)
  refine K_reg (Wops_run rfl rfl (Wops_run rfl rfl (Wops_run rfl rfl (Wops_ld rfl g (by rfl) ?_))))
  refine Wops_run rfl rfl (K_fin [(0, _), (1, _), (4, _), (12, _)] rfl (?_))
  cases bad with
  | true =>
    refine K_cond rfl (fun _ => ?_) (fun hc => by cases hc)
    refine K_reg (Wops_run rfl rfl (Wops_run rfl rfl (K_fin [(4, _), (5, _)] rfl (?_))))
    exact K_ret (Told.mk _ rfl ⟨rfl, rfl⟩)
  | false =>
    refine K_cond rfl (fun hc => by cases hc) (fun _ => ?_)
    refine K_skip ?_
    refine K_reg (Wops_run rfl rfl (Wops_run rfl rfl (Wops_run rfl rfl (Wops_run rfl rfl (Wops_run rfl rfl (Wops_ld rfl g (by rfl) ?_))))))
    refine Wops_run rfl rfl (Wops_bslice (l := [.slice a n c, .slice ab nb cb]) rfl rfl fun h1 n1 x1 g1 => ?_)
    have hby : Bys h1 .u8 (fun i => i < h1.next) [.slice a n c, .slice ab nb cb] [bs, ys] :=
      ⟨⟨a, n, c, rfl, s.ext x1, fun i r => by have := (ha i r).2; omega⟩, ⟨ab, nb, cb, rfl, sy.ext x1, fun i r => by have := ly i r; omega⟩, trivial⟩
    refine Wops_call rfl (C89 (SlA.mk' (n := 2) (c := 1) (off := 0) g1 (by simp) (.inr (.inr rfl))) hby (fun i r => r) (fun i r => by rw [Blk.at] at r; omega) (by omega) (by simp; omega)) ?_
    rintro _ h2 ⟨a2, c2, rfl, o2, x2, b2⟩
    have X := x1.trans x2
    have hfl : [bs, ys].flatten = bs ++ ys := by simp
    rw [hfl] at o2 ⊢
    refine Wops_run rfl rfl (Wops_run rfl rfl (Wops_run rfl rfl (Wops_st rfl rfl rfl rfl (X.some0 g) (by simp) rfl fun h3 n3 x3 g3 => ?_)))
    refine K_fin [(0, _), (4, _)] rfl (?_)
    clear hfl
    have hbn := x1.next
    have t0 : FrS M h h3 p (bs ++ ys) [] none 0 0 [] (bs ++ ys).length (bs ++ ys).length := by
      refine ⟨hlt, X.of0.then x3 fun i r => .inl r, ⟨.inl mp, a2, _, c2, g3, (o2.ext x3 fun i r e => by have := b2 i r; omega).sl, fun i r => ⟨fun t => ?_, ?_⟩⟩, ?_, Nat.le_refl _, by omega, OwS.none, trivial, fun i r => absurd r Blk.none⟩
      · rcases t with t | t
        · have := hM i t; have := b2 i r; omega
        · exact absurd t Blk.none
      · have := o2.lt r; have := x3.next; omega
      · intro x hx; rcases List.mem_append.1 hx with hx | hx; exact hw x hx; exact hwy x hx
    generalize hN : (bs ++ ys).length = N at *
    have hNb : N ≤ 200000 := by simp at hN; omega
    generalize (bs ++ ys) = all at *
    refine K_block ?_
    refine K_loop (fun k e h' => ∃ (cur : List Int) (fs : List (List Int)) (af : Option Addr) (nf cf : Nat) (vs : List Value), e = [(0, ptr p), (4, .slice af nf cf)] ∧ splitF N all = (fs ++ (splitF k cur).1, (splitF k cur).2) ∧ FrS M h h' p cur fs af nf cf vs k N) ?_ (k := N) ⟨all, [], none, 0, 0, [], rfl, by simp, t0⟩
    clear t0 x3 g3 n3 o2 b2 x2
    rintro k e h' ⟨cur, fs, af, nf, cf, vs, rfl, hsp, t⟩
    have hkN := t.nk
    have hMl : ∀ i, (M i ∨ Blk af i) → i < h'.next := fun i r => r.elim (fun r => by have := hM i r; have := t.x.next; omega) fun r => t.o.lt r
    refine K_block ?_
    have c50 := C90 hMl t.q t.w (by have := t.le; omega)
    refine K_reg (Wops_run rfl rfl (Wops_run rfl rfl (Wops_run rfl rfl (Wops_call rfl c50 ?_))))
    intro v1 h1 hq
    cases hx : nextF cur with
    | short =>
      rw [hx] at hq
      obtain ⟨rfl, rfl⟩ := hq
      rw [splitF_short hx] at hsp
      refine Wops_run rfl rfl (Wops_run rfl rfl (Wops_run rfl rfl (Wops_run rfl rfl (Wops_run rfl rfl (Wops_run rfl rfl (Wops_run rfl rfl (K_fin [(0, _), (4, _), (6, _), (7, _), (8, _)] rfl (?_))))))))
      refine K_ss (K_reg (Wops_run rfl rfl (K_fin [(0, _), (4, _), (6, _), (7, _), (37, _)] rfl (?_))))
      refine K_scond rfl (fun hc => by cases hc) (fun _ => ?_)
      refine K_sskip (K_ss (K_reg (Wops_run rfl rfl (Wops_run rfl rfl (K_fin [(0, _), (4, _), (6, _), (47, _)] rfl (?_))))))
      refine K_scond rfl (fun _ => ?_) (fun hc => by cases hc)
      refine K_ss (K_reg (Wops_run rfl rfl (Wops_run rfl rfl (Wops_run rfl rfl (K_fin [(4, _), (5, _)] rfl (?_))))))
      refine K_sret (Told.mk _ rfl ?_)
      show if false = true then _ else _
      rw [if_neg (by simp), hsp]
      exact ⟨af, nf, cf, vs, rfl, t.o, by simpa using t.b, t.nw, t.q.swap (fun i r => .inl (.inl r)) mp, t.x⟩
    | long =>
      rw [hx] at hq
      obtain ⟨rfl, rfl⟩ := hq
      have h2 := nextF_long hx
      obtain ⟨k', rfl⟩ : ∃ k', k = k' + 1 := ⟨k - 1, by have := t.le; omega⟩
      simp only [splitF, hx] at hsp
      refine Wops_run rfl rfl (Wops_run rfl rfl (Wops_run rfl rfl (Wops_run rfl rfl (Wops_run rfl rfl (Wops_run rfl rfl (Wops_run rfl rfl (K_fin [(0, _), (4, _), (6, _), (7, _), (8, _)] rfl (?_))))))))
      refine K_ss (K_reg (Wops_run rfl rfl (K_fin [(0, _), (4, _), (6, _), (7, _), (37, _)] rfl (?_))))
      refine K_scond rfl (fun _ => ?_) (fun hc => by cases hc)
      obtain ⟨_, aq, nq, cq, gq, sq, dq⟩ := t.q
      refine K_ss (K_reg (Wops_run rfl rfl (Wops_run rfl rfl (Wops_run rfl rfl (Wops_run rfl rfl (Wops_run rfl rfl (Wops_st rfl rfl rfl rfl gq (by simp) rfl fun h2 n2 x2 g2 => ?_)))))))
      refine Wops_run rfl rfl (Wops_run rfl rfl (Wops_st rfl rfl rfl rfl g2 (by rw [putL_length]; simp) rfl fun h3 n3 x3 g3 => ?_))
      refine K_fin [(4, _)] rfl (?_)
      refine K_ss (K_reg (Wops_run rfl rfl (Wops_run rfl rfl (Wops_run rfl rfl (K_fin [(4, _), (5, _)] rfl (?_))))))
      have hp : ¬ Blk af p := fun r => by have := t.nw p r; omega
      have X3 : Ext (· = p) h' h3 := x2.trans x3
      refine K_sret (Told.mk _ rfl ?_)
      show if false = true then _ else _
      rw [if_neg (by simp), hsp]
      refine ⟨af, nf, cf, vs, rfl, t.o.ext X3 fun i r e => hp (by rw [← e]; exact r), ?_, t.nw, ⟨mp, none, 0, 0, g3, SlA.none, fun i r => absurd r Blk.none⟩, t.x.trans X3⟩
      have hb3 := (t.b.ext X3 fun i r e => by have := r.1; omega).mono (T := Fs h h3 af) fun i r => ⟨r.1, by have := r.2.1; have := X3.next; omega, r.2.2⟩
      simpa using hb3
    | whole f rest =>
      rw [hx] at hq
      obtain ⟨a1, n1, c1, rfl, o1, d1, q1, x1⟩ := hq
      obtain ⟨hl, hwb⟩ := nextF_whole hx
      obtain ⟨wf, wr⟩ := hwb t.w
      obtain ⟨k', rfl⟩ : ∃ k', k = k' + 1 := ⟨k - 1, by have := t.le; omega⟩
      simp only [splitF, hx] at hsp
      refine Wops_run rfl rfl (Wops_run rfl rfl (Wops_run rfl rfl (Wops_run rfl rfl (Wops_run rfl rfl (Wops_run rfl rfl (Wops_run rfl rfl (K_fin [(0, _), (4, _), (6, _), (7, _), (8, _)] rfl (?_))))))))
      refine K_ss (K_reg (Wops_run rfl rfl (K_fin [(0, _), (4, _), (6, _), (7, _), (37, _)] rfl (?_))))
      refine K_scond rfl (fun hc => by cases hc) (fun _ => ?_)
      refine K_sskip (K_ss (K_reg (Wops_run rfl rfl (Wops_run rfl rfl (K_fin [(0, _), (4, _), (6, _), (47, _)] rfl (?_))))))
      refine K_scond rfl (fun hc => by cases hc) (fun _ => ?_)
      refine K_sskip (K_last (Wops_run rfl rfl (Wops_run rfl rfl (Wops_bslice (l := [.slice a1 n1 c1]) rfl rfl fun h2 n2 x2 g2 => ?_))))
      have hp : ¬ Blk af p := fun r => by have := t.nw p r; omega
      refine Wops_app rfl rfl ((t.o.ext x1 fun i r e => hp (by rw [← e]; exact r)).ext x2) rfl (SlA.mk' (n := 1) (c := 1) (off := 0) g2 (by simp) (.inr (.inr rfl))).first ⟨by omega, by omega⟩ rfl rfl (by decide) fun h3 a3 c3 x3 o3 b3 => ?_
      refine Wops_run rfl rfl (K_finL [(0, _), (4, _)] rfl (?_))
      have := t.le
      exact ⟨k', by omega, rest, fs ++ [f], a3, nf + 1, c3, _, rfl, by rw [hsp]; simp, t.push (x1.then0 x2) (q1.ext0 x2) wr (o1.ext x2) d1 x3 o3 b3 (by omega) (by omega)⟩

end
section
/- Frames: New, Bad, Put; however bytes are cut. -/
set_option linter.unusedVariables false
set_option linter.unusedSimpArgs false

def addR (bs : List Int) (bad : Bool) (ys : List Int) : List (List Int) × List Int × Bool × Int :=
  if bad = true then ([], bs, true, 4) else ((splitF (bs ++ ys).length (bs ++ ys)).1, (splitF (bs ++ ys).length (bs ++ ys)).2.1, (splitF (bs ++ ys).length (bs ++ ys)).2.2, if (splitF (bs ++ ys).length (bs ++ ys)).2.2 = true then 4 else 0)
theorem Byte.app {xs ys : List Int} (a : Byte xs) (b : Byte ys) : Byte (xs ++ ys) := fun x hx => (List.mem_append.1 hx).elim (a x) (b x)
theorem splitF_facts : ∀ (k : Nat) (bs : List Int), (splitF k bs).2.1.length ≤ bs.length ∧ (Byte bs → (∀ f ∈ (splitF k bs).1, Byte f) ∧ Byte (splitF k bs).2.1)
  | 0, bs => ⟨Nat.le_refl _, fun w => ⟨fun f hf => (by cases hf), w⟩⟩
  | k + 1, bs => by
    simp only [splitF]
    cases hx : nextF bs with
    | short => exact ⟨Nat.le_refl _, fun w => ⟨fun f hf => (by cases hf), w⟩⟩
    | long => exact ⟨Nat.zero_le _, fun w => ⟨fun f hf => (by cases hf), fun x hx => (by cases hx)⟩⟩
    | whole f rest =>
      obtain ⟨h1, h2⟩ := nextF_whole hx
      obtain ⟨i1, i2⟩ := splitF_facts k rest
      refine ⟨by simp only; omega, fun w => ?_⟩
      obtain ⟨wf, wr⟩ := h2 w
      refine ⟨fun g hg => ?_, (i2 wr).2⟩
      rcases List.mem_cons.1 hg with rfl | hg
      · exact wf
      · exact (i2 wr).1 g hg

theorem addR_facts {bs ys : List Int} (bad : Bool) (w : Byte bs) (wy : Byte ys) : (addR bs bad ys).2.1.length ≤ bs.length + ys.length ∧ (∀ f ∈ (addR bs bad ys).1, Byte f) ∧ Byte (addR bs bad ys).2.1 := by
  unfold addR
  split
  · exact ⟨Nat.le_add_right _ _, fun f hf => (by cases hf), w⟩
  · obtain ⟨h1, h2⟩ := splitF_facts (bs ++ ys).length (bs ++ ys)
    obtain ⟨h3, h4⟩ := h2 (w.app wy)
    exact ⟨by simp only [List.length_append] at h1 ⊢; exact h1, h3, h4⟩

def AddPost (M : Nat → Prop) (h : Heap) (p : Nat) (r : List (List Int) × List Int × Bool × Int) (v : Value) (h' : Heap) : Prop :=
  ∃ af nf cf vs, v = .tuple ⟨[.slice af nf cf, .int .i64 r.2.2.2]⟩ ∧ SlA h' 1 af nf cf vs ∧ Bys h' .u8 (fun i => h.next ≤ i ∧ i < h'.next) vs r.1 ∧ (∀ i, Blk af i → h.next ≤ i ∧ i < h'.next) ∧ Pt M h' p r.2.1 r.2.2.1 ∧ Ext (· = p) h h'

theorem AddPost.of {M : Nat → Prop} {h : Heap} {p : Nat} {bs ys : List Int} {bad : Bool} (q : Pt M h p bs bad) {v : Value} {h' : Heap} (hp : if bad = true then v = .tuple ⟨[.slice none 0 0, .int .i64 4]⟩ ∧ h = h' else ∃ af nf cf vs,
      v = .tuple ⟨[.slice af nf cf, .int .i64 (if (splitF (bs ++ ys).length (bs ++ ys)).2.2 = true then 4 else 0)]⟩ ∧ OwS h' 1 af nf cf vs ∧ Bys h' .u8 (Fs h h' af) vs (splitF (bs ++ ys).length (bs ++ ys)).1 ∧ (∀ i, Blk af i → h.next ≤ i) ∧
      Pt M h' p (splitF (bs ++ ys).length (bs ++ ys)).2.1 (splitF (bs ++ ys).length (bs ++ ys)).2.2 ∧ Ext (· = p) h h') : AddPost M h p (addR bs bad ys) v h' := by
  unfold addR
  cases bad with
  | true =>
    rw [if_pos rfl] at hp ⊢
    obtain ⟨rfl, rfl⟩ := hp
    exact ⟨none, 0, 0, [], rfl, SlA.none, trivial, fun i r => absurd r Blk.none, q, Ext.refl _ _⟩
  | false =>
    rw [if_neg (by simp)] at hp ⊢
    obtain ⟨af, nf, cf, vs, rfl, o, b, n, q', x⟩ := hp
    exact ⟨af, nf, cf, vs, rfl, o.sl, b.mono fun i r => ⟨r.1, r.2.1⟩, fun i r => ⟨n i r, o.lt r⟩, q', x⟩

theorem C70' {M : Nat → Prop} {h : Heap} {p nb cb : Nat} {ab : Option Addr} {bs ys : List Int} {bad : Bool} (hM : ∀ i, M i → i < h.next) (q : Pt M h p bs bad) (hw : Byte bs) (sy : InS h ab nb cb (ints .u8 ys)) (hwy : Byte ys)
    (hb : bs.length ≤ 100000) (hb2 : ys.length ≤ 100000) : Fn Try.prog 70 [ptr p, .slice ab nb cb] h (AddPost M h p (addR bs bad ys)) :=
  (C70 hM q hw sy.sl sy.lt hwy hb hb2).mono fun v h' => AddPost.of q
theorem splitF_nil (k : Nat) : splitF k [] = ([], [], false) := by cases k <;> rfl
theorem C66 {h : Heap} : Fn Try.prog 66 [] h fun v h' => ∃ p, v = ptr p ∧ At h' p (.cells [.slice none 0 0, .bool false] 0 false) ∧ Ext0 h h' ∧ h.next ≤ p := by
  refine fnK F66.fok rfl ?_
  refine K_reg (Wops_run rfl rfl (K_fin [] rfl (?_)))
  refine K_reg (Wops_run rfl rfl (Wops_box rfl rfl fun h1 n1 x1 g1 => ?_))
  refine Wops_run rfl rfl (K_fin [(0, _)] rfl (?_))
  exact K_ret (Told.mk _ rfl ⟨h.next, rfl, g1, x1, Nat.le_refl _⟩)

theorem C69 {M : Nat → Prop} {h : Heap} {p : Nat} {bs : List Int} {bad : Bool} (q : Pt M h p bs bad) : Fn Try.prog 69 [ptr p] h fun v h' => v = .bool bad ∧ h = h' := by
  obtain ⟨mp, a, n, c, g, s, ha⟩ := q
  refine fnK F69.fok rfl ?_
  refine K_reg (Wops_run rfl rfl (K_fin [(0, _)] rfl (?_)))
  refine K_reg (Wops_run rfl rfl (Wops_run rfl rfl (Wops_run rfl rfl (Wops_go rfl (Wops_run rfl rfl (Wops_go rfl (Wops_run rfl rfl (Wops_go rfl (Wops_run rfl rfl (Wops_go rfl (Wops_ld rfl g (by rfl) ?_)))))))))))
  refine Wops_run rfl rfl (Wops_run rfl rfl (K_fin [(2, _)] rfl (?_)))
  exact K_ret (Told.mk _ rfl ⟨rfl, rfl⟩)
def putF (bs : List Int) : List Int := ((bs.length / 256 : Nat) : Int) :: ((bs.length % 256 : Nat) : Int) :: bs
theorem putF_length (bs : List Int) : (putF bs).length = bs.length + 2 := rfl
theorem putF_byte {bs : List Int} (w : Byte bs) (hb : bs.length ≤ 5000) : Byte (putF bs) := by
  intro x hx
  simp only [putF, List.mem_cons] at hx
  rcases hx with rfl | rfl | hx
  · omega
  · omega
  · exact w x hx
theorem nextF_put {bs : List Int} (rest : List Int) (hb : bs.length ≤ 5000) : nextF (putF bs ++ rest) = .whole bs rest := by
  have h1 : ((bs.length / 256 : Nat) : Int) * 256 + ((bs.length % 256 : Nat) : Int) = bs.length := by omega
  simp only [putF, List.cons_append, nextF, h1]
  rw [if_neg (by omega), if_neg (by simp; omega)]
  simp
theorem nextF_put_take {bs : List Int} {k : Nat} (hk : k < (putF bs).length) (hb : bs.length ≤ 5000) : nextF ((putF bs).take k) = .short := by
  have h1 : ((bs.length / 256 : Nat) : Int) * 256 + ((bs.length % 256 : Nat) : Int) = bs.length := by omega
  rw [putF_length] at hk
  match k, hk with
  | 0, _ => rfl
  | 1, _ => rfl
  | k + 2, hk =>
    simp only [putF, List.take_succ_cons, nextF, h1]
    rw [if_neg (by omega), if_pos (by simp; omega)]

theorem wu8 {x : Int} (h : 0 ≤ x) : IntKind.wrap .u8 x = x % 256 := by
  simp [IntKind.wrap, IntKind.signed, IntKind.bits]

/-- frame.Put -/
theorem C71 {h : Heap} {a : Option Addr} {n c : Nat} {bs : List Int} (s : SlA h 1 a n c (ints .u8 bs)) (hb : n ≤ 5000) :
    Fn Try.prog 71 [.slice a n c] h fun v h' => ∃ a' c', v = .slice a' (2 + n) c' ∧ OwS h' 1 a' (2 + n) c' (ints .u8 (putF bs)) ∧ Ext0 h h' ∧ ∀ i, Blk a' i → h.next ≤ i ∧ i < h'.next := by
  have hn : bs.length = n := by simpa using s.len
  refine fnK F71.fok rfl ?_
  refine K_reg (Wops_run rfl rfl (K_fin [(0, _)] rfl (?_)))
  refine K_reg (Wops_run rfl rfl (Wops_run rfl rfl (Wops_run rfl rfl (K_fin [(0, _), (3, _)] rfl (?_)))))
  refine K_ss (K_reg (Wops_run rfl rfl (Wops_run rfl rfl (K_fin [(0, _), (3, _), (7, _)] rfl (?_)))))
  refine K_scond rfl (fun hc => by have := of_decide_eq_true hc; omega) (fun _ => ?_)
  refine K_sskip (K_reg (Wops_run rfl rfl (Wops_run rfl rfl (Wops_as (w := .int .u8 ((bs.length / 256 : Nat) : Int)) rfl rfl (by
    show Value.int .u8 (IntKind.wrap .u8 (Int.fdiv (n : Int) (2 ^ 8))) = _
    rw [Int.fdiv_eq_ediv_of_nonneg _ (by omega), wu8 (by omega), hn]
    congr 1; omega) (Wops_run rfl rfl (Wops_as (w := .int .u8 ((bs.length % 256 : Nat) : Int)) rfl rfl (by rw [wu8 (by omega), hn]; congr 1) ?_))))))
  refine Wops_bslice (l := [.int .u8 ((bs.length / 256 : Nat) : Int), .int .u8 ((bs.length % 256 : Nat) : Int)]) rfl rfl fun h1 n1 x1 g1 => ?_
  refine Wops_run rfl rfl (Wops_app rfl rfl (OwS.new (n := 2) g1 rfl) rfl (s.ext x1).first ⟨by omega, by omega⟩ s.len (ints_cell _ _) (by decide) fun h2 a2 c2 x2 o2 b2 => ?_)
  refine Wops_run rfl rfl (K_fin [(2, _)] rfl (?_))
  refine K_ret (Told.mk _ rfl ⟨a2, c2, rfl, by simpa [ints, putF] using o2, x1.then x2 fun i r => .inr (by rw [Blk.at] at r; omega), fun i r => ⟨?_, o2.lt r⟩⟩)
  rcases b2 i r with r | r
  · rw [Blk.at] at r; omega
  · omega
theorem nextF_app_long {xs : List Int} (ys : List Int) (h : nextF xs = .long) : nextF (xs ++ ys) = .long := by
  match xs, h with
  | [], h => simp [nextF] at h
  | [_], h => simp [nextF] at h
  | b0 :: b1 :: r, h =>
    simp only [nextF] at h
    split at h
    · rename_i h1; simp only [List.cons_append, nextF, if_pos h1]
    · split at h <;> cases h
theorem nextF_app_whole {xs f r : List Int} (ys : List Int) (h : nextF xs = .whole f r) : nextF (xs ++ ys) = .whole f (r ++ ys) := by
  match xs, h with
  | [], h => simp [nextF] at h
  | [_], h => simp [nextF] at h
  | b0 :: b1 :: q, h =>
    simp only [nextF] at h
    split at h
    · cases h
    · rename_i h1
      split at h
      · cases h
      · rename_i h2
        cases h
        simp only [List.cons_append, nextF]
        rw [if_neg h1, if_neg (by simp; omega), List.take_append_of_le_length (by omega), List.drop_append_of_le_length (by omega)]
theorem splitF_fuel : ∀ (k m : Nat) (bs : List Int), bs.length ≤ k → bs.length ≤ m → splitF k bs = splitF m bs
  | 0, m, bs, h, _ => by
    have : bs = [] := List.eq_nil_of_length_eq_zero (by omega)
    subst this; rw [splitF_nil, splitF_nil]
  | k + 1, 0, bs, _, h => by
    have : bs = [] := List.eq_nil_of_length_eq_zero (by omega)
    subst this; rw [splitF_nil, splitF_nil]
  | k + 1, m + 1, bs, hk, hm => by
    simp only [splitF]
    cases hx : nextF bs with
    | short => rfl
    | long => rfl
    | whole f r =>
      have := (nextF_whole hx).1
      simp only [splitF_fuel k m r (by omega) (by omega)]
def sp (bs : List Int) : List (List Int) × List Int × Bool := splitF bs.length bs
theorem sp_eq {k : Nat} {bs : List Int} (h : bs.length ≤ k) : splitF k bs = sp bs := splitF_fuel _ _ _ h (Nat.le_refl _)
theorem sp_whole {bs f r : List Int} (h : nextF bs = .whole f r) : sp bs = (f :: (sp r).1, (sp r).2) := by
  have h1 := (nextF_whole h).1
  rw [← sp_eq (k := (bs.length - 1) + 1) (by omega)]
  simp only [splitF, h, sp_eq (show r.length ≤ bs.length - 1 by omega)]
theorem sp_long {bs : List Int} (h : nextF bs = .long) : sp bs = ([], [], true) := by
  have h1 := nextF_long h
  rw [← sp_eq (k := (bs.length - 1) + 1) (by omega)]
  simp only [splitF, h]
theorem sp_short {bs : List Int} (h : nextF bs = .short) : sp bs = ([], bs, false) := splitF_short h
/-- Cut anywhere. -/
theorem sp_app (ys : List Int) : ∀ (k : Nat) (xs : List Int), xs.length ≤ k → if (sp xs).2.2 = true then (sp (xs ++ ys)).2.2 = true else nextF (sp xs).2.1 = .short ∧ sp (xs ++ ys) = ((sp xs).1 ++ (sp ((sp xs).2.1 ++ ys)).1, (sp ((sp xs).2.1 ++ ys)).2)
  | 0, xs, h => by
    have : xs = [] := List.eq_nil_of_length_eq_zero (by omega)
    subst this
    rw [show sp [] = ([], [], false) from rfl, if_neg (by simp)]
    exact ⟨rfl, by simp⟩
  | k + 1, xs, h => by
    cases hx : nextF xs with
    | short => rw [sp_short hx, if_neg (by simp)]; exact ⟨hx, by simp⟩
    | long => rw [sp_long hx, if_pos rfl, sp_long (nextF_app_long ys hx)]
    | whole f r =>
      have h1 := (nextF_whole hx).1
      have ih := sp_app ys k r (by omega)
      rw [sp_whole hx, sp_whole (nextF_app_whole ys hx)]
      simp only
      split
      · rename_i hb; rw [if_pos hb] at ih; exact ih
      · rename_i hb; rw [if_neg hb] at ih; exact ⟨ih.1, by rw [ih.2]; simp⟩
def puts (ls : List (List Int)) : List Int := ls.flatMap putF
theorem sp_puts : ∀ (ls : List (List Int)), (∀ l ∈ ls, l.length ≤ 5000) → sp (puts ls) = (ls, [], false)
  | [], _ => rfl
  | l :: ls, h => by
    show sp (putF l ++ puts ls) = _
    rw [sp_whole (nextF_put (puts ls) (h l (by simp))), sp_puts ls (fun l hl => h l (by simp [hl]))]
theorem puts_snoc (ls : List (List Int)) (l : List Int) : puts (ls ++ [l]) = puts ls ++ putF l := by simp [puts]
theorem puts_len : ∀ (ls : List (List Int)), (∀ l ∈ ls, l.length ≤ 40) → (puts ls).length ≤ ls.length * 42
  | [], _ => Nat.le_refl _
  | l :: ls, h => by
    show (putF l ++ puts ls).length ≤ _
    have := puts_len ls (fun l hl => h l (by simp [hl]))
    have := h l (by simp)
    rw [List.length_append, putF_length, List.length_cons]; omega
theorem puts_byte : ∀ (ls : List (List Int)), (∀ l ∈ ls, Byte l ∧ l.length ≤ 40) → Byte (puts ls)
  | [], _ => fun x hx => by cases hx
  | l :: ls, h => (putF_byte (h l (by simp)).1 (by have := (h l (by simp)).2; omega)).app (puts_byte ls fun l hl => h l (by simp [hl]))
/-- What came of pieces, and what is still to come. -/
structure Cut (ls : List (List Int)) (fs : List (List Int)) (bs cur : List Int) : Prop where
  short : nextF bs = .short
  ex : ∃ gs, sp (bs ++ cur) = (gs, [], false) ∧ fs ++ gs = ls
theorem Cut.step {ls fs : List (List Int)} {bs cur : List Int} (t : Cut ls fs bs cur) (n : Nat) : ∃ f1 bs', addR bs false (cur.take n) = (f1, bs', false, 0) ∧ Cut ls (fs ++ f1) bs' (cur.drop n) ∧ (f1.length ≤ ls.length) := by
  obtain ⟨hs, gs, h1, h2⟩ := t
  have h3 := sp_app (cur.drop n) _ (bs ++ cur.take n) (Nat.le_refl _)
  rw [List.append_assoc, List.take_append_drop, h1] at h3
  split at h3
  · cases h3
  · rename_i hb
    simp only [Bool.not_eq_true] at hb
    obtain ⟨q1, q2⟩ := h3
    have q3 : gs = (sp (bs ++ cur.take n)).1 ++ (sp ((sp (bs ++ cur.take n)).2.1 ++ cur.drop n)).1 := congrArg Prod.fst q2
    have q4 : (([] : List Int), false) = (sp ((sp (bs ++ cur.take n)).2.1 ++ cur.drop n)).2 := congrArg Prod.snd q2
    refine ⟨(sp (bs ++ cur.take n)).1, (sp (bs ++ cur.take n)).2.1, ?_, ⟨q1, (sp ((sp (bs ++ cur.take n)).2.1 ++ cur.drop n)).1, ?_, ?_⟩, ?_⟩
    · unfold addR
      rw [if_neg (by simp), ← sp, hb]; rfl
    · rw [q4]
    · rw [List.append_assoc, ← q3, h2]
    · rw [← h2, q3]; simp only [List.length_append]; omega
theorem Cut.start {ls : List (List Int)} (h : ∀ l ∈ ls, l.length ≤ 5000) : Cut ls [] [] (puts ls) := ⟨rfl, ls, by rw [List.nil_append]; exact sp_puts ls h, rfl⟩
theorem Cut.stop {ls fs : List (List Int)} {bs : List Int} (t : Cut ls fs bs []) : fs = ls ∧ bs = [] := by
  obtain ⟨hs, gs, h1, h2⟩ := t
  rw [List.append_nil, sp_short hs] at h1
  simp only [Prod.mk.injEq] at h1
  obtain ⟨rfl, rfl, _⟩ := h1
  exact ⟨by simpa using h2, rfl⟩

end
section
/- Sessions: New, Feed. -/
set_option linter.unusedVariables false
set_option linter.unusedSimpArgs false

abbrev nat (f : List Int) : List Nat := f.map Int.toNat
theorem nat_byte {f : List Int} (h : Byte f) : ∀ x ∈ nat f, x < 256 := by
  intro x hx
  obtain ⟨y, hy, rfl⟩ := List.mem_map.1 hx
  have := h y hy; omega
theorem ints_nat8 {f : List Int} (h : Byte f) : ints .u8 f = bys (nat f) := by
  unfold ints
  exact ints_nat fun x hx => (h x hx).1
/-- A request as it lies in a list. -/
structure Qm where
  r : Rq
  ba : Option Addr
  bc : Nat
  aa : Option Addr
  ac : Nat
def Qm.enc (x : Qm) : List Value := RqV x.r x.ba x.r.body.length x.bc x.aa x.r.args.length x.ac
theorem Qm.enc_len (x : Qm) : x.enc.length = 8 := rfl
def qsL (xs : List Qm) : List Value := xs.flatMap Qm.enc
def Rq.By (r : Rq) : Prop := (∀ x ∈ r.name, x < 256) ∧ (∀ x ∈ r.body, x < 256) ∧ r.args.length ≤ 8
def Qm.In (h : Heap) (S : Nat → Prop) (x : Qm) : Prop :=
  SlA h 1 x.ba x.r.body.length x.bc (bys x.r.body) ∧ SlA h 1 x.aa x.r.args.length x.ac (u64s x.r.args) ∧ (∀ i, Blk x.ba i → S i) ∧ (∀ i, Blk x.aa i → S i) ∧ x.r.By
theorem Qm.In.ext {h h' : Heap} {S T : Nat → Prop} {x : Qm} (q : x.In h S) (e : Ext T h h') (d : ∀ i, S i → ¬ T i) : x.In h' S :=
  ⟨q.1.ext e fun i r => d i (q.2.2.1 i r), q.2.1.ext e fun i r => d i (q.2.2.2.1 i r), q.2.2⟩
theorem Qm.In.mono {h : Heap} {S T : Nat → Prop} {x : Qm} (q : x.In h S) (d : ∀ i, S i → T i) : x.In h T :=
  ⟨q.1, q.2.1, fun i r => d i (q.2.2.1 i r), fun i r => d i (q.2.2.2.1 i r), q.2.2.2.2⟩
def erL (e : Int) : List Value := [.int .u64 0, .int .i64 e, .int .u64 0, .slice none 0 0]
def ersL (es : List Int) : List Value := es.flatMap erL
theorem erL_len (e : Int) : (erL e).length = 4 := rfl
theorem By.zero : Rq.zero.By := ⟨(fun x h => by cases h), (fun x h => by cases h), Nat.zero_le _⟩
theorem takeQ_By {xs : List Nat} (hx : ∀ x ∈ xs, x < 256) : (takeQ xs).1.By := by
  unfold takeQ
  split
  · exact By.zero
  · have hK : Les (xs, 0) (kindS (xs, 0)).2 := (fixed_les 1 (xs, 0)).1.tr (Les.fail _ _ _)
    have hF := fixed_les 8 (kindS (xs, 0)).2
    have hL := hK.tr hF.1
    unfold allS
    have hb : ∀ x ∈ (fixedS 8 (kindS (xs, 0)).2).2.1, x < 256 := fun x h => hx x (hL.1 x h)
    generalize (fixedS 8 (kindS (xs, 0)).2).2 = s at hb ⊢
    generalize (kindS (xs, 0)).1 = k
    have A := name_les s
    have N := number_les s hb
    have A2 := name_les (numberS s).2
    have hx2 : ∀ x ∈ (numberS s).2.1, x < 256 := fun x h => hb x (N.1.1 x h)
    have hx3 : ∀ x ∈ (nameS (numberS s).2).2.1, x < 256 := fun x h => hx2 x (A2.1.1 x h)
    have V := numbers_les (nameS (numberS s).2).2 hx3
    have Bb := bytes_les s.1.length s
    have nb : ∀ x ∈ ([] : List Nat), x < 256 := fun x h => by cases h
    unfold bodyS
    split
    · exact ⟨nb, fun x h => hb x (Bb.2.1 x h), Nat.zero_le _⟩
    · exact ⟨fun x h => hx2 x (A2.2.1 x h), nb, Nat.zero_le _⟩
    · exact ⟨fun x h => hb x (A.2.1 x h), nb, Nat.zero_le _⟩
    · exact ⟨fun x h => hx2 x (A2.2.1 x h), nb, V.2.2⟩
    · exact ⟨nb, nb, Nat.zero_le _⟩
    · exact ⟨nb, nb, Nat.zero_le _⟩
    · exact ⟨nb, nb, Nat.zero_le _⟩

/-- What is asked of frames, and what is told at once. -/
def asks (fs : List (List Int)) (e : Int) : List (Rq × Int) := fs.map (fun f => takeQ (nat f)) ++ if e ≠ 0 then [(Rq.zero, e)] else []
/-- A session. -/
def Se (M : Nat → Prop) (h : Heap) (p pp : Nat) (bs : List Int) (bad : Bool) : Prop :=
  (∃ rest, At h p (.cells (ptr pp :: rest) 0 false)) ∧ p ≠ pp ∧ Pt M h pp bs bad
theorem Se.ext {M : Nat → Prop} {h h' : Heap} {T : Nat → Prop} {p pp : Nat} {bs : List Int} {bad : Bool} (q : Se M h p pp bs bad) (x : Ext T h h') (hp : ¬ T p) (hpp : ¬ T pp) (d : ∀ i, T i → M i ∨ h.next ≤ i) : Se M h' p pp bs bad := by
  obtain ⟨⟨rest, g⟩, n, m, a, k, c, h1, h2, h3⟩ := q
  exact ⟨⟨rest, g.ext x hp⟩, n, m, a, k, c, h1.ext x hpp, h2.ext x (fun i r t => (d i t).elim (h3 i r).1 fun w => by have := (h3 i r).2; omega), fun i r => ⟨(h3 i r).1, Nat.lt_of_lt_of_le (h3 i r).2 x.next⟩⟩
theorem Se.ext0 {M : Nat → Prop} {h h' : Heap} {p pp : Nat} {bs : List Int} {bad : Bool} (q : Se M h p pp bs bad) (x : Ext0 h h') : Se M h' p pp bs bad := q.ext x (fun r => r) (fun r => r) fun _ r => r.elim
theorem Se.swap {M M' : Nat → Prop} {h : Heap} {p pp : Nat} {bs : List Int} {bad : Bool} (q : Se M h p pp bs bad) (hs : ∀ i, M' i → M i ∨ h.next ≤ i) (hp : M' pp) : Se M' h p pp bs bad := ⟨q.1, q.2.1, q.2.2.swap hs hp⟩
theorem Se.lt {M : Nat → Prop} {h : Heap} {p pp : Nat} {bs : List Int} {bad : Bool} (q : Se M h p pp bs bad) : p < h.next ∧ pp < h.next := by
  obtain ⟨⟨rest, g⟩, n, m, a, k, c, h1, h2, h3⟩ := q
  exact ⟨g.lt, h1.lt⟩

/-- handle.New -/
theorem C67 {h : Heap} : Fn Try.prog 67 [] h fun v h' => ∃ p, v = ptr p ∧ Ext0 h h' ∧ h.next ≤ p := by
  refine fnK F67.fok rfl ?_
  refine K_reg (Wops_run rfl rfl (K_fin [] rfl (?_)))
  refine K_reg (Wops_run (h' := h.add (.map [])) rfl rfl ?_)
  refine Wops_run rfl rfl (Wops_box (cs := [.map (some h.next), .int .u64 0]) rfl rfl fun h1 n1 x1 g1 => ?_)
  refine Wops_run rfl rfl (K_fin [(0, _)] rfl (?_))
  exact K_ret (Told.mk _ rfl ⟨_, rfl, (Ext.add _ _).trans x1, by rw [Heap.next_add]; omega⟩)
/-- token.New -/
theorem C68 {h : Heap} : Fn Try.prog 68 [] h fun v h' => ∃ p, v = ptr p ∧ Ext0 h h' ∧ h.next ≤ p := by
  refine fnK F68.fok rfl ?_
  refine K_reg (Wops_run rfl rfl (K_fin [] rfl (?_)))
  refine K_reg (Wops_run rfl rfl (Wops_box (cs := [.slice none 0 0]) rfl rfl fun h1 n1 x1 g1 => ?_))
  refine Wops_run rfl rfl (K_fin [(0, _)] rfl (?_))
  exact K_ret (Told.mk _ rfl ⟨h.next, rfl, x1, Nat.le_refl _⟩)
/-- sess.New -/
theorem C29 {h : Heap} {id : Int} : Fn Try.prog 29 [.int .i64 id] h fun v h' => ∃ p pp, v = ptr p ∧ Se (· = pp) h' p pp [] false ∧ Ext0 h h' ∧ h.next ≤ p ∧ h.next ≤ pp := by
  refine fnK F29.fok rfl ?_
  refine K_reg (Wops_run rfl rfl (K_fin [] rfl (?_)))
  refine K_reg (Wops_call rfl C66 ?_)
  rintro _ h1 ⟨p1, rfl, g1, x1, l1⟩
  refine Wops_call rfl C67 ?_
  rintro _ h2 ⟨p2, rfl, x2, l2⟩
  refine Wops_call rfl C68 ?_
  rintro _ h3 ⟨p3, rfl, x3, l3⟩
  refine Wops_run rfl rfl (Wops_run rfl rfl (Wops_box (cs := [ptr p1, ptr p2, ptr p3, .slice none 0 0]) rfl rfl fun h4 n4 x4 g4 => ?_))
  refine Wops_run rfl rfl (K_fin [(2, _)] rfl (?_))
  have z1 := x1.next
  have z2 := x2.next
  have z3 := x3.next
  have hl := g1.lt
  have g14 := ((g1.ext x2).ext x3).ext x4
  exact K_ret (Told.mk _ rfl ⟨h3.next, p1, rfl, ⟨⟨_, g4⟩, by omega, rfl, none, 0, 0, g14, SlA.none, fun i r => absurd r Blk.none⟩, ((x1.trans x2).trans x3).trans x4, by omega, l1⟩)

/-- What Feed has so far. -/
structure Fd (h0 h : Heap) (la : Option Addr) (lc : Nat) (ea : Option Addr) (ec : Nat) (xs : List Qm) (es : List Int) : Prop where
  n : h0.next ≤ h.next
  l : OwS h 8 la xs.length lc (qsL xs)
  e : OwS h 4 ea es.length ec (ersL es)
  ll : ∀ i, Blk la i → h0.next ≤ i
  el : ∀ i, Blk ea i → h0.next ≤ i
  d : ∀ i, Blk la i → ¬ Blk ea i
  q : ∀ x ∈ xs, x.In h fun i => h0.next ≤ i ∧ i < h.next ∧ ¬ Blk la i ∧ ¬ Blk ea i
theorem Fd.ext {h0 h h' : Heap} {la ea : Option Addr} {lc ec : Nat} {xs : List Qm} {es : List Int} (f : Fd h0 h la lc ea ec xs es) {T : Nat → Prop} (x : Ext T h h') (d : ∀ i, T i → i < h0.next ∨ h.next ≤ i) : Fd h0 h' la lc ea ec xs es := by
  have z := x.next
  refine ⟨Nat.le_trans f.n z, f.l.ext x fun i r t => ?_, f.e.ext x fun i r t => ?_, f.ll, f.el, f.d, fun y hy => ((f.q y hy).ext x fun i r t => ?_).mono fun i r => ⟨r.1, by have := r.2.1; omega, r.2.2⟩⟩
  · have := f.l.lt r; have := f.ll i r; have := d i t; omega
  · have := f.e.lt r; have := f.el i r; have := d i t; omega
  · have := r.1; have := r.2.1; have := d i t; omega
theorem Fd.start (h : Heap) : Fd h h none 0 none 0 [] [] := ⟨Nat.le_refl _, OwS.none, OwS.none, fun i r => absurd r Blk.none, fun i r => absurd r Blk.none, fun i r => absurd r Blk.none, fun x hx => by cases hx⟩
theorem qsL_snoc (xs : List Qm) (x : Qm) : qsL (xs ++ [x]) = qsL xs ++ x.enc := by simp [qsL]
theorem ersL_snoc (es : List Int) (e : Int) : ersL (es ++ [e]) = ersL es ++ erL e := by simp [ersL]

end
section
/- Sessions: Feed. -/
set_option linter.unusedVariables false
set_option linter.unusedSimpArgs false

/-- One more request, one more reply: in place, or elsewhere. -/
theorem Fd.step {h0 h : Heap} {la ea : Option Addr} {lc ec : Nat} {xs : List Qm} {es : List Int} (f : Fd h0 h la lc ea ec xs es) {x : Qm} {e : Int} {h1 h2 h3 h4 : Heap} {la' ea' : Option Addr} {lc' ec' : Nat}
    (hx : x.In h fun i => h0.next ≤ i ∧ i < h.next ∧ ¬ Blk la i ∧ ¬ Blk ea i) (x1 : Ext0 h h1) (x2 : Ext (Blk la) h1 h2) (o2 : OwS h2 8 la' (xs.length + 1) lc' (qsL xs ++ x.enc)) (b2 : ∀ i, Blk la' i → Blk la i ∨ h1.next ≤ i)
    (x3 : Ext0 h2 h3) (x4 : Ext (Blk ea) h3 h4) (o4 : OwS h4 4 ea' (es.length + 1) ec' (ersL es ++ erL e)) (b4 : ∀ i, Blk ea' i → Blk ea i ∨ h3.next ≤ i) : Fd h0 h4 la' lc' ea' ec' (xs ++ [x]) (es ++ [e]) := by
  have z0 := f.n
  have z1 := x1.next
  have z2 := x2.next
  have z3 := x3.next
  have z4 := x4.next
  have hl : (xs ++ [x]).length = xs.length + 1 := by simp
  have he : (es ++ [e]).length = es.length + 1 := by simp
  have lel : ∀ i, Blk la i → i < h.next := fun i r => f.l.lt r
  have eel : ∀ i, Blk ea i → i < h.next := fun i r => f.e.lt r
  have dd : ∀ i, Blk la' i → ¬ Blk ea i := fun i r q => (b2 i r).elim (fun r => f.d i r q) fun r => by have := eel i q; omega
  refine ⟨by omega, ?_, ?_, fun i r => (b2 i r).elim (f.ll i) fun r => by omega, fun i r => (b4 i r).elim (f.el i) fun r => by omega, fun i r q => (b4 i q).elim (dd i r) fun q => by have := o2.lt r; omega, fun y hy => ?_⟩
  · rw [hl, qsL_snoc]; exact (o2.ext x3).ext x4 dd
  · rw [he, ersL_snoc]; exact o4
  · have hy' : y.In h fun i => h0.next ≤ i ∧ i < h.next ∧ ¬ Blk la i ∧ ¬ Blk ea i := by
      rcases List.mem_append.1 hy with hy | hy
      · exact f.q y hy
      · rw [List.mem_singleton] at hy; rw [hy]; exact hx
    refine ((((hy'.ext x1 fun i r => fun z => z).ext x2 fun i r => r.2.2.1).ext x3 fun i r => fun z => z).ext x4 fun i r => r.2.2.2).mono fun i r => ⟨r.1, by have := r.2.1; omega, fun w => ?_, fun w => ?_⟩
    · rcases b2 i w with w | w
      · exact r.2.2.1 w
      · have := r.2.1; omega
    · rcases b4 i w with w | w
      · exact r.2.2.2 w
      · have := r.2.1; omega

theorem Fd.weak {h0 h1 h : Heap} {la ea : Option Addr} {lc ec : Nat} {xs : List Qm} {es : List Int} (f : Fd h1 h la lc ea ec xs es) (z : h0.next ≤ h1.next) : Fd h0 h la lc ea ec xs es :=
  ⟨Nat.le_trans z f.n, f.l, f.e, fun i r => Nat.le_trans z (f.ll i r), fun i r => Nat.le_trans z (f.el i r), f.d, fun x hx => (f.q x hx).mono fun i r => ⟨Nat.le_trans z r.1, r.2⟩⟩
theorem nextF_len {bs f r : List Int} (h : nextF bs = .whole f r) : f.length ≤ bs.length ∧ r.length + 2 ≤ bs.length := by
  match bs, h with
  | [], h => simp [nextF] at h
  | [_], h => simp [nextF] at h
  | b0 :: b1 :: q, h =>
    simp only [nextF] at h
    split at h
    · cases h
    · split at h
      · cases h
      · cases h
        simp only [List.length_take, List.length_drop, List.length_cons]
        omega
theorem splitF_len : ∀ (k : Nat) (bs : List Int), (splitF k bs).1.length ≤ bs.length ∧ ∀ f ∈ (splitF k bs).1, f.length ≤ bs.length
  | 0, bs => ⟨Nat.zero_le _, fun f hf => by cases hf⟩
  | k + 1, bs => by
    simp only [splitF]
    cases hx : nextF bs with
    | short => exact ⟨Nat.zero_le _, fun f hf => by cases hf⟩
    | long => exact ⟨Nat.zero_le _, fun f hf => by cases hf⟩
    | whole f r =>
      have h1 := nextF_len hx
      have ih := splitF_len k r
      refine ⟨by simp only [List.length_cons]; omega, fun g hg => ?_⟩
      rcases List.mem_cons.1 hg with rfl | hg
      · exact h1.1
      · have := ih.2 g hg; omega
theorem addR_len (bs ys : List Int) : (addR bs false ys).1.length ≤ bs.length + ys.length ∧ ∀ f ∈ (addR bs false ys).1, f.length ≤ bs.length + ys.length := by
  have h := splitF_len (bs ++ ys).length (bs ++ ys)
  rw [List.length_append] at h
  unfold addR
  rw [if_neg (by simp)]
  simpa using h

set_option maxHeartbeats 2000000 in
/-- Feed -/
theorem C30 {M : Nat → Prop} {h : Heap} {p pp nb cb : Nat} {ab : Option Addr} {bs ys : List Int} {bad : Bool} (q : Se M h p pp bs bad) (hM : ∀ i, M i → i < h.next) (hw : Byte bs) (sy : InS h ab nb cb (ints .u8 ys)) (hwy : Byte ys) (hb : bs.length ≤ 50000) (hb2 : ys.length ≤ 50000) :
    Fn Try.prog 30 [ptr p, .slice ab nb cb] h fun v h' => if bad = true then v = .tuple ⟨[.slice none 0 0, .slice none 0 0]⟩ ∧ h = h' else
      Ext (· = pp) h h' ∧ Se M h' p pp (addR bs bad ys).2.1 (addR bs bad ys).2.2.1 ∧ ∃ la lc ea ec xs es, v = .tuple ⟨[.slice la xs.length lc, .slice ea es.length ec]⟩ ∧ Fd h h' la lc ea ec xs es ∧
        xs.map Qm.r = (asks (addR bs bad ys).1 (addR bs bad ys).2.2.2).map Prod.fst ∧ es = (asks (addR bs bad ys).1 (addR bs bad ys).2.2.2).map Prod.snd := by
  obtain ⟨⟨rest, g⟩, hne, hP⟩ := id q
  have hlt := q.lt
  refine fnK F30.fok rfl ?_
  refine K_reg (Wops_run rfl rfl (Wops_run rfl rfl (K_fin [(0, _), (1, _), (4, _), (5, _)] rfl (?_))))
  refine K_ss (K_reg (Wops_run rfl rfl (Wops_run rfl rfl (Wops_run rfl rfl (Wops_go rfl (Wops_run rfl rfl (Wops_go rfl (Wops_run rfl rfl (Wops_go rfl (Wops_run rfl rfl (Wops_go rfl (Wops_ld (v := ptr pp) rfl g rfl (Wops_go rfl (Wops_call rfl (C69 hP) ?_))))))))))))))
  rintro _ _ ⟨rfl, rfl⟩
  refine Wops_run rfl rfl (K_fin [(0, _), (1, _), (4, _), (5, _), (20, _)] rfl (?_))
  cases bad with
  | true =>
    refine K_scond rfl (fun _ => ?_) (fun hc => by cases hc)
    refine K_ss (K_reg (Wops_run rfl rfl (Wops_run rfl rfl (K_fin [(4, _), (5, _)] rfl (?_)))))
    refine K_sret (Told.mk _ rfl ?_)
    rw [if_pos rfl]; exact ⟨rfl, rfl⟩
  | false =>
    refine K_scond rfl (fun hc => by cases hc) (fun _ => ?_)
    refine K_sskip (K_reg (Wops_run rfl rfl (Wops_run rfl rfl (Wops_run rfl rfl (Wops_ld (v := ptr pp) rfl g rfl (Wops_run rfl rfl (Wops_call rfl (C70' hM hP hw sy hwy (by omega) (by omega)) ?_)))))))
    obtain ⟨hlen, hfb, hrb⟩ := addR_facts false hw hwy
    have hlenf := addR_len bs ys
    generalize addR bs false ys = R at hlen hfb hrb hlenf ⊢
    obtain ⟨fs, br, bad', er⟩ := R
    simp only [] at hlen hfb hrb hlenf ⊢
    rintro _ h1 ⟨af, nf, cf, vs, rfl, sf, bf, lf, hP1, x1⟩
    have z1 := x1.next
    have hvl : vs.length = fs.length := bf.length
    have hnf : vs.length = nf := by simpa using sf.len
    have q1 : Se M h1 p pp br bad' := ⟨⟨rest, g.ext x1 hne⟩, hne, hP1⟩
    refine Wops_run rfl rfl (Wops_run rfl rfl (Wops_run rfl rfl (Wops_run rfl rfl (Wops_run rfl rfl (K_fin [(4, _), (5, _), (6, _), (7, _)] rfl (?_))))))
    refine K_ss (K_reg (Wops_run rfl rfl (Wops_run rfl rfl (Wops_run rfl rfl (K_fin [(4, _), (5, _), (7, _), (30, _), (31, _), (32, _)] rfl (?_))))))
    refine K_sblock ?_
    refine K_loop (fun k e h' => ∃ (i : Nat) (la ea : Option Addr) (lc ec : Nat) (xs : List Qm) (es : List Int), e = [(4, .slice la xs.length lc), (5, .slice ea es.length ec), (7, .int .i64 er), (30, .slice af nf cf), (31, .int .i64 (nf : Int)), (32, .int .i64 (i : Int))] ∧ i ≤ nf ∧ k = nf - i ∧ Ext0 h1 h' ∧ Fd h1 h' la lc ea ec xs es ∧ xs.map Qm.r = (fs.take i).map (fun f => (takeQ (nat f)).1) ∧ es = (fs.take i).map (fun f => (takeQ (nat f)).2)) ?_ (k := nf) ⟨0, none, none, 0, 0, [], [], rfl, by omega, rfl, Ext.refl _ _, Fd.start _, rfl, rfl⟩
    rintro k e h' ⟨i, la, ea, lc, ec, xs, es, rfl, hi, rfl, x', f, hxs, hes⟩
    have z' := x'.next
    have hxl : xs.length = i := by have := congrArg List.length hxs; simp at this; omega
    have hel : es.length = i := by rw [hes]; simp; omega
    refine K_reg (Wops_run rfl rfl (K_fin [(4, _), (5, _), (7, _), (30, _), (31, _), (32, _), (33, _)] rfl (?_)))
    refine K_scond rfl (fun hc => ?_) (fun hc => ?_)
    · have hil : i < nf := by have := of_decide_eq_true hc; omega
      have hif : i < fs.length := by omega
      obtain ⟨fa, fn, fc, hv, sfi, lfi⟩ := bf.get i hif
      have hby := hfb _ (List.getElem_mem hif)
      refine K_sskip (K_sblock ?_)
      refine K_reg (Wops_idx (u := .slice fa fn fc) rfl rfl (sf.ext x') ⟨by omega, by omega⟩ (by simpa using hv) fun _ => ?_)
      refine Wops_run rfl rfl (K_fin [(4, _), (5, _), (7, _), (9, _), (30, _), (31, _), (32, _)] rfl (?_))
      have hfl : fs[i].length = fn := by simpa using sfi.len
      rw [ints_nat8 hby] at sfi
      have hflb : fs[i].length ≤ 100000 := by have := hlenf.2 _ (List.getElem_mem hif); omega
      refine K_reg (Wops_run rfl rfl (Wops_call rfl (C14 (sfi.ext x') (by omega) (nat_byte hby) (fun j r => by have := (lfi j r).2; omega)) ?_))
      rintro _ h2 ⟨x2, qa, qc, ra, rc, rfl, oq, orr, lq, lr⟩
      have hBy := takeQ_By (nat_byte hby)
      obtain ⟨T, hT⟩ : ∃ T, T = takeQ (nat fs[i]) := ⟨_, rfl⟩
      rw [← hT] at oq orr hBy ⊢
      refine Wops_run rfl rfl (Wops_run rfl rfl (Wops_run rfl rfl (Wops_new fun h3 n3 x3 g3 => Wops_st (l := RqV T.1 qa T.1.body.length qc ra T.1.args.length rc) rfl rfl rfl rfl g3 (by simp) (by simp [RqV, isCell]) fun h4 n4 x4 g4 => Wops_run rfl rfl (K_fin [(4, _), (5, _), (7, _), (10, _), (11, _), (30, _), (31, _), (32, _)] rfl (?_)))))
      have z2 := x2.next
      have z3 := x3.next
      have z4 := x4.next
      have x24 : Ext0 h' h4 := (x2.trans x3).then x4 fun i r => .inr (by omega)
      have f4 : Fd h1 h4 la lc ea ec xs es := f.ext x24 fun i r => r.elim
      have xq : (⟨T.1, qa, qc, ra, rc⟩ : Qm).In h4 fun i => h1.next ≤ i ∧ i < h4.next ∧ ¬ Blk la i ∧ ¬ Blk ea i := by
        have oq4 := (oq.ext x3).ext x4 fun j r => by have := oq.lt r; omega
        have or4 := (orr.ext x3).ext x4 fun j r => by have := orr.lt r; omega
        refine ⟨oq4.sl, or4.sl, fun j r => ?_, fun j r => ?_, hBy⟩
        · have := lq j r; have := oq4.lt r; exact ⟨by omega, by omega, fun w => by have := f.l.lt w; omega, fun w => by have := f.e.lt w; omega⟩
        · have := lr j r; have := or4.lt r; exact ⟨by omega, by omega, fun w => by have := f.l.lt w; omega, fun w => by have := f.e.lt w; omega⟩
      refine K_last (Wops_run rfl rfl (Wops_ldA (l := RqV T.1 qa T.1.body.length qc ra T.1.args.length rc) rfl g4 (by simp [RqV, putL]) rfl (Wops_bslice (l := RqV T.1 qa T.1.body.length qc ra T.1.args.length rc) rfl rfl fun h5 n5 x5 g5 => ?_)))
      refine Wops_app (m := 1) rfl rfl (f4.l.ext x5) rfl (OwS.new (n := 1) (c := 1) g5 rfl).sl.first ⟨by omega, by omega⟩ rfl (by simp [RqV, isCell]) (by decide) fun h6 a6 c6 x6 o6 b6 => ?_
      refine Wops_run rfl rfl (Wops_run rfl rfl (Wops_run rfl rfl (Wops_bslice (l := erL T.2) rfl rfl fun h7 n7 x7 g7 => ?_)))
      have z5 := x5.next
      have z6 := x6.next
      refine Wops_app (m := 1) rfl rfl (((f4.e.ext x5).ext x6 fun j r w => f4.d j w r).ext x7) rfl (OwS.new (n := 1) (c := 1) g7 rfl).sl.first ⟨by omega, by omega⟩ rfl (by simp [erL, isCell]) (by decide) fun h8 a8 c8 x8 o8 b8 => ?_
      refine Wops_run rfl rfl (Wops_run rfl rfl (K_finL [(4, _), (5, _), (7, _), (30, _), (31, _), (32, _)] rfl (?_)))
      have fS := f4.step (x := ⟨T.1, qa, qc, ra, rc⟩) (e := T.2) xq x5 x6 o6 b6 x7 x8 o8 b8
      refine K_last (Wops_run rfl rfl (Wops_run rfl rfl (K_finL [(4, _), (5, _), (7, _), (30, _), (31, _), (32, _)] rfl (?_))))
      have x18 : Ext0 h1 h8 := ((((x'.trans x24).trans x5).then x6 fun j r => .inr (f.ll j r)).trans x7).then x8 fun j r => .inr (f.el j r)
      refine ⟨nf - (i + 1), by omega, i + 1, a6, a8, c6, c8, xs ++ [⟨T.1, qa, qc, ra, rc⟩], es ++ [T.2], by rw [w64s (by omega), List.length_append, List.length_append]; rfl, by omega, rfl, x18, fS, ?_, ?_⟩
      · rw [List.take_add_one, List.getElem?_eq_getElem hif, Option.toList_some, List.map_append, List.map_append, hxs, hT]; rfl
      · rw [List.take_add_one, List.getElem?_eq_getElem hif, Option.toList_some, List.map_append, hes, hT]; rfl
    · have hin : i = nf := by have := of_decide_eq_false hc; omega
      have hall : fs.take i = fs := List.take_of_length_le (by omega)
      rw [hall] at hxs hes
      refine K_sexit (bx_same ?_)
      have qS : Se M h' p pp br bad' := q1.ext0 x'
      have XX : Ext (· = pp) h h' := x1.then0 x'
      refine K_ss (K_reg (Wops_run rfl rfl ?_))
      by_cases he : er = 0
      · refine Wops_as (w := .bool false) rfl rfl (by simp [he]) (K_fin [(4, _), (5, _), (7, _), (52, _)] rfl (?_))
        refine K_scond rfl (fun hc => by cases hc) (fun _ => ?_)
        refine K_sskip (K_reg (Wops_run rfl rfl (Wops_run rfl rfl (Wops_run rfl rfl (Wops_run rfl rfl (K_fin [(4, _), (5, _)] rfl (?_)))))))
        refine K_ret (Told.mk _ rfl ?_)
        rw [if_neg (by simp)]
        exact ⟨XX, qS, la, lc, ea, ec, xs, es, rfl, f.weak z1, by rw [hxs]; simp [asks, he], by rw [hes]; simp [asks, he]⟩
      · refine Wops_as (w := .bool true) rfl rfl (by simp [he]) (K_fin [(4, _), (5, _), (7, _), (52, _)] rfl (?_))
        refine K_scond rfl (fun _ => ?_) (fun hc => by cases hc)
        refine K_reg (Wops_run rfl rfl (Wops_run rfl rfl (Wops_bslice (l := RqV Rq.zero none 0 0 none 0 0) rfl rfl fun h5 n5 x5 g5 => ?_)))
        refine Wops_app (m := 1) rfl rfl (f.l.ext x5) rfl (OwS.new (n := 1) (c := 1) g5 rfl).sl.first ⟨by omega, by omega⟩ rfl (by simp [RqV, isCell]) (by decide) fun h6 a6 c6 x6 o6 b6 => ?_
        refine Wops_run rfl rfl (Wops_run rfl rfl (Wops_run rfl rfl (Wops_bslice (l := erL er) rfl rfl fun h7 n7 x7 g7 => ?_)))
        have z5 := x5.next
        have z6 := x6.next
        refine Wops_app (m := 1) rfl rfl (((f.e.ext x5).ext x6 fun j r w => f.d j w r).ext x7) rfl (OwS.new (n := 1) (c := 1) g7 rfl).sl.first ⟨by omega, by omega⟩ rfl (by simp [erL, isCell]) (by decide) fun h8 a8 c8 x8 o8 b8 => ?_
        refine Wops_run rfl rfl (Wops_run rfl rfl (K_fin [(4, _), (5, _)] rfl (?_)))
        have xz : (⟨Rq.zero, none, 0, none, 0⟩ : Qm).In h' fun i => h1.next ≤ i ∧ i < h'.next ∧ ¬ Blk la i ∧ ¬ Blk ea i :=
          ⟨SlA.none, SlA.none, fun i r => absurd r Blk.none, fun i r => absurd r Blk.none, By.zero⟩
        have fS := f.step (x := ⟨Rq.zero, none, 0, none, 0⟩) (e := er) xz x5 x6 o6 b6 x7 x8 o8 b8
        have x58 : Ext0 h1 h8 := (((x'.trans x5).then x6 fun j r => .inr (f.ll j r)).trans x7).then x8 fun j r => .inr (f.el j r)
        refine K_reg (Wops_run rfl rfl (Wops_run rfl rfl (Wops_run rfl rfl (Wops_run rfl rfl (K_fin [(4, _), (5, _)] rfl (?_))))))
        refine K_ret (Told.mk _ rfl ?_)
        rw [if_neg (by simp)]
        exact ⟨x1.then0 x58, q1.ext0 x58, a6, c6, a8, c8, xs ++ [⟨Rq.zero, none, 0, none, 0⟩], es ++ [er], by rw [List.length_append, List.length_append]; rfl, fS.weak z1, by rw [List.map_append, hxs]; simp [asks, he], by rw [hes]; simp [asks, he]⟩

end
section
/- SessCuts: Frame, begun, plain law. -/
set_option linter.unusedVariables false
set_option linter.unusedSimpArgs false

set_option maxRecDepth 100000 in
theorem begun27_run : isTrue (fnR T 3000 27 [] Heap.empty) = true := by kernel_rfl
theorem C27 {h : Heap} : Fn Try.prog 27 [] h fun v h' => v = .bool true ∧ h = h' :=
  Fn.anywhere (R := fun v => v = .bool true) rfl (fn_of_true T.ok begun27_run) fun v h' q => ⟨by rw [q]; rfl, q⟩

/-- the document's Frame -/
theorem C28 {h : Heap} {a : Option Addr} {n c : Nat} {bs : List Int} (s : SlA h 1 a n c (ints .u8 bs)) (hb : n ≤ 5000) :
    Fn Try.prog 28 [.slice a n c] h fun v h' => ∃ a' c', v = .slice a' (2 + n) c' ∧ OwS h' 1 a' (2 + n) c' (ints .u8 (putF bs)) ∧ Ext0 h h' ∧ ∀ i, Blk a' i → h.next ≤ i ∧ i < h'.next := by
  have hn : bs.length = n := by simpa using s.len
  refine fnK F28.fok rfl ?_
  refine K_reg (Wops_run rfl rfl (K_fin [(0, _)] rfl (?_)))
  refine K_ss (K_reg (Wops_run rfl rfl (Wops_run rfl rfl (Wops_as (w := .bool false) rfl rfl (by rw [decide_eq_false (by omega)]) (K_fin [(0, _), (5, _)] rfl (?_))))))
  refine K_scond rfl (fun hc => by cases hc) (fun _ => ?_)
  have e1 : Value.int .u8 (IntKind.wrap .u8 (Int.fdiv (n : Int) (2 ^ 8))) = .int .u8 ((bs.length / 256 : Nat) : Int) := by
    rw [Int.fdiv_eq_ediv_of_nonneg _ (by omega), wu8 (by omega), hn]
    congr 1; omega
  refine K_sskip (K_reg (Wops_run rfl rfl (Wops_run rfl rfl (Wops_run rfl rfl (Wops_as (w := .int .u8 ((bs.length / 256 : Nat) : Int)) rfl rfl e1 (Wops_run rfl rfl (Wops_run rfl rfl (Wops_as (w := .int .u8 ((bs.length % 256 : Nat) : Int)) rfl rfl (by rw [wu8 (by omega), hn]; congr 1) ?_))))))))
  refine Wops_bslice (l := [.int .u8 ((bs.length / 256 : Nat) : Int), .int .u8 ((bs.length % 256 : Nat) : Int)]) rfl rfl fun h1 n1 x1 g1 => ?_
  refine Wops_run rfl rfl (Wops_app rfl rfl (OwS.new (n := 2) g1 rfl) rfl (s.ext x1).first ⟨by omega, by omega⟩ s.len (ints_cell _ _) (by decide) fun h2 a2 c2 x2 o2 b2 => ?_)
  refine Wops_run rfl rfl (K_fin [(2, _)] rfl (?_))
  refine K_ret (Told.mk _ rfl ⟨a2, c2, rfl, by simpa [ints, putF] using o2, x1.then x2 fun i r => .inr (by rw [Blk.at] at r; omega), fun i r => ⟨?_, o2.lt r⟩⟩)
  rcases b2 i r with r | r
  · rw [Blk.at] at r; omega
  · omega

theorem nat_zs (xs : List Nat) : nat (zs xs) = xs := by
  unfold nat zs
  rw [List.map_map]
  induction xs with
  | nil => rfl
  | cons x xs ih => rw [List.map_cons, ih]; simp
theorem zs_byte {xs : List Nat} (h : ∀ x ∈ xs, x < 256) : Byte (zs xs) := by
  intro y hy
  obtain ⟨x, hx, rfl⟩ := List.mem_map.1 hy
  have := h x hx; omega
abbrev frames (rs : List Rq) : List (List Int) := rs.map fun r => zs (encQ r)
theorem frames_len {rs : List Rq} (h : ∀ r ∈ rs, r.Ok) : ∀ l ∈ frames rs, l.length ≤ 5000 := by
  intro l hl
  obtain ⟨r, hr, rfl⟩ := List.mem_map.1 hl
  have := (encQ_len (h r hr)).1
  simp only [List.length_map]; omega
theorem frames_take {rs : List Rq} (h : ∀ r ∈ rs, r.Ok) : ∀ l ∈ frames rs, (takeQ (nat l)).2 = 0 := by
  intro l hl
  obtain ⟨r, hr, rfl⟩ := List.mem_map.1 hl
  rw [nat_zs, takeQ_enc (h r hr)]
theorem frames_norm {rs : List Rq} (h : ∀ r ∈ rs, r.Ok) : (frames rs).map (fun f => (takeQ (nat f)).1) = rs.map normQ := by
  rw [List.map_map]
  refine List.map_congr_left fun r hr => ?_
  show (takeQ (nat (zs (encQ r)))).1 = normQ r
  rw [nat_zs, takeQ_enc (h r hr)]
theorem puts_len2 {rs : List Rq} (h : ∀ r ∈ rs, r.Ok) : (puts (frames rs)).length ≤ 502 * rs.length := by
  induction rs with
  | nil => exact Nat.le_refl _
  | cons r rs ih =>
    have h1 := ih fun x hx => h x (by simp [hx])
    have h2 := (encQ_len (h r (by simp))).1
    show (putF (zs (encQ r)) ++ puts (frames rs)).length ≤ _
    rw [List.length_append, putF_length, List.length_cons]
    simp only [List.length_map]; omega
theorem puts_byte2 {rs : List Rq} (h : ∀ r ∈ rs, r.Ok) : Byte (puts (frames rs)) := by
  induction rs with
  | nil => intro x hx; cases hx
  | cons r rs ih =>
    have h1 := ih fun x hx => h x (by simp [hx])
    exact (show Byte (putF (zs (encQ r))) from putF_byte (zs_byte (encQ_byte (h r (by simp)))) (by have := (encQ_len (h r (by simp))).1; simp only [List.length_map]; omega)).app h1
theorem asks0 (fs : List (List Int)) : asks fs 0 = fs.map fun f => takeQ (nat f) := by simp [asks]
theorem addR_whole {rs : List Rq} (h : ∀ r ∈ rs, r.Ok) : addR [] false (puts (frames rs)) = (frames rs, [], false, 0) := by
  have h1 := sp_puts (frames rs) (frames_len h)
  unfold sp at h1
  unfold addR
  rw [if_neg (by simp), List.nil_append, h1]; rfl

end
section
/- SessCuts: what is asked, in frames (the first loop). -/
set_option linter.unusedVariables false
set_option linter.unusedSimpArgs false

theorem win8 {vs W : List Value} {o : Nat} (hW : W.length = 8) (hl : o + 8 ≤ vs.length) (hc : ∀ r, r < 8 → vs[o + r]? = W[r]?) : (vs.drop o).take 8 = W := by
  apply List.ext_getElem?
  intro j
  by_cases hj : j < 8
  · rw [List.getElem?_take_of_lt hj, List.getElem?_drop, hc j hj]
  · rw [List.getElem?_eq_none (by simp; omega), List.getElem?_eq_none (by omega)]
/-- Requests as they are handed in. -/
def InQ (h : Heap) (l0 : List Value) (n : Nat) : Prop := ∀ i, i < n → ∃ kd r ba bn bc aa an ac, Inn h kd r ba bn bc aa an ac ∧ (l0.drop (i * 8)).take 8 = RqI kd r ba bn bc aa an ac
/-- Those that were put. -/
def Good (h : Heap) (l0 : List Value) (rs : List Rq) : Prop := (∀ r ∈ rs, r.Ok) ∧ ∀ j (hj : j < rs.length), ∃ ba bn bc aa an ac, (l0.drop (j * 8)).take 8 = RqV rs[j] ba bn bc aa an ac
theorem cell8 {l0 W : List Value} {i : Nat} (h : (l0.drop (i * 8)).take 8 = W) : ∀ r, r < 8 → l0[i * 8 + r]? = W[r]? := by
  intro r hr
  rw [← h, List.getElem?_take_of_lt hr, List.getElem?_drop]

set_option maxHeartbeats 4000000 in
theorem loop1 {h : Heap} {a ab : Option Addr} {n c m d : Nat} {l0 : List Value} {kn : Env → Heap → Prop} {kx : Nat → Env → Heap → Prop} {kr : Env → Heap → Prop} (s : SlA h 8 a n c l0) (hin : InQ h l0 n) (hn : n ≤ 8)
    (hr : ∀ h', kr [(4, .bool true)] h')
    (hk : ∀ h' rs aa cc, Ext0 h h' → rs.length = n → Good h l0 rs → OwS h' 1 aa (puts (frames rs)).length cc (ints .u8 (puts (frames rs))) → (∀ i, Blk aa i → h.next ≤ i) →
      kx 0 [(0, .slice a n c), (1, .slice ab m d), (5, .slice aa (puts (frames rs)).length cc), (6, .int .i64 (n : Int)), (31, .bool false)] h') :
    W Try.prog (match F8.code with
      | .seq _ (.seq _ (.seq _ (.seq _ (.seq (.seq _ (.block _ b)) _)))) => b
      | _ => .skip) [(0, .slice a n c), (1, .slice ab m d), (5, .slice none 0 0), (6, .int .i64 0)] h (K3 kn kx kr) := by
  refine K_loop (fun k e h' => ∃ (i : Nat) (rs : List Rq) (aa : Option Addr) (cc : Nat), e = [(0, .slice a n c), (1, .slice ab m d), (5, .slice aa (puts (frames rs)).length cc), (6, .int .i64 (i : Int))] ∧ i ≤ n ∧ k = n - i ∧ Ext0 h h' ∧ rs.length = i ∧ Good h l0 rs ∧ OwS h' 1 aa (puts (frames rs)).length cc (ints .u8 (puts (frames rs))) ∧ ∀ j, Blk aa j → h.next ≤ j) ?_ (k := n) ⟨0, [], none, 0, rfl, by omega, rfl, Ext.refl _ _, rfl, ⟨(fun r hr => by cases hr), fun j hj => absurd hj (Nat.not_lt_zero j)⟩, OwS.none, fun j r => absurd r Blk.none⟩
  rintro k e h' ⟨i, rs, al, cc, rfl, hi, rfl, x', hrl, hg, o, bo⟩
  have hpl := puts_len2 hg.1
  refine K_ss (K_reg (Wops_run rfl rfl (Wops_run rfl rfl (Wops_run rfl rfl (Wops_run rfl rfl (K_fin [(0, _), (1, _), (5, _), (6, _), (31, _)] rfl (?_)))))))
  refine K_scond rfl (fun hc => ?_) (fun hc => ?_)
  case refine_2 =>
    have hin' : i = n := by have := of_decide_eq_false hc; omega
    subst hin'
    refine K_sexit ?_
    have := hk h' rs al cc x' hrl hg o bo
    rw [hc]; exact this
  have hil : i < n := by have := of_decide_eq_true hc; omega
  obtain ⟨kd, r, ba, bn, bc, aa, an, ac, I, hW⟩ := hin i hil
  obtain ⟨id, off, vs, ez, ro, ha, hat, hle, _, hget⟩ := s.at (by omega)
  subst ha
  have hcell : ∀ r', r' < 8 → vs[off + (i : Int).toNat * 8 + r']? = (RqI kd r ba bn bc aa an ac)[r']? := fun r' hr' => by
    rw [Int.toNat_natCast, Nat.add_assoc, hget _ (by omega), cell8 hW r' hr']
  have hat' := hat.ext x'
  have hi8 : off + (i : Int).toNat * 8 + 8 ≤ vs.length := by rw [Int.toNat_natCast]; omega
  have c0 : vs[off + (i : Int).toNat * 8 + 0]? = some (.int .i64 kd) := hcell 0 (by decide)
  have c3 : vs[off + (i : Int).toNat * 8 + 3]? = some (.string (strOf r.name)) := hcell 3 (by decide)
  have c4 : vs[off + (i : Int).toNat * 8 + 4]? = some (.slice ba bn bc) := hcell 4 (by decide)
  have c5 : vs[off + (i : Int).toNat * 8 + 5]? = some (.slice aa an ac) := hcell 5 (by decide)
  have hb : (0 : Int) ≤ (i : Int) ∧ (i : Int) < (n : Int) := by omega
  refine K_sskip (K_sblock ?_)
  refine K_ss (K_join (fun e h2 => ∃ b, e = [(0, .slice (some ⟨id, off, none⟩) n c), (1, .slice ab m d), (5, .slice al (puts (frames rs)).length cc), (6, .int .i64 (i : Int)), (74, .bool b)] ∧ h' = h2 ∧ (b = false → may kd r bn an ∧ (strOf r.name).size ≤ 32 ∧ an ≤ 8)) ?_ ?_)
  · refine K_last (Wops_run rfl rfl (Wops_run rfl rfl (Wops_iaV rfl rfl hb (Wops_run rfl rfl (Wops_ld (v := .int .i64 kd) rfl hat' c0 ?_)))))
    by_cases q1 : kd < 1
    case pos =>
      refine Wops_as (w := .bool true) rfl rfl (by rw [decide_eq_true (by omega)]) (Wops_run rfl rfl ?_)
      (repeat (first | refine Wops_skip rfl ?_ | refine Wops_run rfl rfl ?_))
      exact K_finL [(0, _), (1, _), (5, _), (6, _), (74, _)] rfl ⟨_, rfl, rfl, fun e => by cases e⟩
    refine Wops_as (w := .bool false) rfl rfl (by rw [decide_eq_false (by omega)]) (Wops_run rfl rfl (Wops_go rfl (Wops_run rfl rfl (Wops_go rfl (Wops_run rfl rfl (Wops_go rfl (Wops_iaV rfl rfl hb (Wops_go rfl (Wops_run rfl rfl (Wops_go rfl (Wops_ld (v := .int .i64 kd) rfl hat' c0 (Wops_go rfl ?_))))))))))))
    by_cases q2 : kd > 6
    case pos =>
      refine Wops_as (w := .bool true) rfl rfl (by rw [decide_eq_true (by omega)]) (Wops_run rfl rfl (Wops_run rfl rfl ?_))
      (repeat (first | refine Wops_skip rfl ?_ | refine Wops_run rfl rfl ?_))
      exact K_finL [(0, _), (1, _), (5, _), (6, _), (74, _)] rfl ⟨_, rfl, rfl, fun e => by cases e⟩
    refine Wops_as (w := .bool false) rfl rfl (by rw [decide_eq_false (by omega)]) (Wops_run rfl rfl (Wops_run rfl rfl (Wops_go rfl (Wops_run rfl rfl (Wops_go rfl (Wops_run rfl rfl (Wops_go rfl (Wops_iaV rfl rfl hb (Wops_go rfl (Wops_run rfl rfl (Wops_go rfl (Wops_ld (v := .string (strOf r.name)) rfl hat' c3 (Wops_go rfl (Wops_run rfl rfl (Wops_go rfl ?_)))))))))))))))
    by_cases q3 : (strOf r.name).size > 32
    case pos =>
      refine Wops_as (w := .bool true) rfl rfl (by rw [decide_eq_true (by omega)]) (Wops_run rfl rfl (Wops_run rfl rfl ?_))
      (repeat (first | refine Wops_skip rfl ?_ | refine Wops_run rfl rfl ?_))
      exact K_finL [(0, _), (1, _), (5, _), (6, _), (74, _)] rfl ⟨_, rfl, rfl, fun e => by cases e⟩
    refine Wops_as (w := .bool false) rfl rfl (by rw [decide_eq_false (by omega)]) (Wops_run rfl rfl (Wops_run rfl rfl (Wops_go rfl (Wops_run rfl rfl (Wops_go rfl (Wops_run rfl rfl (Wops_go rfl (Wops_iaV rfl rfl hb (Wops_go rfl (Wops_run rfl rfl (Wops_go rfl (Wops_ld (v := .slice ba bn bc) rfl hat' c4 (Wops_go rfl (Wops_run rfl rfl (Wops_go rfl ?_)))))))))))))))
    by_cases q4 : bn > 100
    case pos =>
      refine Wops_as (w := .bool true) rfl rfl (by rw [decide_eq_true (by omega)]) (Wops_run rfl rfl (Wops_run rfl rfl ?_))
      (repeat (first | refine Wops_skip rfl ?_ | refine Wops_run rfl rfl ?_))
      exact K_finL [(0, _), (1, _), (5, _), (6, _), (74, _)] rfl ⟨_, rfl, rfl, fun e => by cases e⟩
    refine Wops_as (w := .bool false) rfl rfl (by rw [decide_eq_false (by omega)]) (Wops_run rfl rfl (Wops_run rfl rfl (Wops_go rfl (Wops_run rfl rfl (Wops_go rfl (Wops_run rfl rfl (Wops_go rfl (Wops_iaV rfl rfl hb (Wops_go rfl (Wops_run rfl rfl (Wops_go rfl (Wops_ld (v := .slice aa an ac) rfl hat' c5 (Wops_go rfl (Wops_run rfl rfl (Wops_go rfl (Wops_run rfl rfl (Wops_run rfl rfl (K_finL [(0, _), (1, _), (5, _), (6, _), (74, _)] rfl (?_)))))))))))))))))))
    exact ⟨_, rfl, rfl, fun e => ⟨⟨by omega, by omega, by omega, by omega, by have := of_decide_eq_false e; omega⟩, by omega, by have := of_decide_eq_false e; omega⟩⟩
  rintro _ _ ⟨b, rfl, rfl, hbf⟩
  refine K_scond rfl (fun hc => ?_) (fun hc => ?_)
  · refine K_ss (K_reg (Wops_run rfl rfl (K_fin [(4, _)] rfl (?_))))
    exact K_sret (hr h')
  obtain ⟨m1, m2, m3⟩ := hbf hc
  obtain ⟨k, er⟩ := I.ok m1 m2 m3
  have I' := I.ext x'
  have hL := encQ_len k
  have hwin : (vs.drop (off + (i : Int).toNat * 8)).take 8 = RqV r ba bn bc aa an ac := by
    rw [← er]; exact win8 rfl hi8 hcell
  refine K_sskip (K_last (Wops_run rfl rfl (Wops_run rfl rfl (Wops_run rfl rfl (Wops_iaV rfl rfl hb (Wops_ldA rfl hat' hi8 hwin (Wops_call rfl (C20 k.fit I'.s1 I'.s2) ?_)))))))
  rintro _ h2 ⟨a2, c2, rfl, o2, x2, b2⟩
  have s2 := o2.sl
  rw [bys_ints] at s2
  refine Wops_call rfl (C28 s2 (by omega)) ?_
  rintro _ h3 ⟨a3, c3', rfl, o3, x3, b3⟩
  have z' := x'.next
  have z2 := x2.next
  have z3 := x3.next
  refine Wops_app (m := 2 + (encQ r).length) rfl rfl ((o.ext x2).ext x3) rfl o3.sl.first ⟨by omega, by omega⟩ o3.len (ints_cell _ _) (by decide) fun h4 a4 c4' x4 o4 b4 => ?_
  refine Wops_run rfl rfl (K_finL [(0, _), (1, _), (5, _), (6, _)] rfl (?_))
  refine K_last (Wops_run rfl rfl (Wops_run rfl rfl (Wops_run rfl rfl (K_finL [(0, _), (1, _), (5, _), (6, _)] rfl (?_)))))
  have hps : puts (frames (rs ++ [r])) = puts (frames rs) ++ putF (zs (encQ r)) := by
    unfold frames; rw [List.map_append]; exact puts_snoc _ _
  have hpl2 : (puts (frames (rs ++ [r]))).length = (puts (frames rs)).length + (2 + (encQ r).length) := by
    rw [hps, List.length_append, putF_length, List.length_map]; omega
  refine ⟨n - (i + 1), by omega, i + 1, rs ++ [r], a4, c4', by rw [w64s (by omega), hpl2], by omega, rfl, ((x'.trans x2).trans x3).then x4 fun j q => .inr (bo j q), by simp [hrl], ⟨fun y hy => ?_, fun j hj => ?_⟩, ?_, fun j q => (b4 j q).elim (bo j) fun q => by omega⟩
  · rcases List.mem_append.1 hy with hy | hy
    · exact hg.1 y hy
    · rw [List.mem_singleton] at hy; rw [hy]; exact k
  · by_cases hj2 : j < rs.length
    · rw [List.getElem_append_left hj2]; exact hg.2 j hj2
    · have hje : j = i := by rw [List.length_append, List.length_singleton] at hj; omega
      subst hje
      rw [List.getElem_append_right (by omega)]
      simp only [hrl, Nat.sub_self, List.getElem_cons_zero]
      exact ⟨ba, bn, bc, aa, an, ac, by rw [hW, er]⟩
  · rw [hpl2, hps]
    have : ints .u8 (puts (frames rs) ++ putF (zs (encQ r))) = ints .u8 (puts (frames rs)) ++ ints .u8 (putF (zs (encQ r))) := by simp [ints]
    rw [this]; exact o4

end
section
/- SessCuts: pieces (the second loop). -/
set_option linter.unusedVariables false
set_option linter.unusedSimpArgs false

theorem ints_sub {xs : List Int} {i j : Nat} : ((ints .u8 xs).drop (i * 1)).take ((j - i) * 1) = ints .u8 ((xs.drop i).take (j - i)) := by simp [ints, List.map_drop, List.map_take]
theorem qsL_cell (xs : List Qm) (h : Heap) (hx : ∀ x ∈ xs, ∃ S, x.In h S) : (qsL xs).all isCell = true := by
  induction xs with
  | nil => rfl
  | cons x xs ih =>
    show (x.enc ++ qsL xs).all isCell = true
    rw [List.all_append, ih fun y hy => hx y (by simp [hy])]
    simp [Qm.enc, RqV, isCell]
theorem ersL_get : ∀ (es : List Int) (j : Nat) (hj : j < es.length) (r : Nat), r < 4 → (ersL es)[j * 4 + r]? = (erL es[j])[r]?
  | e :: es, 0, hj, r, hr => by
    show (erL e ++ ersL es)[0 * 4 + r]? = _
    rw [List.getElem?_append_left (by rw [erL_len]; omega)]; simp
  | e :: es, j + 1, hj, r, hr => by
    show (erL e ++ ersL es)[(j + 1) * 4 + r]? = _
    rw [List.getElem?_append_right (by rw [erL_len]; omega), erL_len, show (j + 1) * 4 + r - 4 = j * 4 + r by omega]
    rw [ersL_get es j (by simpa using hj) r hr]; simp
theorem qsL_get : ∀ (es : List Qm) (j : Nat) (hj : j < es.length) (r : Nat), r < 8 → (qsL es)[j * 8 + r]? = es[j].enc[r]?
  | e :: es, 0, hj, r, hr => by
    show (e.enc ++ qsL es)[0 * 8 + r]? = _
    rw [List.getElem?_append_left (by rw [Qm.enc_len]; omega)]; simp
  | e :: es, j + 1, hj, r, hr => by
    show (e.enc ++ qsL es)[(j + 1) * 8 + r]? = _
    rw [List.getElem?_append_right (by rw [Qm.enc_len]; omega), Qm.enc_len, show (j + 1) * 8 + r - 8 = j * 8 + r by omega]
    rw [qsL_get es j (by simpa using hj) r hr]; simp
theorem Cut.mem {ls fs : List (List Int)} {bs cur : List Int} (t : Cut ls fs bs cur) : ∀ f ∈ fs, f ∈ ls := by
  obtain ⟨hs, gs, h1, h2⟩ := t
  intro f hf
  rw [← h2]; simp [hf]

/-- What stands when pieces are fed. -/
structure Lp (h0 h : Heap) (p pp : Nat) (rs : List Rq) (bs cur : List Int) (fs : List (List Int)) (ha : Option Addr) (hc : Nat) (ys : List Qm) (tot : Nat) : Prop where
  x : Ext (· = pp) h0 h
  s : Se (fun i => i = pp ∨ Blk ha i) h p pp bs false
  cut : Cut (frames rs) fs bs cur
  bb : Byte bs
  cb : Byte cur
  bl : bs.length + cur.length ≤ tot
  o : OwS h 8 ha ys.length hc (qsL ys)
  hl : ∀ i, Blk ha i → h0.next ≤ i
  q : ∀ y ∈ ys, y.In h fun i => h0.next ≤ i ∧ i < h.next ∧ ¬ Blk ha i
  e : ys.map Qm.r = fs.map fun f => (takeQ (nat f)).1

set_option maxHeartbeats 4000000 in
theorem loop2 {h0 : Heap} {a ab aa wa : Option Addr} {n c m d cc wn wc p pp tot : Nat} {cs : List Int} {rs : List Rq} {T0 : List Int} {kn : Env → Heap → Prop} {kx : Nat → Env → Heap → Prop} {kr : Env → Heap → Prop}
    (sc : SlA h0 1 ab m d (ints .u8 cs)) (hcs : Byte cs) (hm : m ≤ 60) (scl : ∀ i, Blk ab i → i < h0.next ∧ i ≠ pp) (hrs : ∀ r ∈ rs, r.Ok) (hrl : rs.length ≤ 8) (htot : tot ≤ 5000) (hpp : pp < h0.next)
    (sT : SlA h0 1 aa T0.length cc (ints .u8 T0)) (aal : ∀ i, Blk aa i → i < h0.next ∧ i ≠ pp)
    (start : Lp h0 h0 p pp rs [] T0 [] none 0 [] tot)
    (hk : ∀ h' ha hc ys, Ext (· = pp) h0 h' → ys.map Qm.r = rs.map normQ → OwS h' 8 ha ys.length hc (qsL ys) → (∀ y ∈ ys, y.In h' fun _ => True) → ∀ l i ca cn, 
      kx 2 ([(0, .slice a n c), (1, .slice ab m d), (5, .slice ca cn cc), (7, ptr p), (9, .slice wa wn wc), (11, .slice ha ys.length hc), (12, .int .i64 i)] ++ l) h') :
    W Try.prog (match F8.code with
      | .seq _ (.seq _ (.seq _ (.seq _ (.seq _ (.seq _ (.seq _ (.seq _ (.seq (.seq _ (.block _ b)) _)))))))) => b
      | _ => .skip) [(0, .slice a n c), (1, .slice ab m d), (5, .slice aa T0.length cc), (7, ptr p), (9, .slice wa wn wc), (11, .slice none 0 0), (12, .int .i64 0)] h0 (K3 kn kx kr) := by
  refine K_loop (fun k e h => ∃ (i : Nat) (ca : Option Addr) (bs cur : List Int) (fs : List (List Int)) (ha : Option Addr) (hc : Nat) (ys : List Qm), e = [(0, .slice a n c), (1, .slice ab m d), (5, .slice ca cur.length cc), (7, ptr p), (9, .slice wa wn wc), (11, .slice ha ys.length hc), (12, .int .i64 (i : Int))] ∧ i ≤ 100000 ∧ k = (m - i) + min 1 cur.length ∧ i + k ≤ m + 1 ∧ Lp h0 h p pp rs bs cur fs ha hc ys tot ∧ SlA h 1 ca cur.length cc (ints .u8 cur) ∧ ∀ j, Blk ca j → Blk aa j) ?_ (k := m + min 1 T0.length)
    ⟨0, aa, [], T0, [], none, 0, [], rfl, by omega, by omega, by omega, start, sT, fun j r => r⟩
  rintro k e h ⟨i, ca, bs, cur, fs, ha, hc, ys, rfl, hi, rfl, hik, t, sC, hca⟩
  have z0 := t.x.next
  have hsl := t.s.lt
  refine K_ss (K_reg (Wops_run rfl rfl (Wops_run rfl rfl (Wops_as (w := .bool (decide (0 < cur.length))) rfl rfl (by congr 1; exact decide_eq_decide.2 (by omega)) (K_fin [(0, _), (1, _), (5, _), (7, _), (9, _), (11, _), (12, _), (93, _)] rfl (?_))))))
  refine K_scond rfl (fun hcc => ?_) (fun hcc => ?_)
  case refine_2 =>
    have hcur : cur = [] := List.eq_nil_of_length_eq_zero (by have := of_decide_eq_false hcc; omega)
    have ht := t.cut
    rw [hcur] at ht
    have hst := ht.stop
    refine K_sexit (hk h ha hc ys t.x ?_ t.o (fun y hy => (t.q y hy).mono fun _ _ => trivial) [_] _ _ _)
    rw [t.e, hst.1]
    exact frames_norm hrs
  have hcl : 0 < cur.length := of_decide_eq_true hcc
  refine K_sskip (K_sblock ?_)
  refine K_reg (Wops_run rfl rfl (Wops_run rfl rfl (Wops_run rfl rfl (K_fin [(0, _), (1, _), (5, _), (7, _), (9, _), (11, _), (12, _), (13, _)] rfl (?_)))))
  refine K_ss (K_reg (Wops_run rfl rfl (Wops_run rfl rfl (Wops_run rfl rfl (Wops_as (w := .bool (decide (i < m))) rfl rfl (by congr 1; exact decide_eq_decide.2 (by omega)) (K_fin [(0, _), (1, _), (5, _), (7, _), (9, _), (11, _), (12, _), (13, _), (101, _)] rfl (?_)))))))
  refine K_join (fun e h' => ∃ (kk : Nat) (l : Env), e = [(0, .slice a n c), (1, .slice ab m d), (5, .slice ca cur.length cc), (7, ptr p), (9, .slice wa wn wc), (11, .slice ha ys.length hc), (12, .int .i64 (i : Int)), (13, .int .i64 (kk : Int))] ++ l ∧ h = h' ∧ kk ≤ cur.length ∧ (¬ i < m → kk = cur.length)) ?_ ?_
  · refine K_cond rfl (fun hc2 => ?_) (fun hc2 => K_skip ⟨cur.length, [_], rfl, rfl, Nat.le_refl _, fun _ => rfl⟩)
    have him : i < m := of_decide_eq_true hc2
    have hcsl : cs.length = m := by simpa using sc.len
    have hil : i < cs.length := by omega
    have hx := hcs cs[i] (List.getElem_mem _)
    obtain ⟨u, hu⟩ : ∃ u : Nat, cs[i] = u := ⟨cs[i].toNat, by omega⟩
    refine K_last (Wops_run rfl rfl (Wops_run rfl rfl (Wops_idx (u := .int .u8 (u : Int)) rfl rfl (sc.ext t.x (fun j r w => (scl j r).2 w)) ⟨by omega, by omega⟩ (by simp [ints, hil, hu]) fun _ => ?_)))
    have e3 : ((u : Int)).tmod 30 = ((u % 30 : Nat) : Int) := by rw [Int.tmod_eq_emod_of_nonneg (by omega)]; omega
    refine Wops_rem rfl rfl (by decide) (Wops_as (w := .int .i64 ((u % 30 : Nat) : Int)) rfl rfl (by rw [e3, w64 (by omega)]) (Wops_run rfl rfl (Wops_as (w := .int .i64 ((min (u % 30) cur.length : Nat) : Int)) rfl rfl ?_ (Wops_run rfl rfl (K_finL [(0, _), (1, _), (5, _), (7, _), (9, _), (11, _), (12, _), (13, _)] rfl (?_))))))
    · congr 1
      split <;> omega
    · exact ⟨_, [], rfl, rfl, Nat.min_le_right _ _, fun w => absurd him w⟩
  rintro _ _ ⟨kk, l, rfl, rfl, hkk, hkm⟩
  have hsub := sC.sub (i := 0) (j := kk) (Nat.zero_le _) hkk
  rw [ints_sub, List.drop_zero, Nat.sub_zero] at hsub
  obtain ⟨f1, bs', hadd, cut', hfl⟩ := t.cut.step kk
  have hbl := t.bl
  have hkl : (cur.take kk).length = kk := by rw [List.length_take]; omega
  have hcbt : Byte (cur.take kk) := fun x hx => t.cb x (List.mem_of_mem_take hx)
  have hin : InS h (shift ca (0 * 1)) kk cc (ints .u8 (cur.take kk)) := ⟨hsub, fun j r => by have := (aal j (hca j (shift_blk.1 r))).1; omega⟩
  have hM : ∀ j, (j = pp ∨ Blk ha j) → j < h.next := fun j r => r.elim (fun r => by omega) fun r => t.o.lt r
  have hfacts := addR_facts false t.bb hcbt
  have T := C30 t.s hM t.bb hin hcbt (by omega) (by omega)
  rw [hadd] at T hfacts
  simp only [] at hfacts
  rw [hkl] at hfacts
  refine K_reg (Wops_run rfl rfl (Wops_run rfl rfl (Wops_run rfl rfl (Wops_slV (lov := none) (hiv := some (.int .i64 (kk : Int))) rfl rfl rfl sC.ok (bounds_hi hkk) (Wops_call rfl T ?_)))))
  intro v h2 hv
  rw [if_neg (by simp)] at hv
  obtain ⟨x2, s2, la, lc, ea, ec, xs, es, rfl, fd, hxs, hes⟩ := hv
  simp only [asks0] at hxs hes s2
  refine Wops_run rfl rfl (Wops_run rfl rfl (Wops_run rfl rfl (Wops_run rfl rfl (Wops_run rfl rfl (K_fin [(0, _), (1, _), (5, _), (7, _), (9, _), (11, _), (12, _), (13, _), (14, _), (15, _)] rfl (?_))))))
  have hes0 : ∀ e ∈ es, e = 0 := by
    intro e he
    rw [hes, List.map_map] at he
    obtain ⟨f, hf, rfl⟩ := List.mem_map.1 he
    exact frames_take hrs f (cut'.mem f (by simp [hf]))
  have z2 := x2.next
  refine K_ss (K_reg (Wops_run rfl rfl (K_fin [(0, _), (1, _), (5, _), (7, _), (9, _), (11, _), (12, _), (13, _), (14, _), (15, _), (16, _)] rfl (?_))))
  refine K_sblock ?_
  have hel : es.length ≤ 8 := by rw [hes]; simp only [List.length_map] at hfl ⊢; omega
  refine K_loop (fun kq e h' => ∃ j : Nat, e = [(0, .slice a n c), (1, .slice ab m d), (5, .slice ca cur.length cc), (7, ptr p), (9, .slice wa wn wc), (11, .slice ha ys.length hc), (12, .int .i64 (i : Int)), (13, .int .i64 (kk : Int)), (14, .slice la xs.length lc), (15, .slice ea es.length ec), (16, .int .i64 (j : Int))] ∧ h2 = h' ∧ j ≤ es.length ∧ kq = es.length - j) ?_ (k := es.length) ⟨0, rfl, rfl, by omega, rfl⟩
  rintro kq e h' ⟨j, rfl, rfl, hj, rfl⟩
  refine K_ss (K_reg (Wops_run rfl rfl (Wops_run rfl rfl (Wops_run rfl rfl (Wops_run rfl rfl (K_fin [(0, _), (1, _), (5, _), (7, _), (9, _), (11, _), (12, _), (13, _), (14, _), (15, _), (16, _), (121, _)] rfl (?_)))))))
  refine K_scond rfl (fun hc2 => ?_) (fun hc2 => ?_)
  · have hjl : j < es.length := by have := of_decide_eq_true hc2; omega
    refine K_sskip (K_sblock ?_)
    refine K_reg (Wops_run rfl rfl (Wops_run rfl rfl (Wops_iaS rfl rfl fd.e.sl ⟨by omega, by omega⟩ fun id off vs ez ro hea hat hle hget => ?_)))
    have hv : vs[off + (j : Int).toNat * 4 + 1]? = some (.int .i64 0) := by
      rw [Int.toNat_natCast, Nat.add_assoc, hget _ (by omega), ersL_get es j hjl 1 (by decide), hes0 _ (List.getElem_mem hjl)]; rfl
    refine Wops_run rfl rfl (Wops_ld (v := .int .i64 0) rfl hat hv (Wops_as (w := .bool false) rfl rfl (by simp) (K_fin [(0, _), (1, _), (5, _), (7, _), (9, _), (11, _), (12, _), (13, _), (14, _), (15, _), (16, _), (129, _)] rfl (?_))))
    refine K_cond rfl (fun hc => by cases hc) (fun _ => K_skip ?_)
    refine K_last (Wops_run rfl rfl (Wops_run rfl rfl (Wops_run rfl rfl (K_finL [(0, _), (1, _), (5, _), (7, _), (9, _), (11, _), (12, _), (13, _), (14, _), (15, _), (16, _)] rfl (?_)))))
    exact ⟨es.length - (j + 1), by omega, j + 1, by rw [w64s (by omega)], rfl, by omega, rfl⟩
  refine K_sexit (bx_same ?_)
  have sC2 := sC.ext x2 (fun j r w => (aal j (hca j r)).2 w)
  have hhp : ¬ Blk ha pp := fun w => by have := t.hl pp w; omega
  have o2 := t.o.ext x2 (fun j r w => hhp (w ▸ r))
  have hyl : ys.length = fs.length := by have := congrArg List.length t.e; simpa using this
  have hxl : xs.length = f1.length := by have := congrArg List.length hxs; simpa using this
  have hfsl : fs.length + f1.length ≤ 8 := by
    obtain ⟨_, gs, _, h2⟩ := cut'
    have := congrArg List.length h2
    simp only [List.length_append, List.length_map] at this
    omega
  refine K_last (Wops_run rfl rfl (Wops_run rfl rfl (Wops_run rfl rfl (Wops_run rfl rfl (Wops_slV (lov := some (.int .i64 (kk : Int))) (hiv := none) rfl rfl rfl sC2.ok (bounds_lo hkk) ?_)))))
  refine Wops_app (m := xs.length) rfl rfl o2 rfl fd.l.sl.first ⟨by omega, by omega⟩ fd.l.len (qsL_cell xs h2 fun x hx => ⟨_, fd.q x hx⟩) (by decide) fun h3 ha' hc' x3 o3 b3 => ?_
  have z3 := x3.next
  have sC3 := sC2.ext x3 (fun j r w => by have := (aal j (hca j r)).1; have := t.hl j w; omega)
  have hsub2 := sC3.sub (i := kk) (j := cur.length) hkk (Nat.le_refl _)
  refine Wops_chkV (lov := some (.int .i64 (kk : Int))) (hiv := none) rfl rfl rfl rfl sC3.ok (bounds_lo hkk) hsub2.same ?_
  rw [ints_sub] at hsub2
  have htk : (cur.drop kk).take (cur.length - kk) = cur.drop kk := List.take_of_length_le (by simp)
  have hdl : (cur.drop kk).length = cur.length - kk := by simp
  rw [htk, ← hdl] at hsub2
  rw [← hdl]
  refine Wops_run rfl rfl (Wops_run rfl rfl (K_finL [(0, _), (1, _), (5, _), (7, _), (9, _), (11, _), (12, _)] rfl (?_)))
  refine K_last (Wops_run rfl rfl (Wops_run rfl rfl (Wops_run rfl rfl (K_finL [(0, _), (1, _), (5, _), (7, _), (9, _), (11, _), (12, _)] rfl (?_)))))
  have hp0 := start.s.lt
  have hhp2 : ¬ Blk ha p := fun w => by have := t.hl p w; omega
  have s3 : Se (fun i => i = pp ∨ Blk ha' i) h3 p pp bs' false := by
    have s2' : Se (fun i => i = pp ∨ Blk ha i ∨ Blk ha' i) h2 p pp bs' false := s2.swap (fun j r => r.elim (fun r => .inl (.inl r)) fun r => r.elim (fun r => .inl (.inr r)) fun r => (b3 j r).elim (fun r => .inl (.inr r)) .inr) (.inl rfl)
    exact (s2'.ext x3 hhp2 hhp (fun j r => .inl (.inr (.inl r)))).swap (fun j r => .inl (r.elim .inl fun r => .inr (.inr r))) (.inl rfl)
  refine ⟨(m - (i + 1)) + min 1 (cur.drop kk).length, ?_, i + 1, shift ca (kk * 1), bs', cur.drop kk, fs ++ f1, ha', hc', ys ++ xs, by rw [w64s (by omega), List.length_append], by omega, rfl, by omega, ?_, hsub2, fun j r => hca j (shift_blk.1 r)⟩
  · rw [hdl]
    by_cases him : i < m
    · omega
    · have := hkm him; omega
  · refine ⟨(t.x.trans x2).then x3 fun j r => .inr (t.hl j r), s3, cut', hfacts.2.2, fun x hx => t.cb x (List.mem_of_mem_drop hx), by have := hfacts.1; omega, ?_, fun j r => (b3 j r).elim (t.hl j) fun r => by omega, fun y hy => ?_, ?_⟩
    · rw [List.length_append]
      have : qsL (ys ++ xs) = qsL ys ++ qsL xs := by simp [qsL]
      rw [this]; exact o3
    · rcases List.mem_append.1 hy with hy | hy
      · refine (((t.q y hy).ext x2 fun j r w => by have := r.1; omega).ext x3 fun j r => r.2.2).mono fun j r => ⟨r.1, by have := r.2.1; omega, fun w => (b3 j w).elim r.2.2 fun w => by have := r.2.1; omega⟩
      · refine ((fd.q y hy).ext x3 fun j r w => by have := r.1; have := t.o.lt w; omega).mono fun j r => ⟨by have := r.1; omega, by have := r.2.1; omega, fun w => (b3 j w).elim (fun w => by have := r.1; have := t.o.lt w; omega) fun w => by have := r.2.1; omega⟩
    · rw [List.map_append, t.e, hxs, List.map_append, List.map_map]; rfl

end
section
/- SessCuts: the third loop, and all. -/
set_option linter.unusedVariables false
set_option linter.unusedSimpArgs false

set_option maxHeartbeats 4000000 in
theorem loop3 {h : Heap} {a wa ha : Option Addr} {n c wc hc : Nat} {l0 : List Value} {rs : List Rq} {ys ws : List Qm} {kn : Env → Heap → Prop} {kx : Nat → Env → Heap → Prop} {kr : Env → Heap → Prop}
    (s : SlA h 8 a n c l0) (hn : rs.length = n) (hn8 : n ≤ 8) (hg : Good h l0 rs) (oy : OwS h 8 ha ys.length hc (qsL ys)) (ow : OwS h 8 wa ws.length wc (qsL ws)) (iy : ∀ y ∈ ys, y.In h fun _ => True) (iw : ∀ y ∈ ws, y.In h fun _ => True)
    (ey : ys.map Qm.r = rs.map normQ) (ew : ws.map Qm.r = rs.map normQ)
    (hk : ∀ h', kx 6 [(0, .slice a n c), (9, .slice wa ws.length wc), (11, .slice ha ys.length hc), (17, .int .i64 (ws.length : Int)), (151, .bool false)] h') :
    W Try.prog (match F8.code with
      | .seq _ (.seq _ (.seq _ (.seq _ (.seq _ (.seq _ (.seq _ (.seq _ (.seq _ (.seq _ (.seq (.seq _ (.block _ b)) _)))))))))) => b
      | _ => .skip) [(0, .slice a n c), (9, .slice wa ws.length wc), (11, .slice ha ys.length hc), (17, .int .i64 0)] h (K3 kn kx kr) := by
  have hyl : ys.length = n := by have := congrArg List.length ey; simpa [hn] using this
  have hwl : ws.length = n := by have := congrArg List.length ew; simpa [hn] using this
  refine K_loop (fun k e h' => ∃ i : Nat, e = [(0, .slice a n c), (9, .slice wa ws.length wc), (11, .slice ha ys.length hc), (17, .int .i64 (i : Int))] ∧ i ≤ n ∧ k = n - i ∧ Ext0 h h') ?_ (k := n) ⟨0, rfl, by omega, rfl, Ext.refl _ _⟩
  rintro k e h' ⟨i, rfl, hi, rfl, x'⟩
  refine K_ss (K_reg (Wops_run rfl rfl (Wops_run rfl rfl (Wops_run rfl rfl (Wops_run rfl rfl (K_fin [(0, _), (9, _), (11, _), (17, _), (151, _)] rfl (?_)))))))
  refine K_scond rfl (fun hc2 => ?_) (fun hc2 => ?_)
  case refine_2 =>
    have hin : i = ws.length := by have := of_decide_eq_false hc2; omega
    subst hin
    refine K_sexit ?_
    rw [hc2]; exact hk h'
  have hil : i < ws.length := by have := of_decide_eq_true hc2; omega
  have hiy : i < ys.length := by omega
  have hir : i < rs.length := by omega
  have eyi : ys[i].r = normQ rs[i] := by
    have := List.getElem_of_eq ey (i := i) (by simpa using hiy)
    simpa using this
  have ewi : ws[i].r = normQ rs[i] := by
    have := List.getElem_of_eq ew (i := i) (by simpa using hil)
    simpa using this
  obtain ⟨ba, bn, bc, aa, an, ac, hW⟩ := hg.2 i hir
  have oy' := (oy.ext x').sl
  have ow' := (ow.ext x').sl
  have s' := s.ext x'
  have Iy := (iy _ (List.getElem_mem hiy)).ext x' fun _ _ r => r
  have Iw := (iw _ (List.getElem_mem hil)).ext x' fun _ _ r => r
  obtain ⟨id1, off1, vs1, ez1, ro1, ha1, hat1, hle1, _, hget1⟩ := oy'.at (by omega)
  obtain ⟨id2, off2, vs2, ez2, ro2, ha2, hat2, hle2, _, hget2⟩ := ow'.at (by omega)
  obtain ⟨id3, off3, vs3, ez3, ro3, ha3, hat3, hle3, _, hget3⟩ := s'.at (by omega)
  subst ha1 ha2 ha3
  have c1 : ∀ r', r' < 8 → vs1[off1 + (i : Int).toNat * 8 + r']? = ys[i].enc[r']? := fun r' hr' => by
    rw [Int.toNat_natCast, Nat.add_assoc, hget1 _ (by omega), qsL_get ys i hiy r' hr']
  have c2 : ∀ r', r' < 8 → vs2[off2 + (i : Int).toNat * 8 + r']? = ws[i].enc[r']? := fun r' hr' => by
    rw [Int.toNat_natCast, Nat.add_assoc, hget2 _ (by omega), qsL_get ws i hil r' hr']
  have c3 : ∀ r', r' < 8 → vs3[off3 + (i : Int).toNat * 8 + r']? = (RqV rs[i] ba bn bc aa an ac)[r']? := fun r' hr' => by
    rw [Int.toNat_natCast, Nat.add_assoc, hget3 _ (by omega), cell8 hW r' hr']
  have w1 : (vs1.drop (off1 + (i : Int).toNat * 8)).take 8 = ys[i].enc := win8 rfl (by rw [Int.toNat_natCast]; omega) c1
  have w2 : (vs2.drop (off2 + (i : Int).toNat * 8)).take 8 = ws[i].enc := win8 rfl (by rw [Int.toNat_natCast]; omega) c2
  have k2 : vs2[off2 + (i : Int).toNat * 8 + 0]? = some (.int .i64 (ws[i].r.kind : Int)) := c2 0 (by decide)
  have t2 : vs2[off2 + (i : Int).toNat * 8 + 1]? = some (.int .u64 (ws[i].r.tok : Int)) := c2 1 (by decide)
  have k3 : vs3[off3 + (i : Int).toNat * 8 + 0]? = some (.int .i64 (rs[i].kind : Int)) := c3 0 (by decide)
  have t3 : vs3[off3 + (i : Int).toNat * 8 + 1]? = some (.int .u64 (rs[i].tok : Int)) := c3 1 (by decide)
  have hk' : ws[i].r.kind = rs[i].kind := by rw [ewi]; exact norm_kind _
  have ht' : ws[i].r.tok = rs[i].tok := by rw [ewi]; exact norm_tok _
  have by1 := Iy.2.2.2.2
  have by2 := Iw.2.2.2.2
  have bn1 : (0 : Int) ≤ (i : Int) ∧ (i : Int) < (ys.length : Int) := by omega
  have bn2 : (0 : Int) ≤ (i : Int) ∧ (i : Int) < (ws.length : Int) := by omega
  have bn3 : (0 : Int) ≤ (i : Int) ∧ (i : Int) < (n : Int) := by omega
  refine K_sskip (K_sblock ?_)
  refine K_reg (Wops_run rfl rfl (Wops_run rfl rfl (Wops_iaV rfl rfl bn1 (Wops_ldA rfl hat1 (by rw [Int.toNat_natCast]; omega) w1 (Wops_run rfl rfl (Wops_run rfl rfl (Wops_iaV rfl rfl bn2 (Wops_ldA rfl hat2 (by rw [Int.toNat_natCast]; omega) w2 ?_))))))))
  refine Wops_call rfl (C16 Iy.1 Iy.2.1 Iw.1 Iw.2.1 by1.1 by2.1 by1.2.1 by2.2.1 (by have := by1.2.2; omega)) ?_
  rintro _ h2 ⟨rfl, x2⟩
  have heq : ys[i].r = ws[i].r := by rw [eyi, ewi]
  have hat2' := hat2.ext x2
  have hat3' := hat3.ext x2
  refine Wops_as (w := .bool false) rfl rfl (by rw [decide_eq_true heq]; rfl) (Wops_run rfl rfl (Wops_go rfl (Wops_run rfl rfl (Wops_go rfl (Wops_run rfl rfl (Wops_go rfl (Wops_iaV rfl rfl bn2 (Wops_go rfl (Wops_run rfl rfl (Wops_go rfl (Wops_ld (v := .int .i64 (ws[i].r.kind : Int)) rfl hat2' k2 ?_)))))))))))
  refine Wops_go rfl (Wops_run rfl rfl (Wops_go rfl (Wops_run rfl rfl (Wops_go rfl (Wops_iaV rfl rfl bn3 (Wops_go rfl (Wops_run rfl rfl (Wops_go rfl (Wops_ld (v := .int .i64 (rs[i].kind : Int)) rfl hat3' k3 (Wops_go rfl (Wops_as (w := .bool false) rfl rfl (by rw [hk']; simp) (Wops_run rfl rfl (Wops_run rfl rfl ?_)))))))))))))
  refine Wops_go rfl (Wops_run rfl rfl (Wops_go rfl (Wops_run rfl rfl (Wops_go rfl (Wops_iaV rfl rfl bn2 (Wops_go rfl (Wops_run rfl rfl (Wops_go rfl (Wops_ld (v := .int .u64 (ws[i].r.tok : Int)) rfl hat2' t2 ?_)))))))))
  refine Wops_go rfl (Wops_run rfl rfl (Wops_go rfl (Wops_run rfl rfl (Wops_go rfl (Wops_iaV rfl rfl bn3 (Wops_go rfl (Wops_run rfl rfl (Wops_go rfl (Wops_ld (v := .int .u64 (rs[i].tok : Int)) rfl hat3' t3 (Wops_go rfl (Wops_as (w := .bool false) rfl rfl (by rw [ht']; simp) (Wops_run rfl rfl (K_fin [(0, _), (9, _), (11, _), (17, _), (189, _)] rfl (?_))))))))))))))
  refine K_cond rfl (fun hc => by cases hc) (fun _ => K_skip ?_)
  refine K_last (Wops_run rfl rfl (Wops_run rfl rfl (Wops_run rfl rfl (K_finL [(0, _), (9, _), (11, _), (17, _)] rfl (?_)))))
  exact ⟨n - (i + 1), by omega, i + 1, by rw [w64s (by omega)], by omega, rfl, x'.trans x2⟩

set_option maxHeartbeats 4000000 in
/-- SessCuts -/
theorem C8 {h : Heap} {a ab : Option Addr} {n c m d : Nat} {l0 : List Value} {cs : List Int} (s : SlA h 8 a n c l0) (hin : InQ h l0 n) (sc : SlA h 1 ab m d (ints .u8 cs)) (hcs : Byte cs) (scl : ∀ i, Blk ab i → i < h.next) :
    Fn Try.prog 8 [.slice a n c, .slice ab m d] h fun v _ => v = .bool true := by
  refine fnK F8.fok rfl ?_
  refine K_reg (Wops_run rfl rfl (K_fin [(0, _), (1, _)] rfl (?_)))
  refine K_ss (K_reg (Wops_call rfl C27 ?_))
  rintro _ _ ⟨rfl, rfl⟩
  refine Wops_run rfl rfl (K_fin [(0, _), (1, _), (19, _)] rfl (?_))
  refine K_scond rfl (fun hc => by cases hc) (fun _ => ?_)
  refine K_sskip (K_ss (K_reg (Wops_run rfl rfl (Wops_run rfl rfl ?_))))
  by_cases hn : n > 8
  · refine Wops_as (w := .bool true) rfl rfl (by rw [decide_eq_true (by omega)]) (Wops_run rfl rfl ?_)
    (repeat (first | refine Wops_skip rfl ?_ | refine Wops_run rfl rfl ?_))
    refine K_fin [(0, _), (1, _), (27, _)] rfl (?_)
    refine K_scond rfl (fun _ => ?_) (fun hc => by cases hc)
    refine K_ss (K_reg (Wops_run rfl rfl (K_fin [(4, _)] rfl (?_))))
    exact K_sret (Told.mk _ rfl rfl)
  refine Wops_as (w := .bool false) rfl rfl (by rw [decide_eq_false (by omega)]) (Wops_run rfl rfl (Wops_go rfl (Wops_run rfl rfl (Wops_go rfl (Wops_run rfl rfl (Wops_go rfl ?_))))))
  by_cases hm : m > 60
  · refine Wops_as (w := .bool true) rfl rfl (by rw [decide_eq_true (by omega)]) (Wops_run rfl rfl (K_fin [(0, _), (1, _), (27, _)] rfl (?_)))
    refine K_scond rfl (fun _ => ?_) (fun hc => by cases hc)
    refine K_ss (K_reg (Wops_run rfl rfl (K_fin [(4, _)] rfl (?_))))
    exact K_sret (Told.mk _ rfl rfl)
  refine Wops_as (w := .bool false) rfl rfl (by rw [decide_eq_false (by omega)]) (Wops_run rfl rfl (K_fin [(0, _), (1, _), (27, _)] rfl (?_)))
  refine K_scond rfl (fun hc => by cases hc) (fun _ => ?_)
  refine K_sskip (K_reg (Wops_run rfl rfl (K_fin [(0, _), (1, _), (5, _)] rfl (?_))))
  refine K_ss (K_reg (Wops_run rfl rfl (K_fin [(0, _), (1, _), (5, _), (6, _)] rfl (?_))))
  refine K_sblock (loop1 s hin (by omega) (fun h' => Told.mk _ rfl rfl) fun h1 rs aa cc x1 hrl hg o bo => bx_same ?_)
  have hbyte := puts_byte2 hg.1
  have hlen := puts_len2 hg.1
  have z1 := x1.next
  -- two sessions
  refine K_reg (Wops_call rfl C29 ?_)
  rintro _ h2 ⟨p1, pp1, rfl, q1, x2, l1, l1'⟩
  refine Wops_call rfl C29 ?_
  rintro _ h3 ⟨p2, pp2, rfl, q2, x3, l2, l2'⟩
  refine Wops_run rfl rfl (Wops_run rfl rfl (K_fin [(0, _), (1, _), (5, _), (7, _), (8, _)] rfl (?_)))
  have z2 := x2.next
  have z3 := x3.next
  have qlt1 := q1.lt
  have qlt2 := q2.lt
  have o3 := (o.ext x2).ext x3
  have T := C30 q2 (fun i r => by rw [r]; exact qlt2.2) (fun x hx => by cases hx) (⟨o3.sl, fun i r => o3.lt r⟩ : InS h3 aa (puts (frames rs)).length cc (ints .u8 (puts (frames rs)))) hbyte (by simp) (by omega)
  rw [addR_whole hg.1] at T
  refine K_reg (Wops_run rfl rfl (Wops_run rfl rfl (Wops_call rfl T ?_)))
  intro v h4 hv
  rw [if_neg (by simp)] at hv
  obtain ⟨x4, s4, la, lc, ea, ec, ws, es, rfl, fd, hws, hes⟩ := hv
  simp only [asks0] at hws
  have z4 := x4.next
  refine Wops_run rfl rfl (Wops_run rfl rfl (Wops_run rfl rfl (Wops_run rfl rfl (Wops_run rfl rfl (K_fin [(0, _), (1, _), (5, _), (7, _), (9, _)] rfl (?_))))))
  refine K_reg (Wops_run rfl rfl (K_fin [(0, _), (1, _), (5, _), (7, _), (9, _), (11, _)] rfl (?_)))
  refine K_ss (K_reg (Wops_run rfl rfl (K_fin [(0, _), (1, _), (5, _), (7, _), (9, _), (11, _), (12, _)] rfl (?_))))
  have x24 : Ext0 h2 h4 := x3.then x4 fun i r => .inr (by omega)
  have x04 : Ext0 h h4 := (x1.trans x2).trans x24
  have q14 := q1.ext0 x24
  have start : Lp h4 h4 p1 pp1 rs [] (puts (frames rs)) [] none 0 [] 5000 :=
    ⟨Ext.refl _ _, q14.swap (fun i r => r.elim .inl fun r => absurd r Blk.none) (.inl rfl), Cut.start (frames_len hg.1), (fun x hx => by cases hx), hbyte, by simp only [List.length_nil]; omega, OwS.none, fun i r => absurd r Blk.none, (fun y hy => by cases hy), rfl⟩
  have hwe : ws.map Qm.r = rs.map normQ := by
    rw [hws, List.map_map, ← frames_norm hg.1]; rfl
  refine K_sblock (loop2 (sc.ext x04) hcs (by omega) (fun i r => by have := scl i r; exact ⟨by omega, by omega⟩) hg.1 (by omega) (Nat.le_refl 5000) (by omega) ((o3.ext x4 fun i r w => by have := o.lt r; omega).sl) (fun i r => by have := o.lt r; exact ⟨by omega, by omega⟩) start fun h5 ha hc ys x5 hys oy iy l i ca cn => bx_same ?_)
  have hyl : ys.length = n := by have := congrArg List.length hys; simpa [hrl] using this
  have hwl : ws.length = n := by have := congrArg List.length hwe; simpa [hrl] using this
  have x05 : Ext0 h h5 := x04.then x5 fun i r => .inr (by omega)
  have ow := fd.l.ext x5 fun i r w => by have := fd.ll i r; omega
  have iw : ∀ y ∈ ws, y.In h5 fun _ => True := fun y hy => ((fd.q y hy).ext x5 fun i r w => by have := r.1; omega).mono fun _ _ => trivial
  refine K_ss (K_reg (Wops_run rfl rfl (Wops_run rfl rfl (Wops_run rfl rfl (Wops_run rfl rfl (Wops_as (w := .bool false) rfl rfl (by simp; omega) (Wops_run rfl rfl (Wops_go rfl (Wops_run rfl rfl (Wops_go rfl (Wops_run rfl rfl (Wops_go rfl (Wops_run rfl rfl (Wops_go rfl (Wops_run rfl rfl (Wops_go rfl (Wops_as (w := .bool false) rfl rfl (by simp; omega) (Wops_run rfl rfl (K_fin [(0, _), (9, _), (11, _), (147, _)] rfl (?_))))))))))))))))))))
  refine K_scond rfl (fun hc => by cases hc) (fun _ => ?_)
  refine K_sskip (K_ss (K_reg (Wops_run rfl rfl (K_fin [(0, _), (9, _), (11, _), (17, _)] rfl (?_)))))
  have hg5 : Good h5 l0 rs := hg
  refine K_sblock (loop3 (s.ext x05) hrl (by omega) hg5 oy ow iy iw hys hwe fun h6 => bx_same ?_)
  refine K_reg (Wops_run rfl rfl (K_fin [(4, _)] rfl (?_)))
  exact K_ret (Told.mk _ rfl rfl)

theorem cells26 : Try.prog.cellsOf 26 = 8 := by kernel_rfl
set_option maxRecDepth 100000 in
theorem open_reqV {b : Base} {N : Nat} {cs : List Value} (h0 : 0 < N) (hd : ∀ id l, b id = some l → id < N) (hb : b 0 = none) (g : GV Try.prog b 3 26 cs) :
    ∃ kd r ba bn bc aa an ac, cs = RqI kd r ba bn bc aa an ac ∧ Inn (heapIn b N) kd r ba bn bc aa an ac := by
  obtain ⟨c1, r1, rfl, l1, f1, c2, r2, rfl, l2, f2, c3, r3, rfl, l3, f3, c4, r4, rfl, l4, f4, c5, r5, rfl, l5, f5, c6, r6, rfl, l6, f6, c7, r7, rfl, l7, f7, c8, r8, rfl, l8, f8, rfl⟩ := GV_struct Try.underlying26 g
  obtain ⟨kd, rfl, hkd⟩ := GV_int Try.underlying3 f1
  obtain ⟨tok, rfl, htok⟩ := GV_int Try.underlying22 f2
  obtain ⟨han, rfl, hhan⟩ := GV_int Try.underlying22 f3
  obtain ⟨s, rfl, hs⟩ := GV_string Try.underlying9 f4
  obtain ⟨ba, bn, bc, xs, rfl, sb, hbn, hxs⟩ := GV_ints h0 hd hb Try.underlying23 Try.underlying5 cells5 f5
  obtain ⟨aa, an, ac, ys, rfl, sa, han', hys⟩ := GV_ints h0 hd hb Try.underlying24 Try.underlying22 cells22 f6
  obtain ⟨tic, rfl, htic⟩ := GV_int Try.underlying22 f7
  obtain ⟨oth, rfl, hoth⟩ := GV_int Try.underlying22 f8
  have w1 := wf_u64 htok
  have w2 := wf_u64 hhan
  have w3 := wf_u64 htic
  have w4 := wf_u64 hoth
  obtain ⟨t, rfl⟩ : ∃ t : Nat, tok = t := ⟨tok.toNat, by omega⟩
  obtain ⟨u, rfl⟩ : ∃ u : Nat, han = u := ⟨han.toNat, by omega⟩
  obtain ⟨c, rfl⟩ : ∃ u : Nat, tic = u := ⟨tic.toNat, by omega⟩
  obtain ⟨o, rfl⟩ : ∃ u : Nat, oth = u := ⟨oth.toNat, by omega⟩
  obtain ⟨nm, rfl, hnm⟩ := strOf_of s
  have s1 := sb.sl
  rw [ints_nat fun x hx => (wf_u8 (hxs x hx)).1] at s1
  have s2 := sa.sl
  rw [ints_nat fun x hx => (wf_u64 (hys x hx)).1] at s2
  have hbb : ∀ v ∈ xs.map Int.toNat, v < 256 := by
    intro v hv
    obtain ⟨x, hx, rfl⟩ := List.mem_map.1 hv
    have := wf_u8 (hxs x hx); omega
  have hab : ∀ v ∈ ys.map Int.toNat, v < M64 := by
    intro v hv
    obtain ⟨x, hx, rfl⟩ := List.mem_map.1 hv
    have := wf_u64 (hys x hx); show x.toNat < 18446744073709551616; omega
  exact ⟨kd, ⟨kd.toNat, t, u, nm, xs.map Int.toNat, ys.map Int.toNat, c, o⟩, ba, bn, bc, aa, an, ac, rfl, ⟨rfl, by show t < 18446744073709551616; omega, by show u < 18446744073709551616; omega, hnm, hbb, hab, by show c < 18446744073709551616; omega, by show o < 18446744073709551616; omega, s1, s2⟩⟩
set_option maxRecDepth 100000 in
theorem sessCuts_fn {b : Base} {N : Nat} {vs : List Value} (h0 : 0 < N) (hd : ∀ id l, b id = some l → id < N) (hb : b 0 = none) (hG : ArgsG Try.prog b 4 [49, 23] vs) : Fn Try.prog 8 vs (heapIn b N) fun v _ => v = .bool true := by
  obtain ⟨v, r, rfl, g, hr⟩ := ArgsG_cons hG
  obtain ⟨v2, r2, rfl, g2, hr2⟩ := ArgsG_cons hr
  obtain rfl := ArgsG_nil hr2
  obtain ⟨a, n, c, l, hv, s, hR, hn, hl⟩ := GV_slice h0 hd hb Try.underlying49 (GA_slice Try.underlying49 g)
  obtain rfl : v = .slice a n c := by simpa using hv
  obtain ⟨xb, xn, xc, xs, hv2, sx, hxn, hxs⟩ := GV_ints h0 hd hb Try.underlying23 Try.underlying5 cells5 (GA_slice Try.underlying23 g2)
  obtain rfl : v2 = .slice xb xn xc := by simpa using hv2
  rw [cells26] at s hR
  refine C8 s (fun i hi => ?_) sx.sl (fun x hx => wf_u8 (hxs x hx)) sx.lt
  obtain ⟨cc, hc1, hc2, hc3⟩ := hR.get i hi
  obtain ⟨kd, r, ba, bn, bc, aa, an, ac, rfl, I⟩ := open_reqV h0 hd hb hc2
  refine ⟨kd, r, ba, bn, bc, aa, an, ac, I, ?_⟩
  apply List.ext_getElem?
  intro j
  by_cases hj : j < 8
  · rw [List.getElem?_take_of_lt hj, List.getElem?_drop, hc3 j hj]
  · rw [List.getElem?_eq_none (by simp; omega), List.getElem?_eq_none (by simp [RqI]; omega)]

end
end Go.Dx.SYtkppbmhpcjjceaa
