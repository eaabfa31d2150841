/- Texts merged: Rr1.lean, Rr2.lean, Rr3.lean, Rr4.lean, Ra1.lean. -/
import Derived.Test.YtkppbmhpcjjceaaRq12
import Derived.Test.YtkppbmhpcjjceaaRq11
namespace Go.Dx.SYtkppbmhpcjjceaa
open Go.Proofs
section
/- The document's writers: eight, PutU, putName, PutRequest; SameRequest. -/
set_option linter.unusedVariables false
set_option linter.unusedSimpArgs false

/-- the document's eight -/
theorem C57 {h : Heap} {a : Option Addr} {n c : Nat} {xs : List Nat} {v : Nat} (s : SlA h 1 a n c (bys xs)) (hb : n ≤ 1000) (hv : v < 18446744073709551616) :
    Fn Try.prog 57 [.slice a n c, .int .u64 (v : Int)] h fun r h' => ∃ a' c', r = .slice a' (n + 8) c' ∧ OwS h' 1 a' (n + 8) c' (bys (xs ++ enc8 v)) ∧ Ext0 h h' ∧ ∀ i, Blk a' i → h.next ≤ i := by
  refine fnK F57.fok rfl ?_
  refine K_reg (Wops_run rfl rfl (K_fin [(0, _), (1, _)] rfl (?_)))
  refine K_reg (Wops_bslice (l := []) rfl rfl fun h1 n1 x1 g1 => ?_)
  refine Wops_run rfl rfl (Wops_app rfl rfl (OwS.new (n := 0) g1 rfl) rfl (s.ext x1).first ⟨by omega, by omega⟩ s.len (bys_cell _) (by decide) fun h2 a2 c2 x2 o2 b2 => ?_)
  refine Wops_run rfl rfl (K_fin [(1, _), (5, _)] rfl (?_))
  have z1 := x1.next
  have z2 := x2.next
  have b2' : ∀ i, Blk a2 i → h.next ≤ i := fun i q => (b2 i q).elim (fun q => by rw [Blk.at] at q; omega) fun q => by omega
  have x02 : Ext0 h h2 := x1.then x2 fun i q => .inr (by rw [Blk.at] at q; omega)
  rw [List.nil_append, Nat.zero_add] at o2
  rw [Nat.zero_add]
  refine K_ss (K_reg (Wops_run rfl rfl (K_fin [(1, _), (5, _), (6, _)] rfl (?_))))
  refine K_sblock ?_
  refine K_loop (fun k e h' => ∃ (j : Nat) (a' : Option Addr) (c' : Nat), e = [(1, .int .u64 (v : Int)), (5, .slice a' (n + j) c'), (6, .int .i64 (j : Int))] ∧ j ≤ 8 ∧ k = 8 - j ∧ OwS h' 1 a' (n + j) c' (bys (xs ++ (enc8 v).take j)) ∧ Ext0 h h' ∧ ∀ i, Blk a' i → h.next ≤ i) ?_ (k := 8) ⟨0, a2, c2, rfl, by omega, rfl, by simpa using o2, x02, b2'⟩
  rintro k e h' ⟨j, a', c', rfl, hj, rfl, o', x', b'⟩
  refine K_ss (K_reg (Wops_run rfl rfl ?_))
  by_cases hj8 : j < 8
  · refine Wops_as (w := .bool true) rfl rfl (by rw [decide_eq_true (by omega)]) (K_fin [(1, _), (5, _), (6, _), (11, _)] rfl (?_))
    refine K_scond rfl (fun _ => ?_) (fun hc => by cases hc)
    refine K_sskip (K_sblock ?_)
    refine K_last (Wops_run rfl rfl (Wops_run rfl rfl (Wops_run rfl rfl (Wops_as (w := .int .i64 ((8 * j : Nat) : Int)) rfl rfl (by rw [w64 (by omega)]; congr 1) (Wops_as (w := .int .i64 ((8 * (7 - j) : Nat) : Int)) rfl rfl (by rw [w64 (by omega)]; congr 1; omega) (Wops_as (w := .int .u64 ((v / 2 ^ (8 * (7 - j)) : Nat) : Int)) rfl rfl ?_ (Wops_as (w := .int .u8 ((v / 2 ^ (8 * (7 - j)) % 256 : Nat) : Int)) rfl rfl (by rw [wr8m]) ?_)))))))
    · exact Option.some.inj (shrN (kk := .i64) (k := .u64) (by show _ ≤ 64; omega))
    refine Wops_bslice (l := bys [v / 2 ^ (8 * (7 - j)) % 256]) rfl rfl fun h1 n1 x1 g1 => ?_
    refine Wops_app rfl rfl (o'.ext x1) rfl (OwS.new (n := 1) (c := 1) g1 rfl).sl.first ⟨by omega, by omega⟩ rfl rfl (by decide) fun h2 a2 c2 x2 o2 b2 => ?_
    refine Wops_run rfl rfl (K_finL [(1, _), (5, _), (6, _)] rfl (?_))
    refine K_last (Wops_run rfl rfl (Wops_run rfl rfl (Wops_run rfl rfl (K_finL [(1, _), (5, _), (6, _)] rfl (?_)))))
    have z' := x'.next
    have z1 := x1.next
    refine ⟨8 - (j + 1), by omega, j + 1, a2, c2, by rw [w64s (by omega)]; rfl, by omega, rfl, ?_, (x'.trans x1).then x2 fun i r => .inr (b' i r), fun i r => (b2 i r).elim (b' i) fun r => by omega⟩
    rw [enc8_take hj8, ← List.append_assoc, bys_app]; exact o2
  · obtain rfl : j = 8 := by omega
    refine Wops_as (w := .bool false) rfl rfl rfl (K_fin [(1, _), (5, _), (6, _), (11, _)] rfl (?_))
    refine K_scond rfl (fun hc => by cases hc) (fun _ => ?_)
    refine K_sexit (bx_same ?_)
    refine K_reg (Wops_run rfl rfl (Wops_run rfl rfl (K_fin [(4, _)] rfl (?_))))
    exact K_ret (Told.mk _ rfl ⟨a', c', rfl, o', x', b'⟩)

/-- the document's PutU -/
theorem C59 {h : Heap} {a : Option Addr} {n c : Nat} {xs : List Nat} {v : Nat} (s : SlA h 1 a n c (bys xs)) (hb : n ≤ 10000) (hv : v < 18446744073709551616) :
    Fn Try.prog 59 [.slice a n c, .int .u64 (v : Int)] h fun r h' => ∃ a' c', r = .slice a' (n + (encU v).length) c' ∧ OwS h' 1 a' (n + (encU v).length) c' (bys (xs ++ encU v)) ∧ Ext0 h h' ∧ ∀ i, Blk a' i → h.next ≤ i := by
  have hlen : (encU v).length ≤ 10 := encU_len 10 v (Nat.lt_of_lt_of_le hv (by decide)) (by decide)
  refine fnK F59.fok rfl ?_
  refine K_reg (Wops_run rfl rfl (K_fin [(0, _), (1, _)] rfl (?_)))
  refine K_reg (Wops_bslice (l := []) rfl rfl fun h1 n1 x1 g1 => ?_)
  refine Wops_run rfl rfl (Wops_app rfl rfl (OwS.new (n := 0) g1 rfl) rfl (s.ext x1).first ⟨by omega, by omega⟩ s.len (bys_cell _) (by decide) fun h2 a2 c2 x2 o2 b2 => ?_)
  refine Wops_run rfl rfl (K_fin [(1, _), (5, _)] rfl (?_))
  have z1 := x1.next
  have z2 := x2.next
  have b2' : ∀ i, Blk a2 i → h.next ≤ i := fun i q => (b2 i q).elim (fun q => by rw [Blk.at] at q; omega) fun q => by omega
  have x02 : Ext0 h h2 := x1.then x2 fun i q => .inr (by rw [Blk.at] at q; omega)
  rw [List.nil_append, Nat.zero_add] at o2
  rw [Nat.zero_add]
  refine K_sblock ?_
  refine K_loop (fun k e h' => ∃ (w : Nat) (pre : List Nat) (la : Option Addr) (lc : Nat), e = [(1, .int .u64 (w : Int)), (5, .slice la (n + pre.length) lc)] ∧ w = k ∧ w ≤ v ∧ encU v = pre ++ encU w ∧ OwS h' 1 la (n + pre.length) lc (bys (xs ++ pre)) ∧ (∀ j, Blk la j → h.next ≤ j) ∧ Ext0 h h') ?_ (k := v) ⟨v, [], a2, c2, rfl, rfl, Nat.le_refl _, rfl, by simpa using o2, b2', x02⟩
  rintro k e h' ⟨w, pre, la, lc, rfl, rfl, hwv, he, o, bo, x'⟩
  have hpl : pre.length + (encU w).length ≤ 10 := by have := congrArg List.length he; rw [List.length_append] at this; omega
  have hwp := encU_pos w
  refine K_ss (K_reg (Wops_run rfl rfl ?_))
  by_cases hw : w < 128
  · refine Wops_as (w := .bool false) rfl rfl (by rw [decide_eq_false (by omega)]) (K_fin [(1, _), (5, _), (10, _)] rfl (?_))
    refine K_scond rfl (fun hc => by cases hc) (fun _ => ?_)
    refine K_sexit (bx_same ?_)
    refine K_reg (Wops_run rfl rfl (Wops_run rfl rfl (Wops_as (w := .int .u8 (w : Int)) rfl rfl (by rw [wr8m, Nat.mod_eq_of_lt (by omega)]) (Wops_bslice (l := bys [w]) rfl rfl fun h1 n1 x1 g1 => ?_))))
    refine Wops_app rfl rfl (o.ext x1) rfl (OwS.new (n := 1) (c := 1) g1 rfl).sl.first ⟨by omega, by omega⟩ rfl rfl (by decide) fun h2 a2 c2 x2 o2 b2 => ?_
    have z' := x'.next
    have z1 := x1.next
    refine Wops_run rfl rfl (K_fin [(4, _)] rfl (?_))
    have hl : n + (encU v).length = n + pre.length + 1 := by rw [he, encU_lt hw]; simp; omega
    refine K_ret (Told.mk _ rfl ⟨a2, c2, by rw [hl]; rfl, ?_, (x'.trans x1).then x2 fun i r => .inr (bo i r), fun i r => (b2 i r).elim (bo i) fun r => by omega⟩)
    rw [hl, he, encU_lt hw, ← List.append_assoc, bys_app]; exact o2
  · refine Wops_as (w := .bool true) rfl rfl (by rw [decide_eq_true (by omega)]) (K_fin [(1, _), (5, _), (10, _)] rfl (?_))
    refine K_scond rfl (fun _ => ?_) (fun hc => by cases hc)
    refine K_sskip (K_block ?_)
    refine K_reg (Wops_run rfl rfl (Wops_run rfl rfl (Wops_as (w := .int .u8 ((w % 256 : Nat) : Int)) rfl rfl (by rw [wr8m]) (Wops_as (w := .int .u8 ((w % 128 + 128 : Nat) : Int)) rfl rfl ?_ ?_))))
    · have h1 := or128 ⟨w % 256, Nat.mod_lt _ (by decide)⟩
      show Value.int .u8 (IntKind.wrap .u8 (((BitVec.ofInt 8 ((w % 256 : Nat) : Int) ||| BitVec.ofInt 8 128).toNat : Nat) : Int)) = _
      rw [h1, wr8m]; congr 2; simp only; omega
    refine Wops_bslice (l := bys [w % 128 + 128]) rfl rfl fun h1 n1 x1 g1 => ?_
    refine Wops_app rfl rfl (o.ext x1) rfl (OwS.new (n := 1) (c := 1) g1 rfl).sl.first ⟨by omega, by omega⟩ rfl rfl (by decide) fun h2 a2 c2 x2 o2 b2 => ?_
    refine Wops_run rfl rfl (K_fin [(1, _), (5, _)] rfl (?_))
    refine K_last (Wops_run rfl rfl (Wops_as (w := .int .u64 ((w / 128 : Nat) : Int)) rfl rfl (by show Value.int .u64 ((w : Int).fdiv _) = _; congr 1; exact fdivN w 128) (Wops_run rfl rfl (K_finL [(1, _), (5, _)] rfl (?_)))))
    have z' := x'.next
    have z1 := x1.next
    refine ⟨w / 128, by omega, w / 128, pre ++ [w % 128 + 128], a2, c2, by simp [Nat.add_assoc], rfl, by omega, by rw [he, encU_ge hw]; simp, ?_, fun j r => (b2 j r).elim (bo j) fun r => by omega, (x'.trans x1).then x2 fun i r => .inr (bo i r)⟩
    rw [List.length_append, ← List.append_assoc, bys_app, ← Nat.add_assoc]; exact o2

/-- the document's putName -/
theorem C58 {h : Heap} {a : Option Addr} {n c : Nat} {xs nm : List Nat} (s : SlA h 1 a n c (bys xs)) (hb : n ≤ 500) (hl : nm.length ≤ 100) (hn : ∀ x ∈ nm, x < 256) :
    Fn Try.prog 58 [.slice a n c, .string (strOf nm)] h fun v h' => ∃ a' c', v = .slice a' (n + (encN nm).length) c' ∧ OwS h' 1 a' (n + (encN nm).length) c' (bys (xs ++ encN nm)) ∧ Ext0 h h' ∧ ∀ i, Blk a' i → h.next ≤ i := by
  refine fnK F58.fok rfl ?_
  refine K_reg (Wops_run rfl rfl (K_fin [(0, _), (1, _)] rfl (?_)))
  have hlen : (encU nm.length).length ≤ 10 := encU_len 10 nm.length (Nat.lt_of_le_of_lt hl (by decide)) (by decide)
  refine K_reg (Wops_run rfl rfl (Wops_run rfl rfl (Wops_run rfl rfl (Wops_as (w := .int .u64 (nm.length : Int)) rfl rfl (by rw [strOf_size, wr64m, Nat.mod_eq_of_lt (by omega)]) (Wops_call rfl (C59 s (by omega) (by omega)) ?_)))))
  rintro _ h2 ⟨a2, c2, rfl, o2, x2, b2⟩
  refine Wops_run rfl rfl (Wops_app (m := (strOf nm).size) rfl rfl o2 rfl (first_str hn) (by rw [strOf_size]; omega) (by rw [strOf_size]; simp) (bys_cell _) (by decide) fun h3 a3 c3 x3 o3 b3 => ?_)
  refine Wops_run rfl rfl (K_fin [(4, _)] rfl (?_))
  have z2 := x2.next
  have e2 : n + (encN nm).length = n + (encU nm.length).length + (strOf nm).size := by unfold encN; rw [strOf_size, List.length_append]; omega
  refine K_ret (Told.mk _ rfl ⟨a3, c3, by rw [e2]; rfl, ?_, x2.then x3 fun i r => .inr (b2 i r), fun i r => (b3 i r).elim (b2 i) fun r => by omega⟩)
  rw [e2]; unfold encN; rw [← List.append_assoc, bys_app]; exact o3

set_option maxHeartbeats 2000000 in
/-- the document's PutRequest -/
theorem C20 {h : Heap} {r : Rq} {ba aa : Option Addr} {bn bc an ac : Nat} (k : r.Fit) (s1 : SlA h 1 ba bn bc (bys r.body)) (s2 : SlA h 1 aa an ac (u64s r.args)) :
    Fn Try.prog 20 [.agg ⟨RqV r ba bn bc aa an ac⟩] h fun v h' => ∃ a' c', v = .slice a' (encQ r).length c' ∧ OwS h' 1 a' (encQ r).length c' (bys (encQ r)) ∧ Ext0 h h' ∧ ∀ i, Blk a' i → h.next ≤ i := by
  have hbn : r.body.length = bn := by simpa using s1.len
  have han : r.args.length = an := by simpa using s2.len
  have kb := k.b
  have ka := k.a
  have kn := k.n
  have kk1 := k.k1
  have kk6 := k.k6
  refine fnK F20.fok rfl ?_
  refine K_reg (Wops_box (cs := RqV r ba bn bc aa an ac) rfl rfl fun h1 n1 x1 g1 => Wops_run rfl rfl (K_fin [(1, _)] rfl (?_)))
  refine K_reg (Wops_run rfl rfl (Wops_ld (v := .int .i64 (r.kind : Int)) rfl g1 rfl (Wops_as (w := .int .u8 (r.kind : Int)) rfl rfl (by rw [wr8m, Nat.mod_eq_of_lt (by omega)]) (Wops_bslice (l := bys [r.kind]) rfl rfl fun h2 n2 x2 g2 => ?_))))
  have g12 : At h2 h.next (.cells (RqV r ba bn bc aa an ac) 0 false) := At.ext g1 x2
  refine Wops_run rfl rfl (Wops_ld (v := .int .u64 (r.tok : Int)) rfl g12 rfl (Wops_call rfl (C57 (n := 1) (xs := [r.kind]) (OwS.new (n := 1) (c := 1) g2 rfl).sl (by decide) k.t) ?_))
  rintro _ h3 ⟨a3, c3, rfl, o3, x3, b3⟩
  refine Wops_run rfl rfl (K_fin [(1, _), (3, _)] rfl (?_))
  have z1 := x1.next
  have z2 := x2.next
  have z3 := x3.next
  have b3' : ∀ i, Blk a3 i → h.next + 1 ≤ i := fun i q => by have := b3 i q; omega
  have x03 : Ext0 h h3 := (x1.trans x2).trans x3
  have g13 : At h3 h.next (.cells (RqV r ba bn bc aa an ac) 0 false) := g12.ext x3
  have s13 := s1.ext x03
  have s23 := s2.ext x03
  have hlen : (encQ r).length = 1 + 8 + (encB r).length := by unfold encQ; simp only [List.length_append, enc8_len, List.length_singleton]; omega
  have hq : encQ r = ([r.kind] ++ enc8 r.tok) ++ encB r := by unfold encQ; rw [List.append_assoc]
  have hs := encU_len 10 r.han (Nat.lt_of_lt_of_le k.h (by decide)) (by decide)
  have hnl : (encN r.name).length ≤ 70 := by
    have h1 := encU_len 10 r.name.length (Nat.lt_of_le_of_lt kn (by decide)) (by decide)
    unfold encN; rw [List.length_append]; omega
  rw [hlen, hq]
  refine K_ss (K_reg (Wops_run rfl rfl (Wops_ld (v := .int .i64 (r.kind : Int)) rfl g13 rfl (K_fin [(1, _), (3, _), (13, _)] rfl (?_)))))
  refine K_sblock ?_
  have hh : r.kind = 1 ∨ r.kind = 2 ∨ r.kind = 3 ∨ r.kind = 4 ∨ r.kind = 5 ∨ r.kind = 6 := by omega
  rcases hh with hk | hk | hk | hk | hk | hk
  · refine K_reg (Wops_as (w := .bool true) rfl rfl (by rw [hk]; rfl) (Wops_run rfl rfl (K_fin [(1, _), (3, _), (13, _), (14, _)] rfl (?_))))
    refine K_cond rfl (fun _ => ?_) (fun hc => by cases hc)
    have eB : encB r = r.body := by unfold encB; rw [hk]; rfl
    rw [eB]
    refine K_reg (Wops_run rfl rfl (Wops_run rfl rfl (Wops_ld (v := .slice ba bn bc) rfl g13 rfl (Wops_app (m := bn) rfl rfl o3 rfl s13.first ⟨by omega, by omega⟩ s13.len (bys_cell _) (by decide) fun h4 a4 c4 x4 o4 b4 => ?_))))
    refine Wops_run rfl rfl (K_fin [(2, _)] rfl (?_))
    refine K_ret (Told.mk _ rfl ⟨a4, c4, by rw [hbn]; rfl, ?_, x03.then x4 fun i q => .inr (by have := b3' i q; omega), fun i q => (b4 i q).elim (fun q => by have := b3' i q; omega) fun q => by omega⟩)
    rw [hbn, bys_app]; exact o4
  · refine K_reg (Wops_as (w := .bool false) rfl rfl (by rw [hk]; rfl) (Wops_run rfl rfl (K_fin [(1, _), (3, _), (13, _), (14, _)] rfl (?_))))
    refine K_cond rfl (fun hc => by cases hc) (fun _ => ?_)
    refine K_reg (Wops_as (w := .bool true) rfl rfl (by rw [hk]; rfl) (Wops_run rfl rfl (K_fin [(1, _), (3, _), (13, _), (20, _)] rfl (?_))))
    refine K_cond rfl (fun _ => ?_) (fun hc => by cases hc)
    have eB : encB r = encU r.han ++ encN r.name := by unfold encB; rw [hk]; rfl
    rw [eB]
    refine K_reg (Wops_run rfl rfl (Wops_run rfl rfl (Wops_ld (v := .int .u64 (r.han : Int)) rfl g13 rfl (Wops_run rfl rfl (Wops_ld (v := .string (strOf r.name)) rfl g13 rfl (Wops_call rfl (C59 o3.sl (by decide) k.h) ?_))))))
    rintro _ h5 ⟨a5, c5, rfl, o5, x5, b5⟩
    have g15 := g13.ext x5
    have z5 := x5.next
    refine Wops_chk rfl rfl g15 (v := .string (strOf r.name)) rfl (sameS _) (Wops_call rfl (C58 o5.sl (by omega) (by omega) k.nb) ?_)
    rintro _ h6 ⟨a6, c6, rfl, o6, x6, b6⟩
    refine Wops_run rfl rfl (K_fin [(2, _)] rfl (?_))
    refine K_ret (Told.mk _ rfl ⟨a6, c6, by rw [List.length_append, ← Nat.add_assoc]; rfl, ?_, (x03.trans x5).trans x6, fun i q => by have := b6 i q; omega⟩)
    rw [List.length_append, ← Nat.add_assoc, ← List.append_assoc]; exact o6
  · refine K_reg (Wops_as (w := .bool false) rfl rfl (by rw [hk]; rfl) (Wops_run rfl rfl (K_fin [(1, _), (3, _), (13, _), (14, _)] rfl (?_))))
    refine K_cond rfl (fun hc => by cases hc) (fun _ => ?_)
    refine K_reg (Wops_as (w := .bool false) rfl rfl (by rw [hk]; rfl) (Wops_run rfl rfl (K_fin [(1, _), (3, _), (13, _), (20, _)] rfl (?_))))
    refine K_cond rfl (fun hc => by cases hc) (fun _ => ?_)
    refine K_reg (Wops_as (w := .bool true) rfl rfl (by rw [hk]; rfl) (Wops_run rfl rfl (K_fin [(1, _), (3, _), (13, _), (29, _)] rfl (?_))))
    refine K_cond rfl (fun _ => ?_) (fun hc => by cases hc)
    have eB : encB r = encN r.name := by unfold encB; rw [hk]; rfl
    rw [eB]
    refine K_reg (Wops_run rfl rfl (Wops_run rfl rfl (Wops_ld (v := .string (strOf r.name)) rfl g13 rfl (Wops_call rfl (C58 o3.sl (by omega) (by omega) k.nb) ?_))))
    rintro _ h6 ⟨a6, c6, rfl, o6, x6, b6⟩
    refine Wops_run rfl rfl (K_fin [(2, _)] rfl (?_))
    exact K_ret (Told.mk _ rfl ⟨a6, c6, rfl, o6, x03.trans x6, fun i q => by have := b6 i q; omega⟩)
  · refine K_reg (Wops_as (w := .bool false) rfl rfl (by rw [hk]; rfl) (Wops_run rfl rfl (K_fin [(1, _), (3, _), (13, _), (14, _)] rfl (?_))))
    refine K_cond rfl (fun hc => by cases hc) (fun _ => ?_)
    refine K_reg (Wops_as (w := .bool false) rfl rfl (by rw [hk]; rfl) (Wops_run rfl rfl (K_fin [(1, _), (3, _), (13, _), (20, _)] rfl (?_))))
    refine K_cond rfl (fun hc => by cases hc) (fun _ => ?_)
    refine K_reg (Wops_as (w := .bool false) rfl rfl (by rw [hk]; rfl) (Wops_run rfl rfl (K_fin [(1, _), (3, _), (13, _), (29, _)] rfl (?_))))
    refine K_cond rfl (fun hc => by cases hc) (fun _ => ?_)
    refine K_reg (Wops_as (w := .bool true) rfl rfl (by rw [hk]; rfl) (Wops_run rfl rfl (K_fin [(1, _), (3, _), (13, _), (35, _)] rfl (?_))))
    refine K_cond rfl (fun _ => ?_) (fun hc => by cases hc)
    have eB : encB r = encU r.han ++ (encN r.name ++ (encL r.args ++ encU r.tic)) := by unfold encB; rw [hk]; rfl
    rw [eB]
    refine K_reg (Wops_run rfl rfl (Wops_run rfl rfl (Wops_ld (v := .int .u64 (r.han : Int)) rfl g13 rfl (Wops_run rfl rfl (Wops_ld (v := .string (strOf r.name)) rfl g13 rfl (Wops_run rfl rfl (Wops_ld (v := .slice aa an ac) rfl g13 rfl (Wops_run rfl rfl (Wops_as (w := .int .u64 (an : Int)) rfl rfl (by rw [wr64m, Nat.mod_eq_of_lt (by omega)]) (Wops_call rfl (C59 o3.sl (by decide) k.h) ?_))))))))))
    rintro _ h5 ⟨a5, c5, rfl, o5, x5, b5⟩
    have g15 := g13.ext x5
    have z5 := x5.next
    refine Wops_chk rfl rfl g15 (v := .string (strOf r.name)) rfl (sameS _) (Wops_chk rfl rfl g15 (v := .slice aa an ac) rfl s2.same (Wops_call rfl (C58 o5.sl (by omega) (by omega) k.nb) ?_))
    rintro _ h6 ⟨a6, c6, rfl, o6, x6, b6⟩
    have z6 := x6.next
    have g16 := g15.ext x6
    refine Wops_chk rfl rfl g16 (v := .slice aa an ac) rfl s2.same (Wops_call rfl (C59 o6.sl (by omega) (by omega)) ?_)
    rintro _ h7 ⟨a7, c7, rfl, o7, x7, b7⟩
    refine Wops_run rfl rfl (K_fin [(1, _), (3, _)] rfl (?_))
    have z7 := x7.next
    have g17 := g16.ext x7
    have x07 : Ext0 h h7 := ((x03.trans x5).trans x6).trans x7
    have hal := encU_len 10 an (by omega) (by decide)
    refine K_ss (K_reg (Wops_run rfl rfl (K_fin [(1, _), (3, _), (4, _)] rfl (?_))))
    generalize hX : [r.kind] ++ enc8 r.tok ++ encU r.han ++ encN r.name ++ encU an = X at o7
    have hXl : X.length = 1 + 8 + (encU r.han).length + (encN r.name).length + (encU an).length := by
      rw [← hX]; simp only [List.length_append, enc8_len, List.length_singleton]; try omega
    rw [← hXl] at o7 ⊢
    have hXb : X.length ≤ 100 := by omega
    refine K_sblock ?_
    refine K_loop (fun kk e h' => ∃ (i : Nat) (a' : Option Addr) (c' : Nat), e = [(1, ptr h.next), (3, .slice a' (X.length + (encUs (r.args.take i)).length) c'), (4, .int .i64 (i : Int))] ∧ i ≤ an ∧ kk = an - i ∧ OwS h' 1 a' (X.length + (encUs (r.args.take i)).length) c' (bys (X ++ encUs (r.args.take i))) ∧ Ext0 h h' ∧ (At h' h.next (.cells (RqV r ba bn bc aa an ac) 0 false)) ∧ ∀ j, Blk a' j → h.next ≤ j) ?_ (k := an)
      ⟨0, a7, c7, rfl, by omega, rfl, by simpa [encUs] using o7, x07, g17, fun j q => by have := b7 j q; omega⟩
    rintro kk e h' ⟨i, a', c', rfl, hi, rfl, o', x', g', b'⟩
    have hlt10 : (encUs (r.args.take i)).length ≤ 10 * i := by
      have := encUs_len (vs := r.args.take i) fun v hx => k.ab v (List.mem_of_mem_take hx)
      rw [List.length_take] at this; omega
    have z' := x'.next
    refine K_ss (K_reg (Wops_run rfl rfl (Wops_run rfl rfl (Wops_ld (v := .slice aa an ac) rfl g' rfl (Wops_run rfl rfl (Wops_run rfl rfl (K_fin [(1, _), (3, _), (4, _), (53, _)] rfl (?_))))))))
    refine K_scond rfl (fun hc => ?_) (fun hc => ?_)
    · have hlt : i < an := by have := of_decide_eq_true hc; omega
      have hil : i < r.args.length := by omega
      refine K_sskip (K_sblock ?_)
      refine K_last (Wops_run rfl rfl (Wops_run rfl rfl (Wops_ld (v := .slice aa an ac) rfl g' rfl (Wops_run rfl rfl (Wops_idx (u := .int .u64 ((r.args[i] : Nat) : Int)) rfl rfl (s2.ext x') ⟨by omega, by omega⟩ (by simp [u64s, hil]) fun _ => ?_)))))
      refine Wops_call rfl (C59 o'.sl (by omega) (k.ab _ (List.getElem_mem _))) ?_
      rintro _ h8 ⟨a8, c8, rfl, o8, x8, b8⟩
      refine Wops_run rfl rfl (K_finL [(1, _), (3, _), (4, _)] rfl (?_))
      refine K_last (Wops_run rfl rfl (Wops_run rfl rfl (Wops_run rfl rfl (K_finL [(1, _), (3, _), (4, _)] rfl (?_)))))
      have hst : encUs (r.args.take (i + 1)) = encUs (r.args.take i) ++ encU r.args[i] := by
        unfold encUs
        rw [List.take_add_one, List.getElem?_eq_getElem hil, Option.toList_some, List.flatMap_append]
        simp
      refine ⟨an - (i + 1), by omega, i + 1, a8, c8, by rw [w64s (by omega), hst, List.length_append, Nat.add_assoc], by omega, rfl, ?_, x'.trans x8, g'.ext x8, fun j q => by have := b8 j q; omega⟩
      rw [hst, List.length_append, ← Nat.add_assoc, ← List.append_assoc]; exact o8
    · have hin : i = an := by have := of_decide_eq_false hc; omega
      have hall : r.args.take i = r.args := List.take_of_length_le (by omega)
      rw [hall] at o' hlt10 ⊢
      refine K_sexit (bx_same ?_)
      refine K_reg (Wops_run rfl rfl (Wops_run rfl rfl (Wops_ld (v := .int .u64 (r.tic : Int)) rfl g' rfl (Wops_call rfl (C59 o'.sl (by omega) k.c) ?_))))
      rintro _ h8 ⟨a8, c8, rfl, o8, x8, b8⟩
      refine Wops_run rfl rfl (K_fin [(2, _)] rfl (?_))
      have hl4 : 1 + 8 + (encU r.han ++ (encN r.name ++ (encL r.args ++ encU r.tic))).length = X.length + (encUs r.args).length + (encU r.tic).length := by
        rw [hXl]; simp only [List.length_append, encL, han]; omega
      have hq4 : [r.kind] ++ enc8 r.tok ++ (encU r.han ++ (encN r.name ++ (encL r.args ++ encU r.tic))) = X ++ encUs r.args ++ encU r.tic := by
        rw [← hX]; simp only [encL, han, List.append_assoc]
      refine K_ret (Told.mk _ rfl ⟨a8, c8, by rw [hl4]; rfl, ?_, x'.trans x8, fun j q => by have := b8 j q; omega⟩)
      rw [hl4, hq4]; exact o8
  · refine K_reg (Wops_as (w := .bool false) rfl rfl (by rw [hk]; rfl) (Wops_run rfl rfl (K_fin [(1, _), (3, _), (13, _), (14, _)] rfl (?_))))
    refine K_cond rfl (fun hc => by cases hc) (fun _ => ?_)
    refine K_reg (Wops_as (w := .bool false) rfl rfl (by rw [hk]; rfl) (Wops_run rfl rfl (K_fin [(1, _), (3, _), (13, _), (20, _)] rfl (?_))))
    refine K_cond rfl (fun hc => by cases hc) (fun _ => ?_)
    refine K_reg (Wops_as (w := .bool false) rfl rfl (by rw [hk]; rfl) (Wops_run rfl rfl (K_fin [(1, _), (3, _), (13, _), (29, _)] rfl (?_))))
    refine K_cond rfl (fun hc => by cases hc) (fun _ => ?_)
    refine K_reg (Wops_as (w := .bool false) rfl rfl (by rw [hk]; rfl) (Wops_run rfl rfl (K_fin [(1, _), (3, _), (13, _), (35, _)] rfl (?_))))
    refine K_cond rfl (fun hc => by cases hc) (fun _ => ?_)
    refine K_reg (Wops_as (w := .bool true) rfl rfl (by rw [hk]; rfl) (Wops_run rfl rfl (K_fin [(1, _), (3, _), (67, _)] rfl (?_))))
    refine K_cond rfl (fun _ => ?_) (fun hc => by cases hc)
    have eB : encB r = encU r.han := by unfold encB; rw [hk]; rfl
    rw [eB]
    refine K_reg (Wops_run rfl rfl (Wops_run rfl rfl (Wops_ld (v := .int .u64 (r.han : Int)) rfl g13 rfl (Wops_call rfl (C59 o3.sl (by decide) k.h) ?_))))
    rintro _ h5 ⟨a5, c5, rfl, o5, x5, b5⟩
    refine Wops_run rfl rfl (K_fin [(2, _)] rfl (?_))
    exact K_ret (Told.mk _ rfl ⟨a5, c5, rfl, o5, x03.trans x5, fun i q => by have := b5 i q; omega⟩)
  · refine K_reg (Wops_as (w := .bool false) rfl rfl (by rw [hk]; rfl) (Wops_run rfl rfl (K_fin [(1, _), (3, _), (13, _), (14, _)] rfl (?_))))
    refine K_cond rfl (fun hc => by cases hc) (fun _ => ?_)
    refine K_reg (Wops_as (w := .bool false) rfl rfl (by rw [hk]; rfl) (Wops_run rfl rfl (K_fin [(1, _), (3, _), (13, _), (20, _)] rfl (?_))))
    refine K_cond rfl (fun hc => by cases hc) (fun _ => ?_)
    refine K_reg (Wops_as (w := .bool false) rfl rfl (by rw [hk]; rfl) (Wops_run rfl rfl (K_fin [(1, _), (3, _), (13, _), (29, _)] rfl (?_))))
    refine K_cond rfl (fun hc => by cases hc) (fun _ => ?_)
    refine K_reg (Wops_as (w := .bool false) rfl rfl (by rw [hk]; rfl) (Wops_run rfl rfl (K_fin [(1, _), (3, _), (13, _), (35, _)] rfl (?_))))
    refine K_cond rfl (fun hc => by cases hc) (fun _ => ?_)
    refine K_reg (Wops_as (w := .bool false) rfl rfl (by rw [hk]; rfl) (Wops_run rfl rfl (K_fin [(1, _), (3, _), (67, _)] rfl (?_))))
    refine K_cond rfl (fun hc => by cases hc) (fun _ => ?_)
    have eB : encB r = enc8 r.oth := by unfold encB; rw [hk]; rfl
    rw [eB]
    refine K_skip ?_
    refine K_reg (Wops_run rfl rfl (Wops_run rfl rfl (Wops_ld (v := .int .u64 (r.oth : Int)) rfl g13 rfl (Wops_call rfl (C57 o3.sl (by decide) k.o) ?_))))
    rintro _ h5 ⟨a5, c5, rfl, o5, x5, b5⟩
    refine Wops_run rfl rfl (K_fin [(2, _)] rfl (?_))
    exact K_ret (Told.mk _ rfl ⟨a5, c5, rfl, o5, x03.trans x5, fun i q => by have := b5 i q; omega⟩)

set_option maxHeartbeats 2000000 in
/-- the document's SameRequest -/
theorem C16 {h : Heap} {r q : Rq} {ba aa bb ab : Option Addr} {bn bc an ac bm bd am ad : Nat} (s1 : SlA h 1 ba bn bc (bys r.body)) (s2 : SlA h 1 aa an ac (u64s r.args)) (s3 : SlA h 1 bb bm bd (bys q.body)) (s4 : SlA h 1 ab am ad (u64s q.args))
    (hr : ∀ x ∈ r.name, x < 256) (hq : ∀ x ∈ q.name, x < 256) (hrb : ∀ x ∈ r.body, x < 256) (hqb : ∀ x ∈ q.body, x < 256) (han : an ≤ 1000000) :
    Fn Try.prog 16 [.agg ⟨RqV r ba bn bc aa an ac⟩, .agg ⟨RqV q bb bm bd ab am ad⟩] h fun v h' => v = .bool (decide (r = q)) ∧ Ext0 h h' := by
  refine fnK F16.fok rfl ?_
  refine K_reg (Wops_box (cs := RqV r ba bn bc aa an ac) rfl rfl fun h1 n1 x1 g1' => Wops_box (cs := RqV q bb bm bd ab am ad) rfl rfl fun h2 n2 x2 g2 => Wops_run rfl rfl (K_fin [(2, _), (3, _)] rfl (?_)))
  have g1 : At h2 h.next (.cells (RqV r ba bn bc aa an ac) 0 false) := At.ext g1' x2
  have no : ∀ {P : Prop}, (r = q → P) → ¬ P → decide (r = q) = false := fun f n => decide_eq_false fun e => n (f e)
  refine K_reg ?_
  refine Wops_run rfl rfl (Wops_ld (v := .int .i64 (r.kind : Int)) rfl g1 rfl (Wops_run rfl rfl (Wops_ld (v := .int .i64 (q.kind : Int)) rfl g2 rfl ?_)))
  by_cases hf : r.kind = q.kind
  case neg =>
    refine Wops_as (w := .bool false) rfl rfl (by simp; omega) ?_
    (repeat (first | refine Wops_skip rfl ?_ | refine Wops_run rfl rfl ?_))
    exact (K_fin [(4, _)] rfl (K_ret (Told.mk _ rfl ⟨by rw [no (fun e => congrArg Rq.kind e) hf]; rfl, x1.trans x2⟩)))
  refine Wops_as (w := .bool true) rfl rfl (by simp; omega) ?_
  have h0 := hf
  clear hf
  refine Wops_run rfl rfl ?_
  refine Wops_go rfl (Wops_run rfl rfl (Wops_go rfl (Wops_ld (v := .int .u64 (r.tok : Int)) rfl g1 rfl (Wops_go rfl (Wops_run rfl rfl (Wops_go rfl (Wops_ld (v := .int .u64 (q.tok : Int)) rfl g2 rfl ?_)))))))
  by_cases hf : r.tok = q.tok
  case neg =>
    refine Wops_go rfl (Wops_as (w := .bool false) rfl rfl (by simp; omega) ?_)
    (repeat (first | refine Wops_skip rfl ?_ | refine Wops_run rfl rfl ?_))
    exact (K_fin [(4, _)] rfl (K_ret (Told.mk _ rfl ⟨by rw [no (fun e => congrArg Rq.tok e) hf]; rfl, x1.trans x2⟩)))
  refine Wops_go rfl (Wops_as (w := .bool true) rfl rfl (by simp; omega) ?_)
  have h1_ := hf
  clear hf
  refine Wops_run rfl rfl (Wops_run rfl rfl ?_)
  refine Wops_go rfl (Wops_run rfl rfl (Wops_go rfl (Wops_ld (v := .int .u64 (r.han : Int)) rfl g1 rfl (Wops_go rfl (Wops_run rfl rfl (Wops_go rfl (Wops_ld (v := .int .u64 (q.han : Int)) rfl g2 rfl ?_)))))))
  by_cases hf : r.han = q.han
  case neg =>
    refine Wops_go rfl (Wops_as (w := .bool false) rfl rfl (by simp; omega) ?_)
    (repeat (first | refine Wops_skip rfl ?_ | refine Wops_run rfl rfl ?_))
    exact (K_fin [(4, _)] rfl (K_ret (Told.mk _ rfl ⟨by rw [no (fun e => congrArg Rq.han e) hf]; rfl, x1.trans x2⟩)))
  refine Wops_go rfl (Wops_as (w := .bool true) rfl rfl (by simp; omega) ?_)
  have h2_ := hf
  clear hf
  refine Wops_run rfl rfl (Wops_run rfl rfl ?_)
  refine Wops_go rfl (Wops_run rfl rfl (Wops_go rfl (Wops_ld (v := .string (strOf r.name)) rfl g1 rfl (Wops_go rfl (Wops_run rfl rfl (Wops_go rfl (Wops_ld (v := .string (strOf q.name)) rfl g2 rfl ?_)))))))
  by_cases hf : r.name = q.name
  case neg =>
    refine Wops_go rfl (Wops_streq (v := false) rfl rfl (by rw [str_eq hr hq, decide_eq_false hf]) ?_)
    (repeat (first | refine Wops_skip rfl ?_ | refine Wops_run rfl rfl ?_))
    exact (K_fin [(4, _)] rfl (K_ret (Told.mk _ rfl ⟨by rw [no (fun e => congrArg Rq.name e) hf]; rfl, x1.trans x2⟩)))
  refine Wops_go rfl (Wops_streq (v := true) rfl rfl (by rw [str_eq hr hq, decide_eq_true hf]) ?_)
  have h3_ := hf
  clear hf
  refine Wops_run rfl rfl (Wops_run rfl rfl ?_)
  have e1 := (s1.ext x1).ext x2
  have e3 := (s3.ext x1).ext x2
  rw [bys_ints] at e1 e3
  refine Wops_go rfl (Wops_run rfl rfl (Wops_go rfl (Wops_ld (v := .slice ba bn bc) rfl g1 rfl (Wops_go rfl (Wops_toStr rfl e1 (Wops_go rfl (Wops_run rfl rfl (Wops_go rfl (Wops_ld (v := .slice bb bm bd) rfl g2 rfl (Wops_go rfl (Wops_toStr rfl e3 (Wops_go rfl (Wops_streq (v := decide (r.body = q.body)) rfl rfl (str_eq hrb hqb) ?_)))))))))))))
  by_cases hf : r.body = q.body
  case neg =>
    rw [decide_eq_false hf]
    (repeat (first | refine Wops_skip rfl ?_ | refine Wops_run rfl rfl ?_))
    exact (K_fin [(4, _)] rfl (K_ret (Told.mk _ rfl ⟨by rw [no (fun e => congrArg Rq.body e) hf]; rfl, x1.trans x2⟩)))
  rw [decide_eq_true hf]
  have h4_ := hf
  clear hf
  refine Wops_run rfl rfl (Wops_run rfl rfl ?_)
  refine Wops_go rfl (Wops_run rfl rfl (Wops_go rfl (Wops_ld (v := .slice aa an ac) rfl g1 rfl (Wops_go rfl (Wops_run rfl rfl (Wops_go rfl (Wops_ld (v := .slice ab am ad) rfl g2 rfl ?_)))))))
  refine Wops_go rfl (Wops_call rfl (C23 ((s2.ext x1).ext x2) ((s4.ext x1).ext x2) (by omega)) ?_)
  rintro _ _ ⟨rfl, rfl⟩
  by_cases hf : r.args = q.args
  case neg =>
    rw [decide_eq_false hf]
    (repeat (first | refine Wops_skip rfl ?_ | refine Wops_run rfl rfl ?_))
    exact (K_fin [(4, _)] rfl (K_ret (Told.mk _ rfl ⟨by rw [no (fun e => congrArg Rq.args e) hf]; rfl, x1.trans x2⟩)))
  rw [decide_eq_true hf]
  have h5_ := hf
  clear hf
  refine Wops_run rfl rfl (Wops_run rfl rfl ?_)
  refine Wops_go rfl (Wops_run rfl rfl (Wops_go rfl (Wops_ld (v := .int .u64 (r.tic : Int)) rfl g1 rfl (Wops_go rfl (Wops_run rfl rfl (Wops_go rfl (Wops_ld (v := .int .u64 (q.tic : Int)) rfl g2 rfl ?_)))))))
  by_cases hf : r.tic = q.tic
  case neg =>
    refine Wops_go rfl (Wops_as (w := .bool false) rfl rfl (by simp; omega) ?_)
    (repeat (first | refine Wops_skip rfl ?_ | refine Wops_run rfl rfl ?_))
    exact (K_fin [(4, _)] rfl (K_ret (Told.mk _ rfl ⟨by rw [no (fun e => congrArg Rq.tic e) hf]; rfl, x1.trans x2⟩)))
  refine Wops_go rfl (Wops_as (w := .bool true) rfl rfl (by simp; omega) ?_)
  have h6_ := hf
  clear hf
  refine Wops_run rfl rfl (Wops_run rfl rfl ?_)
  refine Wops_go rfl (Wops_run rfl rfl (Wops_go rfl (Wops_ld (v := .int .u64 (r.oth : Int)) rfl g1 rfl (Wops_go rfl (Wops_run rfl rfl (Wops_go rfl (Wops_ld (v := .int .u64 (q.oth : Int)) rfl g2 rfl ?_)))))))
  by_cases hf : r.oth = q.oth
  case neg =>
    refine Wops_go rfl (Wops_as (w := .bool false) rfl rfl (by simp; omega) ?_)
    (repeat (first | refine Wops_skip rfl ?_ | refine Wops_run rfl rfl ?_))
    exact (K_fin [(4, _)] rfl (K_ret (Told.mk _ rfl ⟨by rw [no (fun e => congrArg Rq.oth e) hf]; rfl, x1.trans x2⟩)))
  refine Wops_go rfl (Wops_as (w := .bool true) rfl rfl (by simp; omega) ?_)
  have h7_ := hf
  clear hf
  refine Wops_run rfl rfl (Wops_run rfl rfl (K_fin [(4, _)] rfl (?_)))
  refine K_ret (Told.mk _ rfl ⟨?_, x1.trans x2⟩)
  have e : r = q := by
    cases r; cases q
    simp only at h0 h1_ h2_ h3_ h4_ h5_ h6_ h7_
    subst h0 h1_ h2_ h3_ h4_ h5_ h6_ h7_; rfl
  rw [decide_eq_true e]; rfl



end
section
/- The document's reader. -/
set_option linter.unusedVariables false
set_option linter.unusedSimpArgs false

/-- Fail -/
theorem C47 {h : Heap} {p B : Nat} {s : Rd} {rest : List Value} {e : Int} (q : Cu h p B s rest) :
    Fn Try.prog 47 [ptr p, .int .i64 e] h fun v h' => Cu h' p B (failS true e s) rest ∧ Ext (· = p) h h' := by
  obtain ⟨hx, a, c, g, sl, hb, hd⟩ := id q
  refine fnK F47.fok rfl ?_
  refine K_reg (Wops_run rfl rfl (Wops_run rfl rfl (Wops_run rfl rfl (Wops_ld (v := .int .i64 s.2) rfl g rfl ?_))))
  by_cases h0 : s.2 = 0
  · refine Wops_as (w := .bool true) rfl rfl (by simp [h0]) (K_fin [(0, _), (1, _), (8, _)] rfl (?_))
    refine K_cond rfl (fun _ => ?_) (fun hc => by cases hc)
    refine K_last (Wops_run rfl rfl (Wops_run rfl rfl (Wops_run rfl rfl (Wops_run rfl rfl (Wops_st (l := [.int .i64 e]) rfl rfl rfl rfl g (by simp) rfl fun h1 n1 x1 g1 => K_finL [] rfl (?_))))))
    refine Told.mk [] rfl ⟨?_, x1⟩
    have hf : failS true e s = (s.1, e) := by simp [failS, h0]
    rw [hf]
    exact ⟨hx, a, c, g1, sl.ext x1 fun i r z => by have := hd.1; have := hd.2 i r; omega, hb, hd⟩
  · refine Wops_as (w := .bool false) rfl rfl (by simp [h0]) (K_fin [(0, _), (1, _), (8, _)] rfl (?_))
    refine K_cond rfl (fun hc => by cases hc) (fun _ => K_skip (Told.mk [] rfl ⟨?_, Ext.refl _ _⟩))
    have hf : failS true e s = s := by simp [failS, h0]
    rw [hf]; exact q

/-- Byte -/
theorem C46 {h : Heap} {p B : Nat} {s : Rd} {rest : List Value} (q : Cu h p B s rest) :
    Fn Try.prog 46 [ptr p] h fun v h' => Cu h' p B (fixedS 1 s).2 rest ∧ Ext (· = p) h h' ∧ v = .int .u8 ((fixedS 1 s).1 : Int) := by
  obtain ⟨hx, a, c, g, sl, hb, hd⟩ := id q
  refine fnK F46.fok rfl ?_
  refine K_reg (Wops_run rfl rfl (K_fin [(0, _)] rfl (?_)))
  refine K_join (fun e h' => ∃ l : Env, e = [(0, ptr p)] ++ l ∧ Cu h' p B (failS (decide (s.1.length < 1)) 3 s) rest ∧ Ext (· = p) h h') ?_ ?_
  · refine K_reg (Wops_run rfl rfl (Wops_run rfl rfl (Wops_run rfl rfl (Wops_ld (v := .int .i64 s.2) rfl g rfl ?_))))
    by_cases h0 : s.2 = 0
    case neg =>
      refine Wops_as (w := .bool false) rfl rfl (by simp [h0]) ?_
      (repeat (first | refine Wops_skip rfl ?_ | refine Wops_run rfl rfl ?_))
      refine K_fin [(0, _), (16, _)] rfl (K_cond rfl (fun hc => by cases hc) (fun _ => K_skip ⟨[_], rfl, ?_, Ext.refl _ _⟩))
      rw [stick_fail h0]; exact q
    refine Wops_as (w := .bool true) rfl rfl (by simp [h0]) (Wops_run rfl rfl (Wops_go rfl (Wops_run rfl rfl (Wops_go rfl (Wops_run rfl rfl (Wops_go rfl (Wops_run rfl rfl (Wops_go rfl (Wops_ld (v := .slice a s.1.length c) rfl g rfl (Wops_go rfl (Wops_run rfl rfl (Wops_go rfl ?_))))))))))))
    by_cases hl : s.1.length = 0
    · refine Wops_as (w := .bool true) rfl rfl (by simp [hl]) (Wops_run rfl rfl (K_fin [(0, _), (16, _)] rfl (?_)))
      refine K_cond rfl (fun _ => ?_) (fun hc => by cases hc)
      refine K_last (Wops_run rfl rfl (Wops_run rfl rfl (Wops_run rfl rfl (Wops_st (l := [.int .i64 3]) rfl rfl rfl rfl g (by simp) rfl fun h1 n1 x1 g1 => K_finL [(0, _)] rfl (?_)))))
      refine ⟨[], rfl, ?_, x1⟩
      have hf : failS (decide (s.1.length < 1)) 3 s = (s.1, 3) := by simp [failS, h0, hl]
      rw [hf]
      exact ⟨hx, a, c, g1, sl.ext x1 fun i r z => by have := hd.1; have := hd.2 i r; omega, hb, hd⟩
    · refine Wops_as (w := .bool false) rfl rfl (by rw [Value.bool.injEq, beq_eq_false_iff_ne]; omega) (Wops_run rfl rfl (K_fin [(0, _), (16, _)] rfl (?_)))
      refine K_cond rfl (fun hc => by cases hc) (fun _ => K_skip ⟨[_], rfl, ?_, Ext.refl _ _⟩)
      have hf : failS (decide (s.1.length < 1)) 3 s = s := by
        rw [decide_eq_false (by omega)]; exact fail_no
      rw [hf]; exact q
  rintro _ h1 ⟨l, rfl, q1, x1⟩
  have hbs : bytesS 1 s = if (failS (decide (s.1.length < 1)) 3 s).2 ≠ 0 then ([], failS (decide (s.1.length < 1)) 3 s) else (s.1.take 1, s.1.drop 1, 0) := rfl
  obtain ⟨hx1, a1, c1, g1, sl1, hb1, hd1⟩ := id q1
  refine K_ss (K_reg (Wops_run rfl rfl (Wops_run rfl rfl (Wops_run rfl rfl (Wops_ld (v := .int .i64 (failS (decide (s.1.length < 1)) 3 s).2) rfl g1 rfl ?_)))))
  unfold fixedS
  by_cases h0 : (failS (decide (s.1.length < 1)) 3 s).2 = 0
  · obtain ⟨hd0, hs1⟩ := failS_ok (by decide) h0
    have hle : 1 ≤ s.1.length := by have := of_decide_eq_false hd0; omega
    rw [if_neg (fun w => w h0)] at hbs
    rw [hbs]
    rw [hs1] at g1 sl1 hb1 q1
    have hs0 : s.2 = 0 := by rw [hs1] at h0; exact h0
    refine Wops_as (w := .bool false) rfl rfl (by rw [Value.bool.injEq, bne_eq_false_iff_eq]; exact h0) (K_fin [(0, _), (24, _)] rfl (?_))
    refine K_scond rfl (fun hc => by cases hc) (fun _ => ?_)
    have hl0 : 0 < s.1.length := by omega
    have hx0 := hx s.1[0] (List.getElem_mem _)
    refine K_sskip (K_reg (Wops_run rfl rfl (Wops_run rfl rfl (Wops_run rfl rfl (Wops_ld (v := .slice a1 s.1.length c1) rfl g1 rfl (Wops_idx (u := .int .u8 ((s.1[0] : Nat) : Int)) rfl rfl sl1 ⟨by omega, by omega⟩ (by simp [bys, hl0]) fun _ => ?_))))))
    refine Wops_run rfl rfl (K_fin [(0, _), (3, _)] rfl (?_))
    have hsub2 := sl1.sub (i := 1) (j := s.1.length) hle (Nat.le_refl _)
    rw [bys_sub] at hsub2
    have htk : (s.1.drop 1).take (s.1.length - 1) = s.1.drop 1 := List.take_of_length_le (by simp)
    have hdl : (s.1.drop 1).length = s.1.length - 1 := by simp
    rw [htk] at hsub2
    refine K_reg (Wops_run rfl rfl (Wops_run rfl rfl (Wops_run rfl rfl (Wops_run rfl rfl (Wops_ld (v := .slice a1 s.1.length c1) rfl g1 rfl (Wops_slV (lov := some (.int .i64 ((1 : Nat) : Int))) (hiv := none) rfl rfl rfl sl1.ok (bounds_lo hle) (Wops_run rfl rfl (Wops_run rfl rfl (Wops_st (l := [.slice (shift a1 (1 * 1)) (s.1.length - 1) c1]) rfl rfl rfl rfl g1 (by simp) rfl fun h3 n3 x3 g3 => K_fin [(3, _)] rfl (?_))))))))))
    refine K_reg (Wops_run rfl rfl (Wops_run rfl rfl (K_fin [(2, _)] rfl (?_))))
    refine K_ret (Told.mk _ rfl ⟨⟨fun x hxm => hx x (List.mem_of_mem_drop hxm), shift a1 (1 * 1), c1, ?_, ?_, ?_, ?_⟩, x1.trans x3, ?_⟩)
    · rw [hdl, ← hs0]; exact g3
    · rw [hdl]; exact hsub2.ext x3 fun i r z => by have := hd1.1; have := hd1.2 i (shift_blk.1 r); omega
    · rw [hdl]; omega
    · exact ⟨hd1.1, fun i r => hd1.2 i (shift_blk.1 r)⟩
    · have : s.1.take 1 = [s.1[0]] := by
        have h1 := List.take_add_one (l := s.1) (i := 0)
        rw [List.getElem?_eq_getElem hl0] at h1
        simpa using h1
      rw [this]
      show Value.int .u8 _ = Value.int .u8 (((0 * 256 + s.1[0]) % 18446744073709551616 : Nat) : Int)
      congr 2; omega
  · rw [if_pos h0] at hbs
    rw [hbs]
    refine Wops_as (w := .bool true) rfl rfl (by rw [Value.bool.injEq, bne_iff_ne]; exact h0) (K_fin [(0, _), (24, _)] rfl (?_))
    refine K_scond rfl (fun _ => ?_) (fun hc => by cases hc)
    refine K_ss (K_reg (Wops_run rfl rfl (K_fin [(2, _)] rfl (?_))))
    exact K_sret (Told.mk _ rfl ⟨q1, x1, rfl⟩)

/-- Eight -/
theorem C48 {h : Heap} {p B : Nat} {s : Rd} {rest : List Value} (q : Cu h p B s rest) :
    Fn Try.prog 48 [ptr p] h fun v h' => Cu h' p B (fixedS 8 s).2 rest ∧ Ext (· = p) h h' ∧ v = .int .u64 ((fixedS 8 s).1 : Int) := by
  obtain ⟨hx, a, c, g, sl, hb, hd⟩ := id q
  refine fnK F48.fok rfl ?_
  refine K_reg (Wops_run rfl rfl (K_fin [(0, _)] rfl (?_)))
  refine K_join (fun e h' => ∃ l : Env, e = [(0, ptr p)] ++ l ∧ Cu h' p B (failS (decide (s.1.length < 8)) 3 s) rest ∧ Ext (· = p) h h') ?_ ?_
  · refine K_reg (Wops_run rfl rfl (Wops_run rfl rfl (Wops_run rfl rfl (Wops_ld (v := .int .i64 s.2) rfl g rfl ?_))))
    by_cases h0 : s.2 = 0
    case neg =>
      refine Wops_as (w := .bool false) rfl rfl (by simp [h0]) ?_
      (repeat (first | refine Wops_skip rfl ?_ | refine Wops_run rfl rfl ?_))
      refine K_fin [(0, _), (17, _)] rfl (K_cond rfl (fun hc => by cases hc) (fun _ => K_skip ⟨[_], rfl, ?_, Ext.refl _ _⟩))
      rw [stick_fail h0]; exact q
    refine Wops_as (w := .bool true) rfl rfl (by simp [h0]) (Wops_run rfl rfl (Wops_go rfl (Wops_run rfl rfl (Wops_go rfl (Wops_run rfl rfl (Wops_go rfl (Wops_run rfl rfl (Wops_go rfl (Wops_ld (v := .slice a s.1.length c) rfl g rfl (Wops_go rfl (Wops_run rfl rfl (Wops_go rfl ?_))))))))))))
    by_cases hl : s.1.length < 8
    · refine Wops_as (w := .bool true) rfl rfl (by rw [decide_eq_true (by omega)]) (Wops_run rfl rfl (K_fin [(0, _), (17, _)] rfl (?_)))
      refine K_cond rfl (fun _ => ?_) (fun hc => by cases hc)
      refine K_last (Wops_run rfl rfl (Wops_run rfl rfl (Wops_run rfl rfl (Wops_st (l := [.int .i64 3]) rfl rfl rfl rfl g (by simp) rfl fun h1 n1 x1 g1 => K_finL [(0, _)] rfl (?_)))))
      refine ⟨[], rfl, ?_, x1⟩
      have hf : failS (decide (s.1.length < 8)) 3 s = (s.1, 3) := by simp [failS, h0, hl]
      rw [hf]
      exact ⟨hx, a, c, g1, sl.ext x1 fun i r z => by have := hd.1; have := hd.2 i r; omega, hb, hd⟩
    · refine Wops_as (w := .bool false) rfl rfl (by rw [decide_eq_false (by omega)]) (Wops_run rfl rfl (K_fin [(0, _), (17, _)] rfl (?_)))
      refine K_cond rfl (fun hc => by cases hc) (fun _ => K_skip ⟨[_], rfl, ?_, Ext.refl _ _⟩)
      have hf : failS (decide (s.1.length < 8)) 3 s = s := by
        rw [decide_eq_false (by omega)]; exact fail_no
      rw [hf]; exact q
  rintro _ h1 ⟨l, rfl, q1, x1⟩
  have hbs : bytesS 8 s = if (failS (decide (s.1.length < 8)) 3 s).2 ≠ 0 then ([], failS (decide (s.1.length < 8)) 3 s) else (s.1.take 8, s.1.drop 8, 0) := rfl
  obtain ⟨hx1, a1, c1, g1, sl1, hb1, hd1⟩ := id q1
  refine K_ss (K_reg (Wops_run rfl rfl (Wops_run rfl rfl (Wops_run rfl rfl (Wops_ld (v := .int .i64 (failS (decide (s.1.length < 8)) 3 s).2) rfl g1 rfl ?_)))))
  unfold fixedS
  by_cases h0 : (failS (decide (s.1.length < 8)) 3 s).2 = 0
  · obtain ⟨hd0, hs1⟩ := failS_ok (by decide) h0
    have hle : 8 ≤ s.1.length := by have := of_decide_eq_false hd0; omega
    rw [if_neg (fun w => w h0)] at hbs
    rw [hbs]
    rw [hs1] at g1 sl1 hb1 q1
    have hs0 : s.2 = 0 := by rw [hs1] at h0; exact h0
    refine Wops_as (w := .bool false) rfl rfl (by simp [h0]) (K_fin [(0, _), (25, _)] rfl (?_))
    refine K_scond rfl (fun hc => by cases hc) (fun _ => ?_)
    refine K_sskip (K_reg (Wops_run rfl rfl (K_fin [(0, _), (3, _)] rfl (?_))))
    refine K_ss (K_reg (Wops_run rfl rfl (K_fin [(0, _), (3, _), (4, _)] rfl (?_))))
    refine K_sblock ?_
    refine K_loop (fun k e h' => ∃ i : Nat, e = [(0, ptr p), (3, .int .u64 ((dec (s.1.take i) : Nat) : Int)), (4, .int .i64 (i : Int))] ∧ h1 = h' ∧ i ≤ 8 ∧ k = 8 - i) ?_ (k := 8) ⟨0, rfl, rfl, by omega, rfl⟩
    rintro k e h' ⟨i, rfl, rfl, hi, rfl⟩
    refine K_ss (K_reg (Wops_run rfl rfl ?_))
    by_cases hi8 : i < 8
    · refine Wops_as (w := .bool true) rfl rfl (by rw [decide_eq_true (by omega)]) (K_fin [(0, _), (3, _), (4, _), (27, _)] rfl (?_))
      refine K_scond rfl (fun _ => ?_) (fun hc => by cases hc)
      have hil : i < s.1.length := by omega
      have hxi : s.1[i] < 256 := hx _ (List.getElem_mem _)
      have htk : s.1.take (i + 1) = s.1.take i ++ [s.1[i]] := by rw [List.take_add_one, List.getElem?_eq_getElem hil, Option.toList_some]
      have hdl := dec_lt (s.1.take i)
      generalize hxd : s.1[i] = x at hxi htk
      refine K_sskip (K_sblock ?_)
      refine K_last (Wops_run rfl rfl (Wops_as (w := .int .u64 ((dec (s.1.take i) * 256 % 18446744073709551616 : Nat) : Int)) rfl rfl (Option.some.inj (shl8 (kk := .u64))) (Wops_run rfl rfl (Wops_run rfl rfl (Wops_run rfl rfl (Wops_ld (v := .slice a1 s.1.length c1) rfl g1 rfl (Wops_run rfl rfl (Wops_idx (u := .int .u8 (x : Int)) rfl rfl sl1 ⟨by omega, by omega⟩ (by simp [bys, hil, hxd]) fun _ => ?_))))))))
      refine Wops_as (w := .int .u64 (x : Int)) rfl rfl (by rw [wr64m, Nat.mod_eq_of_lt (by omega)]) (Wops_as (w := .int .u64 ((dec (s.1.take (i + 1)) : Nat) : Int)) rfl rfl ?_ (Wops_run rfl rfl (K_finL [(0, _), (3, _), (4, _)] rfl (?_))))
      · refine (Option.some.inj (orN (Nat.mod_lt _ (by decide)) (by omega))).trans ?_
        congr 2
        have e1 : dec (s.1.take i) * 256 % 18446744073709551616 = (dec (s.1.take i) % 72057594037927936) * 2 ^ 8 := by omega
        rw [e1, Nat.or_comm, orAdd (by show x < 256; exact hxi), htk, dec_snoc]
        omega
      refine K_last (Wops_run rfl rfl (Wops_run rfl rfl (Wops_run rfl rfl (K_finL [(0, _), (3, _), (4, _)] rfl (?_)))))
      exact ⟨8 - (i + 1), by omega, i + 1, by rw [w64s (by omega)], rfl, by omega, rfl⟩
    · obtain rfl : i = 8 := by omega
      refine Wops_as (w := .bool false) rfl rfl rfl (K_fin [(0, _), (3, _), (4, _), (27, _)] rfl (?_))
      refine K_scond rfl (fun hc => by cases hc) (fun _ => ?_)
      refine K_sexit (bx_same ?_)
      have hsub2 := sl1.sub (i := 8) (j := s.1.length) hle (Nat.le_refl _)
      rw [bys_sub] at hsub2
      have htk : (s.1.drop 8).take (s.1.length - 8) = s.1.drop 8 := List.take_of_length_le (by simp)
      have hdl : (s.1.drop 8).length = s.1.length - 8 := by simp
      rw [htk] at hsub2
      refine K_reg (Wops_run rfl rfl (Wops_run rfl rfl (Wops_run rfl rfl (Wops_run rfl rfl (Wops_ld (v := .slice a1 s.1.length c1) rfl g1 rfl (Wops_slV (lov := some (.int .i64 ((8 : Nat) : Int))) (hiv := none) rfl rfl rfl sl1.ok (bounds_lo hle) (Wops_run rfl rfl (Wops_run rfl rfl (Wops_st (l := [.slice (shift a1 (8 * 1)) (s.1.length - 8) c1]) rfl rfl rfl rfl g1 (by simp) rfl fun h3 n3 x3 g3 => K_fin [(3, _)] rfl (?_))))))))))
      refine K_reg (Wops_run rfl rfl (Wops_run rfl rfl (K_fin [(2, _)] rfl (?_))))
      refine K_ret (Told.mk _ rfl ⟨⟨fun x hxm => hx x (List.mem_of_mem_drop hxm), shift a1 (8 * 1), c1, ?_, ?_, ?_, ?_⟩, x1.trans x3, rfl⟩)
      · rw [hdl, ← hs0]; exact g3
      · rw [hdl]; exact hsub2.ext x3 fun i r z => by have := hd1.1; have := hd1.2 i (shift_blk.1 r); omega
      · rw [hdl]; omega
      · exact ⟨hd1.1, fun i r => hd1.2 i (shift_blk.1 r)⟩
  · rw [if_pos h0] at hbs
    rw [hbs]
    refine Wops_as (w := .bool true) rfl rfl (by simp [h0]) (K_fin [(0, _), (25, _)] rfl (?_))
    refine K_scond rfl (fun _ => ?_) (fun hc => by cases hc)
    refine K_ss (K_reg (Wops_run rfl rfl (K_fin [(2, _)] rfl (?_))))
    exact K_sret (Told.mk _ rfl ⟨q1, x1, rfl⟩)

/-- Take -/
theorem C49 {h : Heap} {p B n : Nat} {s : Rd} {rest : List Value} (q : Cu h p B s rest) (hn : n < 4294967296) :
    Fn Try.prog 49 [ptr p, .int .u32 (n : Int)] h fun v h' => Cu h' p B (bytesS n s).2 rest ∧ Ext (· = p) h h' ∧ ∃ a' c', v = .slice a' (bytesS n s).1.length c' ∧ OwS h' 1 a' (bytesS n s).1.length c' (bys (bytesS n s).1) ∧ ∀ i, Blk a' i → h.next ≤ i := by
  have hp := q.lt
  obtain ⟨hx, a, c, g, sl, hb, hd⟩ := id q
  refine fnK F49.fok rfl ?_
  refine K_reg (Wops_run rfl rfl (K_fin [(0, _), (1, _)] rfl (?_)))
  refine K_join (fun e h' => ∃ l : Env, e = [(0, ptr p), (1, .int .u32 (n : Int))] ++ l ∧ Cu h' p B (failS (decide (s.1.length < n)) 3 s) rest ∧ Ext (· = p) h h') ?_ ?_
  · refine K_reg (Wops_run rfl rfl (Wops_run rfl rfl (Wops_run rfl rfl (Wops_ld (v := .int .i64 s.2) rfl g rfl ?_))))
    by_cases h0 : s.2 = 0
    case neg =>
      refine Wops_as (w := .bool false) rfl rfl (by simp [h0]) ?_
      (repeat (first | refine Wops_skip rfl ?_ | refine Wops_run rfl rfl ?_))
      refine K_fin [(0, _), (1, _), (21, _)] rfl (K_cond rfl (fun hc => by cases hc) (fun _ => K_skip ⟨[_], rfl, ?_, Ext.refl _ _⟩))
      rw [stick_fail h0]; exact q
    refine Wops_as (w := .bool true) rfl rfl (by simp [h0]) (Wops_run rfl rfl (Wops_go rfl (Wops_run rfl rfl (Wops_go rfl (Wops_as (w := .int .u64 (n : Int)) rfl rfl (by rw [wr64m, Nat.mod_eq_of_lt (by omega)]) (Wops_go rfl (Wops_run rfl rfl (Wops_go rfl (Wops_run rfl rfl (Wops_go rfl (Wops_run rfl rfl (Wops_go rfl (Wops_ld (v := .slice a s.1.length c) rfl g rfl (Wops_go rfl (Wops_run rfl rfl (Wops_go rfl (Wops_as (w := .int .u64 (s.1.length : Int)) rfl rfl (by rw [wr64m, Nat.mod_eq_of_lt (by omega)]) (Wops_go rfl ?_))))))))))))))))))
    by_cases hl : s.1.length < n
    · refine Wops_as (w := .bool true) rfl rfl (by rw [decide_eq_true (by omega)]) (Wops_run rfl rfl (K_fin [(0, _), (1, _), (21, _)] rfl (?_)))
      refine K_cond rfl (fun _ => ?_) (fun hc => by cases hc)
      refine K_last (Wops_run rfl rfl (Wops_run rfl rfl (Wops_run rfl rfl (Wops_st (l := [.int .i64 3]) rfl rfl rfl rfl g (by simp) rfl fun h1 n1 x1 g1 => K_finL [(0, _), (1, _)] rfl (?_)))))
      refine ⟨[], rfl, ?_, x1⟩
      have hf : failS (decide (s.1.length < n)) 3 s = (s.1, 3) := by simp [failS, h0, hl]
      rw [hf]
      exact ⟨hx, a, c, g1, sl.ext x1 fun i r z => by have := hd.1; have := hd.2 i r; omega, hb, hd⟩
    · refine Wops_as (w := .bool false) rfl rfl (by rw [decide_eq_false (by omega)]) (Wops_run rfl rfl (K_fin [(0, _), (1, _), (21, _)] rfl (?_)))
      refine K_cond rfl (fun hc => by cases hc) (fun _ => K_skip ⟨[_], rfl, ?_, Ext.refl _ _⟩)
      have hf : failS (decide (s.1.length < n)) 3 s = s := by
        rw [decide_eq_false (by omega)]; exact fail_no
      rw [hf]; exact q
  rintro _ h1 ⟨l, rfl, q1, x1⟩
  have hbs : bytesS n s = if (failS (decide (s.1.length < n)) 3 s).2 ≠ 0 then ([], failS (decide (s.1.length < n)) 3 s) else (s.1.take n, s.1.drop n, 0) := rfl
  obtain ⟨hx1, a1, c1, g1, sl1, hb1, hd1⟩ := id q1
  refine K_ss (K_reg (Wops_run rfl rfl (Wops_run rfl rfl (Wops_run rfl rfl (Wops_ld (v := .int .i64 (failS (decide (s.1.length < n)) 3 s).2) rfl g1 rfl ?_)))))
  by_cases h0 : (failS (decide (s.1.length < n)) 3 s).2 = 0
  · obtain ⟨hd0, hs1⟩ := failS_ok (by decide) h0
    have hle : n ≤ s.1.length := by have := of_decide_eq_false hd0; omega
    rw [if_neg (fun w => w h0)] at hbs
    rw [hbs]
    rw [hs1] at g1 sl1 hb1 q1
    have hs0 : s.2 = 0 := by rw [hs1] at h0; exact h0
    refine Wops_as (w := .bool false) rfl rfl (by simp [h0]) (K_fin [(0, _), (1, _), (29, _)] rfl (?_))
    refine K_scond rfl (fun hc => by cases hc) (fun _ => ?_)
    have hsub := sl1.sub (i := 0) (j := n) (Nat.zero_le _) hle
    rw [bys_sub, List.drop_zero, Nat.sub_zero] at hsub
    have hlen : (s.1.take n).length = n := by rw [List.length_take]; omega
    have z1 := x1.next
    refine K_sskip (K_reg (Wops_bslice (l := []) rfl rfl fun h2 n2 x2 g2 => ?_))
    have g12 := g1.ext x2
    have sl2 := sl1.ext x2
    refine Wops_run rfl rfl (Wops_run rfl rfl (Wops_run rfl rfl (Wops_ld (v := .slice a1 s.1.length c1) rfl g12 rfl (Wops_run rfl rfl (Wops_slV (lov := none) (hiv := some (.int .u32 (n : Int))) rfl rfl rfl sl2.ok (bounds_hi hle) ?_)))))
    refine Wops_app (m := n) rfl rfl (OwS.new (n := 0) g2 rfl) rfl (hsub.ext x2).first ⟨by omega, by omega⟩ (by simp [bys]; omega) (bys_cell _) (by decide) fun h3 a3 c3 x3 o3 b3 => ?_
    refine Wops_run rfl rfl (K_fin [(0, _), (1, _), (5, _)] rfl (?_))
    rw [List.nil_append, Nat.zero_add] at o3
    rw [Nat.zero_add]
    have z2 := x2.next
    have g13 := g12.ext x3 (fun r => by rw [Blk.at] at r; omega)
    have sl3 := sl2.ext x3 (fun i r z => by rw [Blk.at] at z; have := hd1.1; have := hd1.2 i r; omega)
    have hsub2 := sl3.sub (i := n) (j := s.1.length) hle (Nat.le_refl _)
    rw [bys_sub] at hsub2
    have htk : (s.1.drop n).take (s.1.length - n) = s.1.drop n := List.take_of_length_le (by simp)
    have hdl : (s.1.drop n).length = s.1.length - n := by simp
    rw [htk] at hsub2
    have b3' : ∀ i, Blk a3 i → h1.next ≤ i := fun i r => (b3 i r).elim (fun r => by rw [Blk.at] at r; omega) fun r => by omega
    refine K_reg (Wops_run rfl rfl (Wops_run rfl rfl (Wops_run rfl rfl (Wops_run rfl rfl (Wops_ld (v := .slice a1 s.1.length c1) rfl g13 rfl (Wops_run rfl rfl (Wops_slV (lov := some (.int .u32 (n : Int))) (hiv := none) rfl rfl rfl sl3.ok (bounds_lo hle) (Wops_run rfl rfl (Wops_run rfl rfl (Wops_st (l := [.slice (shift a1 (n * 1)) (s.1.length - n) c1]) rfl rfl rfl rfl g13 (by simp) rfl fun h4 n4 x4 g4 => K_fin [(5, _)] rfl (?_)))))))))))
    refine K_reg (Wops_run rfl rfl (Wops_run rfl rfl (K_fin [(4, _)] rfl (?_))))
    refine K_ret (Told.mk _ rfl ⟨⟨fun x hxm => hx x (List.mem_of_mem_drop hxm), shift a1 (n * 1), c1, ?_, ?_, ?_, ?_⟩, ((x1.then0 x2).then x3 fun i r => .inr (by rw [Blk.at] at r; omega)).trans x4, a3, c3, ?_, ?_, fun i r => by have := b3' i r; omega⟩)
    · rw [hdl, ← hs0]; exact g4
    · rw [hdl]; exact hsub2.ext x4 fun i r z => by have := hd1.1; have := hd1.2 i (shift_blk.1 r); omega
    · rw [hdl]; omega
    · exact ⟨hd1.1, fun i r => hd1.2 i (shift_blk.1 r)⟩
    · rw [hlen]; rfl
    · rw [hlen]
      exact o3.ext x4 fun i r z => by have := b3' i r; omega
  · rw [if_pos h0] at hbs
    rw [hbs]
    refine Wops_as (w := .bool true) rfl rfl (by simp [h0]) (K_fin [(0, _), (1, _), (29, _)] rfl (?_))
    refine K_scond rfl (fun _ => ?_) (fun hc => by cases hc)
    refine K_ss (K_reg (Wops_run rfl rfl (K_fin [(4, _)] rfl (?_))))
    exact K_sret (Told.mk _ rfl ⟨q1, x1, none, 0, rfl, OwS.none, fun i r => absurd r Blk.none⟩)

/-- Over -/
theorem C53 {h : Heap} {p B : Nat} {s : Rd} {rest : List Value} (q : Cu h p B s rest) :
    Fn Try.prog 53 [ptr p] h fun v h' => Cu h' p B (endS s) rest ∧ Ext (· = p) h h' := by
  obtain ⟨hx, a, c, g, sl, hb, hd⟩ := id q
  refine fnK F53.fok rfl ?_
  refine K_reg (Wops_run rfl rfl (Wops_run rfl rfl (Wops_run rfl rfl (Wops_ld (v := .slice a s.1.length c) rfl g rfl (Wops_run rfl rfl ?_)))))
  by_cases hl : 0 < s.1.length
  · refine Wops_as (w := .bool true) rfl rfl (by rw [decide_eq_true (by omega)]) (K_fin [(0, _), (7, _)] rfl (?_))
    refine K_cond rfl (fun _ => ?_) (fun hc => by cases hc)
    refine K_last (Wops_run rfl rfl (Wops_call rfl (C47 q) ?_))
    rintro _ h1 ⟨q1, x1⟩
    refine K_finL [] rfl (Told.mk [] rfl ⟨?_, x1⟩)
    unfold endS; rw [decide_eq_true hl]; exact q1
  · refine Wops_as (w := .bool false) rfl rfl (by rw [decide_eq_false (by omega)]) (K_fin [(0, _), (7, _)] rfl (?_))
    refine K_cond rfl (fun hc => by cases hc) (fun _ => K_skip (Told.mk [] rfl ⟨?_, Ext.refl _ _⟩))
    unfold endS; rw [decide_eq_false hl, fail_no]; exact q

end
section
/- The document's numbers and names. -/
set_option linter.unusedVariables false
set_option linter.unusedSimpArgs false

set_option maxHeartbeats 2000000 in
/-- number, without a sign -/
theorem C94 {h : Heap} {a : Option Addr} {n c size most : Nat} {xs : List Nat} (s : SlA h 1 a n c (bys xs)) (hb : n ≤ 100000) (hx : ∀ x ∈ xs, x < 256) (hs0 : 0 < size) (hs : size ≤ 64) (hmq : ((size : Int) + 6).tdiv 7 = (most : Int)) (hm : size ≤ 7 * most ∧ 7 * most < size + 7) :
    Fn Try.prog 94 [.slice a n c, .int .i64 (size : Int), .bool false] h fun v h' => v = rdV .u64 (rdL size 0 0 xs) ∧ h = h' := by
  have hn : xs.length = n := by simpa using s.len
  refine fnK F94.fok rfl ?_
  refine K_reg (Wops_run rfl rfl (Wops_run rfl rfl (Wops_run rfl rfl (K_fin [(0, _), (1, _), (2, _)] rfl (?_)))))
  refine K_reg (Wops_run rfl rfl (K_fin [(0, _), (1, _), (2, _), (9, _)] rfl (?_)))
  refine K_reg (Wops_run rfl rfl (Wops_as (w := .int .i64 ((size : Int) + 6)) rfl rfl (by rw [w64 (by omega)]) (Wops_as (w := .int .i64 (most : Int)) rfl rfl (by rw [hmq, w64 (by omega)]) (Wops_run rfl rfl (K_fin [(0, _), (1, _), (2, _), (9, _), (10, _)] rfl (?_))))))
  refine K_ss (K_reg (Wops_run rfl rfl (K_fin [(0, _), (1, _), (2, _), (9, _), (10, _), (11, _)] rfl (?_))))
  refine K_sblock ?_
  refine K_loop (fun k e h' => ∃ i v : Nat, e = [(0, .slice a n c), (1, .int .i64 (size : Int)), (2, .bool false), (9, .int .u64 (v : Int)), (10, .int .i64 (most : Int)), (11, .int .i64 (i : Int))] ∧ h = h' ∧ i ≤ n ∧ k = n - i ∧ 7 * i < size ∧ v < 2 ^ (7 * i) ∧ rdL size i v (xs.drop i) = rdL size 0 0 xs) ?_ (k := n) ⟨0, 0, rfl, rfl, by omega, rfl, by omega, by decide, rfl⟩
  rintro k e h' ⟨i, v, rfl, rfl, hi, rfl, h7, hv, hr⟩
  refine K_ss (K_reg (Wops_run rfl rfl (Wops_run rfl rfl (Wops_as (w := .bool true) rfl rfl (by rw [decide_eq_true (by omega)]) (K_fin [(0, _), (1, _), (2, _), (9, _), (10, _), (11, _), (22, _)] rfl (?_))))))
  refine K_scond rfl (fun _ => ?_) (fun hc => by cases hc)
  refine K_sskip (K_sblock ?_)
  refine K_ss (K_reg (Wops_run rfl rfl (Wops_run rfl rfl (Wops_run rfl rfl ?_))))
  by_cases hin : i = n
  · refine Wops_as (w := .bool true) rfl rfl (by rw [decide_eq_true (by omega)]) (K_fin [(0, _), (1, _), (2, _), (9, _), (10, _), (11, _), (28, _)] rfl (?_))
    refine K_scond rfl (fun _ => ?_) (fun hc => by cases hc)
    refine K_ss (K_reg (Wops_run rfl rfl (Wops_run rfl rfl (Wops_run rfl rfl (K_fin [(6, _), (7, _), (8, _)] rfl (?_))))))
    refine K_sret (Told.mk _ rfl ⟨?_, rfl⟩)
    rw [← hr, List.drop_eq_nil_of_le (by omega)]; rfl
  have hil : i < xs.length := by omega
  have hxi : xs[i] < 256 := hx _ (List.getElem_mem _)
  rw [List.drop_eq_getElem_cons hil] at hr
  generalize hxd : xs[i] = x at hr hxi
  refine Wops_as (w := .bool false) rfl rfl (by rw [decide_eq_false (by omega)]) (K_fin [(0, _), (1, _), (2, _), (9, _), (10, _), (11, _), (28, _)] rfl (?_))
  refine K_scond rfl (fun hc => by cases hc) (fun _ => ?_)
  refine K_sskip (K_reg (Wops_run rfl rfl (Wops_run rfl rfl (Wops_idx (u := .int .u8 (x : Int)) rfl rfl s ⟨by omega, by omega⟩ (by simp [bys, hil, hxd]) fun _ => ?_))))
  refine Wops_run rfl rfl (K_fin [(0, _), (1, _), (2, _), (9, _), (10, _), (11, _), (12, _)] rfl (?_))
  refine K_reg (Wops_run rfl rfl (Wops_as (w := .int .u8 ((x % 128 : Nat) : Int)) rfl rfl (Option.some.inj (and127b hxi)) (Wops_as (w := .int .u64 ((x % 128 : Nat) : Int)) rfl rfl (by rw [wr64m, Nat.mod_eq_of_lt (by omega)]) (Wops_run rfl rfl (K_fin [(0, _), (1, _), (2, _), (9, _), (10, _), (11, _), (12, _), (13, _)] rfl (?_))))))
  refine K_ss (K_reg (Wops_run rfl rfl (Wops_run rfl rfl (Wops_as (w := .int .i64 ((most : Int) - 1)) rfl rfl (by rw [w64 (by omega)]) (Wops_as (w := .bool (decide (size ≤ 7 * i + 7))) rfl rfl (by rw [Value.bool.injEq, Bool.eq_iff_iff, beq_iff_eq, decide_eq_true_iff]; omega) (K_fin [(0, _), (1, _), (2, _), (9, _), (10, _), (11, _), (12, _), (13, _), (39, _)] rfl (?_)))))))
  refine K_join (fun e h' => ∃ l : Env, e = [(0, .slice a n c), (1, .int .i64 (size : Int)), (2, .bool false), (9, .int .u64 (v : Int)), (10, .int .i64 (most : Int)), (11, .int .i64 (i : Int)), (12, .int .u8 (x : Int)), (13, .int .u64 ((x % 128 : Nat) : Int))] ++ l ∧ h = h' ∧ ¬ (size ≤ 7 * i + 7 ∧ ¬ (x < 128 ∧ x / 2 ^ (size - 7 * i) = 0))) ?_ ?_
  · refine K_cond rfl (fun hc => ?_) (fun hc => K_skip ⟨[_], rfl, rfl, fun w => (of_decide_eq_false hc) w.1⟩)
    have hl : size ≤ 7 * i + 7 := of_decide_eq_true hc
    refine K_reg (Wops_run rfl rfl (Wops_run rfl rfl (Wops_as (w := .int .i64 ((7 * i : Nat) : Int)) rfl rfl (by rw [w64 (by omega)]; congr 1) (Wops_as (w := .int .i64 ((size - 7 * i : Nat) : Int)) rfl rfl (by rw [w64 (by omega)]; congr 1; omega) (Wops_run rfl rfl (K_fin [(0, _), (1, _), (2, _), (9, _), (10, _), (11, _), (12, _), (13, _), (14, _)] rfl (?_)))))))
    refine K_reg (Wops_run rfl rfl (Wops_run rfl rfl (Wops_as (w := .int .u64 ((x % 128 / 2 ^ (size - 7 * i) : Nat) : Int)) rfl rfl (Option.some.inj (shrN (kk := .i64) (k := .u64) (by show _ ≤ 64; omega))) (Wops_run rfl rfl (K_fin [(0, _), (1, _), (2, _), (9, _), (10, _), (11, _), (12, _), (13, _), (14, _), (15, _)] rfl (?_))))))
    refine K_ss (K_reg (Wops_run rfl rfl (K_fin [(0, _), (1, _), (2, _), (9, _), (10, _), (11, _), (12, _), (13, _), (14, _), (15, _), (47, _)] rfl (?_))))
    refine K_scond rfl (fun hc => by cases hc) (fun _ => ?_)
    refine K_sskip (K_reg (Wops_run rfl rfl (Wops_run rfl rfl (Wops_run rfl rfl (K_fin [(0, _), (1, _), (2, _), (9, _), (10, _), (11, _), (12, _), (13, _), (14, _), (15, _), (16, _)] rfl (?_))))))
    refine K_ss (K_reg (Wops_run rfl rfl (K_fin [(0, _), (1, _), (2, _), (9, _), (10, _), (11, _), (12, _), (13, _), (14, _), (15, _), (16, _), (54, _)] rfl (?_))))
    refine K_scond rfl (fun hc => by cases hc) (fun _ => ?_)
    refine K_sskip (K_reg (Wops_run rfl rfl ?_))
    by_cases h1 : x < 128
    · refine Wops_as (w := .bool false) rfl rfl (by rw [decide_eq_false (by omega)]) (Wops_run rfl rfl (Wops_go rfl (Wops_run rfl rfl (Wops_go rfl ?_))))
      have hmod : x % 128 = x := Nat.mod_eq_of_lt h1
      rw [hmod]
      by_cases h2 : x / 2 ^ (size - 7 * i) = 0
      · refine Wops_as (w := .bool false) rfl rfl (by rw [h2]; rfl) (Wops_go rfl (Wops_run rfl rfl ?_))
        refine Wops_skip rfl (Wops_skip rfl (Wops_skip rfl (Wops_skip rfl (Wops_skip rfl (Wops_skip rfl (Wops_skip rfl (Wops_go rfl (Wops_run rfl rfl (Wops_run rfl rfl (K_fin [(0, _), (1, _), (2, _), (9, _), (10, _), (11, _), (12, _), (13, _), (72, _)] rfl (?_)))))))))))
        exact K_cond rfl (fun hc => by cases hc) (fun _ => K_skip ⟨[_], rfl, rfl, fun w => w.2 ⟨h1, h2⟩⟩)
      · refine Wops_as (w := .bool true) rfl rfl (by rw [Value.bool.injEq, bne_iff_ne]; omega) (Wops_go rfl (Wops_run rfl rfl ?_))
        refine Wops_go rfl (Wops_run rfl rfl (Wops_go rfl (Wops_run rfl rfl (Wops_go rfl (Wops_run rfl rfl (Wops_skip rfl (Wops_skip rfl (Wops_skip rfl (Wops_go rfl (Wops_run rfl rfl (Wops_go rfl (Wops_run rfl rfl (Wops_run rfl rfl (K_fin [(0, _), (1, _), (2, _), (9, _), (10, _), (11, _), (12, _), (13, _), (72, _)] rfl (?_)))))))))))))))
        refine K_cond rfl (fun _ => ?_) (fun hc => by cases hc)
        refine K_reg (Wops_run rfl rfl (Wops_run rfl rfl (Wops_run rfl rfl (K_fin [(6, _), (7, _), (8, _)] rfl (?_)))))
        refine K_ret (Told.mk _ rfl ⟨?_, rfl⟩)
        rw [← hr]; unfold rdL; rw [if_pos ⟨hl, fun w => h2 w.2⟩]; rfl
    · refine Wops_as (w := .bool true) rfl rfl (by rw [decide_eq_true (by omega)]) (Wops_run rfl rfl ?_)
      (repeat (first | refine Wops_skip rfl ?_ | refine Wops_run rfl rfl ?_))
      refine K_fin [(0, _), (1, _), (2, _), (9, _), (10, _), (11, _), (12, _), (13, _), (72, _)] rfl (?_)
      refine K_cond rfl (fun _ => ?_) (fun hc => by cases hc)
      refine K_reg (Wops_run rfl rfl (Wops_run rfl rfl (Wops_run rfl rfl (K_fin [(6, _), (7, _), (8, _)] rfl (?_)))))
      refine K_ret (Told.mk _ rfl ⟨?_, rfl⟩)
      rw [← hr]; unfold rdL; rw [if_pos ⟨hl, fun w => h1 w.1⟩]; rfl
  rintro _ _ ⟨l, rfl, rfl, hng⟩
  have hp7 := p7 h7 hs
  have hlt : v + x % 128 * 2 ^ (7 * i) < 2 ^ (7 * (i + 1)) := by
    rw [pow7]
    have h1 : x % 128 + 1 ≤ 128 := by omega
    have h2 := Nat.mul_le_mul_right (2 ^ (7 * i)) h1
    rw [Nat.add_mul, Nat.one_mul] at h2
    omega
  have hb64 : x % 128 * 2 ^ (7 * i) < 18446744073709551616 := by
    by_cases hl : size ≤ 7 * i + 7
    · have hok : x < 128 ∧ x / 2 ^ (size - 7 * i) = 0 := Decidable.byContradiction fun q => hng ⟨hl, q⟩
      have h1 : x < 2 ^ (size - 7 * i) := by
        have := hok.2
        rw [Nat.div_eq_zero_iff] at this
        rcases this with r | r
        · exact absurd r (by have := Nat.two_pow_pos (size - 7 * i); omega)
        · exact r
      have h2 : x * 2 ^ (7 * i) < 2 ^ (size - 7 * i) * 2 ^ (7 * i) := Nat.mul_lt_mul_of_pos_right h1 (Nat.two_pow_pos _)
      rw [← Nat.pow_add] at h2
      have h3 : (2 : Nat) ^ (size - 7 * i + 7 * i) ≤ 2 ^ 64 := Nat.pow_le_pow_right (by decide) (by omega)
      have h4 : x % 128 = x := Nat.mod_eq_of_lt hok.1
      rw [h4]
      exact Nat.lt_of_lt_of_le h2 h3
    · have h3 : (2 : Nat) ^ (7 * (i + 1)) ≤ 2 ^ 64 := Nat.pow_le_pow_right (by decide) (by omega)
      have h4 : (2 : Nat) ^ 64 = 18446744073709551616 := rfl
      omega
  refine K_reg (Wops_run rfl rfl (Wops_run rfl rfl (Wops_run rfl rfl (Wops_as (w := .int .i64 ((7 * i : Nat) : Int)) rfl rfl (by rw [w64 (by omega)]; congr 1) (Wops_as (w := .int .u64 ((x % 128 * 2 ^ (7 * i) : Nat) : Int)) rfl rfl (Option.some.inj (shlN (kk := .i64) (by omega) hb64)) (Wops_as (w := .int .u64 ((v + x % 128 * 2 ^ (7 * i) : Nat) : Int)) rfl rfl ?_ (Wops_run rfl rfl (K_fin [(0, _), (1, _), (2, _), (9, _), (10, _), (11, _), (12, _)] rfl (?_)))))))))
  · refine (Option.some.inj (orN (by omega) hb64)).trans ?_
    rw [orAdd hv]
  conv at hr => lhs; unfold rdL
  rw [if_neg hng] at hr
  refine K_reg (Wops_run rfl rfl ?_)
  by_cases h1 : x < 128
  · rw [if_pos h1] at hr
    refine Wops_as (w := .bool true) rfl rfl (by rw [decide_eq_true (by omega)]) (K_fin [(0, _), (1, _), (2, _), (9, _), (10, _), (11, _), (12, _), (80, _)] rfl (?_))
    refine K_cond rfl (fun _ => ?_) (fun hc => by cases hc)
    refine K_ss (K_reg (Wops_run rfl rfl (Wops_run rfl rfl (Wops_skip rfl (Wops_skip rfl (Wops_skip rfl (Wops_run rfl rfl (Wops_run rfl rfl (Wops_skip rfl (Wops_skip rfl (Wops_skip rfl (Wops_skip rfl (Wops_run rfl rfl (K_fin [(9, _), (11, _), (92, _)] rfl (?_)))))))))))))))
    refine K_scond rfl (fun hc => by cases hc) (fun _ => ?_)
    refine K_sskip (K_reg (Wops_run rfl rfl (Wops_run rfl rfl (Wops_as (w := .int .i64 ((i + 1 : Nat) : Int)) rfl rfl (by rw [w64s (by omega)]) (Wops_run rfl rfl (Wops_run rfl rfl (Wops_run rfl rfl (K_fin [(6, _), (7, _), (8, _)] rfl (?_)))))))))
    refine K_ret (Told.mk _ rfl ⟨?_, rfl⟩)
    rw [← hr, Nat.mod_eq_of_lt h1]; rfl
  · rw [if_neg h1] at hr
    refine Wops_as (w := .bool false) rfl rfl (by rw [decide_eq_false (by omega)]) (K_fin [(0, _), (1, _), (2, _), (9, _), (10, _), (11, _), (12, _), (80, _)] rfl (?_))
    refine K_cond rfl (fun hc => by cases hc) (fun _ => ?_)
    refine K_skip ?_
    have h8 : 7 * (i + 1) < size := by
      have : ¬ size ≤ 7 * i + 7 := fun q => hng ⟨q, fun r => h1 r.1⟩
      omega
    refine K_last (Wops_run rfl rfl (Wops_as (w := .int .i64 ((i + 1 : Nat) : Int)) rfl rfl (by rw [w64s (by omega)]) (Wops_run rfl rfl (K_finL [(0, _), (1, _), (2, _), (9, _), (10, _), (11, _)] rfl (?_)))))
    exact ⟨n - (i + 1), by omega, i + 1, _, rfl, rfl, by omega, rfl, h8, hlt, hr⟩

/-- A number of so many bits read. -/
def numS (size : Nat) (s : Rd) : Nat × Rd := if s.2 ≠ 0 then (0, s) else ((rdL size 0 0 s.1).1, s.1.drop (rdL size 0 0 s.1).2.1, (rdL size 0 0 s.1).2.2)
/-- num -/
theorem C85 {h : Heap} {p B size most : Nat} {s : Rd} {rest : List Value} (q : Cu h p B s rest) (hs0 : 0 < size) (hs : size ≤ 64) (hmq : ((size : Int) + 6).tdiv 7 = (most : Int)) (hm : size ≤ 7 * most ∧ 7 * most < size + 7) :
    Fn Try.prog 85 [ptr p, .int .i64 (size : Int), .bool false] h fun v h' => Cu h' p B (numS size s).2 rest ∧ Ext (· = p) h h' ∧ v = .int .u64 ((numS size s).1 : Int) := by
  obtain ⟨hx, a, c, g, sl, hb, hd⟩ := id q
  refine fnK F85.fok rfl ?_
  refine K_reg (Wops_run rfl rfl (K_fin [(0, _), (1, _), (2, _)] rfl (?_)))
  refine K_ss (K_reg (Wops_run rfl rfl (Wops_run rfl rfl (Wops_run rfl rfl (Wops_ld (v := .int .i64 s.2) rfl g rfl ?_)))))
  by_cases h0 : s.2 = 0
  · have hns : numS size s = ((rdL size 0 0 s.1).1, s.1.drop (rdL size 0 0 s.1).2.1, (rdL size 0 0 s.1).2.2) := by unfold numS; rw [if_neg (fun w => w h0)]
    rw [hns]
    have hle : (rdL size 0 0 s.1).2.1 ≤ s.1.length := by have := rdL_len (size := size) s.1 0 0; omega
    refine Wops_as (w := .bool false) rfl rfl (by simp [h0]) (K_fin [(0, _), (1, _), (2, _), (14, _)] rfl (?_))
    refine K_scond rfl (fun hc => by cases hc) (fun _ => ?_)
    refine K_sskip (K_reg (Wops_run rfl rfl (Wops_run rfl rfl (Wops_run rfl rfl (Wops_ld (v := .slice a s.1.length c) rfl g rfl (Wops_run rfl rfl (Wops_run rfl rfl (Wops_call rfl (C94 sl hb hx hs0 hs hmq hm) ?_))))))))
    rintro _ _ ⟨rfl, rfl⟩
    generalize rdL size 0 0 s.1 = r at hle ⊢
    obtain ⟨v, n, er⟩ := r
    have hle' : n ≤ s.1.length := hle
    refine Wops_run rfl rfl (Wops_run rfl rfl (Wops_run rfl rfl (Wops_run rfl rfl (Wops_run rfl rfl (Wops_run rfl rfl (Wops_run rfl rfl (K_fin [(0, _), (7, _), (8, _), (9, _)] rfl (?_))))))))
    have hsub2 := sl.sub (i := n) (j := s.1.length) hle' (Nat.le_refl _)
    have hsame := hsub2.same
    rw [bys_sub] at hsub2
    have htk : (s.1.drop n).take (s.1.length - n) = s.1.drop n := List.take_of_length_le (by simp)
    have hdl : (s.1.drop n).length = s.1.length - n := by simp
    rw [htk] at hsub2
    refine K_reg (Wops_run rfl rfl (Wops_run rfl rfl (Wops_run rfl rfl (Wops_run rfl rfl (Wops_run rfl rfl (Wops_run rfl rfl (Wops_ld (v := .slice a s.1.length c) rfl g rfl (Wops_run rfl rfl (Wops_slV (lov := some (.int .i64 (n : Int))) (hiv := none) rfl rfl rfl sl.ok (bounds_lo hle') (Wops_run rfl rfl (Wops_run rfl rfl (Wops_st (l := [.int .i64 er]) rfl rfl rfl rfl g (by simp) rfl fun h3 n3 x3 g3 => ?_))))))))))))
    have sl3 := sl.ext x3 fun i r z => by have := hd.1; have := hd.2 i r; omega
    refine Wops_chkV (lov := some (.int .i64 (n : Int))) (hiv := none) rfl rfl rfl rfl sl3.ok (bounds_lo hle') hsame ?_
    refine Wops_run rfl rfl (Wops_run rfl rfl (Wops_st (l := [.slice (shift a (n * 1)) (s.1.length - n) c]) rfl rfl rfl rfl g3 (by simp [putL]) rfl fun h4 n4 x4 g4 => K_fin [(7, _)] rfl (?_)))
    refine K_reg (Wops_run rfl rfl (Wops_run rfl rfl (K_fin [(6, _)] rfl (?_))))
    refine K_ret (Told.mk _ rfl ⟨⟨fun x hxm => hx x (List.mem_of_mem_drop hxm), shift a (n * 1), c, ?_, ?_, ?_, ?_⟩, x3.trans x4, rfl⟩)
    · show At h4 p (.cells (.slice _ (s.1.drop n).length c :: .int .i64 er :: rest) 0 false)
      rw [hdl]; exact g4
    · show SlA h4 1 _ (s.1.drop n).length c (bys (s.1.drop n))
      rw [hdl]; exact hsub2.ext (x3.trans x4) fun i r z => by have := hd.1; have := hd.2 i (shift_blk.1 r); omega
    · show (s.1.drop n).length ≤ _
      rw [hdl]; omega
    · exact ⟨hd.1, fun i r => hd.2 i (shift_blk.1 r)⟩
  · have hns : numS size s = (0, s) := by unfold numS; rw [if_pos h0]
    rw [hns]
    refine Wops_as (w := .bool true) rfl rfl (by simp [h0]) (K_fin [(0, _), (1, _), (2, _), (14, _)] rfl (?_))
    refine K_scond rfl (fun _ => ?_) (fun hc => by cases hc)
    refine K_ss (K_reg (Wops_run rfl rfl (K_fin [(6, _)] rfl (?_))))
    exact K_sret (Told.mk _ rfl ⟨q, Ext.refl _ _, rfl⟩)
/-- U64 -/
theorem C50 {h : Heap} {p B : Nat} {s : Rd} {rest : List Value} (q : Cu h p B s rest) :
    Fn Try.prog 50 [ptr p] h fun v h' => Cu h' p B (numberS s).2 rest ∧ Ext (· = p) h h' ∧ v = .int .u64 ((numberS s).1 : Int) := by
  refine fnK F50.fok rfl ?_
  refine K_reg (Wops_run rfl rfl (K_fin [(0, _)] rfl (?_)))
  refine K_reg (Wops_run rfl rfl (Wops_call rfl (C85 (size := 64) (most := 10) q (by decide) (by decide) (by decide) (by decide)) ?_))
  rintro _ h1 ⟨q1, x1, rfl⟩
  refine Wops_run rfl rfl (K_fin [(2, _)] rfl (?_))
  exact K_ret (Told.mk _ rfl ⟨q1, x1, rfl⟩)
theorem num32_lt (s : Rd) (hx : ∀ x ∈ s.1, x < 256) : (numS 32 s).1 < 4294967296 := by
  unfold numS
  split
  · exact (by decide : (0 : Nat) < 4294967296)
  · exact rdL_lt (size := 32) s.1 0 0 (by decide) (by decide) hx
/-- U32 -/
theorem C52 {h : Heap} {p B : Nat} {s : Rd} {rest : List Value} (q : Cu h p B s rest) :
    Fn Try.prog 52 [ptr p] h fun v h' => Cu h' p B (numS 32 s).2 rest ∧ Ext (· = p) h h' ∧ v = .int .u32 ((numS 32 s).1 : Int) := by
  have hlt := num32_lt s q.1
  refine fnK F52.fok rfl ?_
  refine K_reg (Wops_run rfl rfl (K_fin [(0, _)] rfl (?_)))
  refine K_reg (Wops_run rfl rfl (Wops_call rfl (C85 (size := 32) (most := 5) q (by decide) (by decide) (by decide) (by decide)) ?_))
  rintro _ h1 ⟨q1, x1, rfl⟩
  refine Wops_run rfl rfl (K_fin [(3, _)] rfl (?_))
  refine K_reg (Wops_run rfl rfl (Wops_as (w := .int .u32 ((numS 32 s).1 : Int)) rfl rfl (by rw [wr32m, Nat.mod_eq_of_lt hlt]) (Wops_run rfl rfl (K_fin [(2, _)] rfl (?_)))))
  exact K_ret (Told.mk _ rfl ⟨q1, x1, rfl⟩)
theorem count_num (m : Nat) (s : Rd) : countS m s = ((numS 32 s).1, failS (decide ((numS 32 s).1 > m)) 4 (numS 32 s).2) := by
  unfold countS numS
  by_cases h0 : s.2 ≠ 0
  · rw [if_pos h0, if_pos h0, stick_fail h0]
  · rw [if_neg h0, if_neg h0]
/-- name -/
theorem C51 {h : Heap} {p B : Nat} {s : Rd} {rest : List Value} (q : Cu h p B s rest) :
    Fn Try.prog 51 [ptr p] h fun v h' => Cu h' p B (nameS s).2 rest ∧ Ext (· = p) h h' ∧ v = .string (strOf (nameS s).1) := by
  have hlt := num32_lt s q.1
  unfold nameS
  rw [count_num]
  refine fnK F51.fok rfl ?_
  refine K_reg (Wops_run rfl rfl (K_fin [(0, _)] rfl (?_)))
  refine K_reg (Wops_run rfl rfl (Wops_call rfl (C52 q) ?_))
  rintro _ h1 ⟨q1, x1, rfl⟩
  refine Wops_run rfl rfl (K_fin [(0, _), (3, _)] rfl (?_))
  refine K_ss (K_reg (Wops_run rfl rfl (Wops_as (w := .bool (decide ((numS 32 s).1 > 32))) rfl rfl (by congr 1; exact decide_eq_decide.2 (by omega)) (K_fin [(0, _), (3, _), (7, _)] rfl (?_)))))
  refine K_join (fun e h' => ∃ l : Env, e = [(0, ptr p), (3, .int .u32 ((numS 32 s).1 : Int))] ++ l ∧ Cu h' p B (failS (decide ((numS 32 s).1 > 32)) 4 (numS 32 s).2) rest ∧ Ext (· = p) h h') ?_ ?_
  · refine K_cond rfl (fun hc => ?_) (fun hc => K_skip ⟨[_], rfl, by rw [hc, fail_no]; exact q1, x1⟩)
    refine K_last (Wops_run rfl rfl (Wops_call rfl (C47 q1) ?_))
    rintro _ h2 ⟨q2, x2⟩
    exact K_finL [(0, _), (3, _)] rfl ⟨[], rfl, by rw [hc]; exact q2, x1.trans x2⟩
  rintro _ h2 ⟨l, rfl, q2, x2⟩
  refine K_reg (Wops_run rfl rfl (Wops_run rfl rfl (Wops_call rfl (C49 q2 hlt) ?_)))
  rintro _ h3 ⟨q3, x3, a', c', rfl, o, b'⟩
  have s' := o.sl
  rw [bys_ints] at s'
  refine Wops_toStr rfl s' (Wops_run rfl rfl (K_fin [(2, _)] rfl (?_)))
  exact K_ret (Told.mk _ rfl ⟨q3, x2.trans x3, rfl⟩)

end
section
/- The document's TakeRequest. -/
set_option linter.unusedVariables false
set_option linter.unusedSimpArgs false

/-- What the switch leaves. -/
def Sw (h0 h : Heap) (p p5 B : Nat) (R : Rq × Rd) : Prop :=
  ∃ ba bc aa ac, Cu h p B R.2 [] ∧ At h p5 (.cells (RqV R.1 ba R.1.body.length bc aa R.1.args.length ac) 0 false) ∧ Ext (fun i => i = p ∨ i = p5) h0 h ∧
    OwS h 1 ba R.1.body.length bc (bys R.1.body) ∧ OwS h 1 aa R.1.args.length ac (u64s R.1.args) ∧ (∀ i, Blk ba i → h0.next ≤ i) ∧ ∀ i, Blk aa i → h0.next ≤ i

set_option maxHeartbeats 4000000 in
/-- TakeRequest -/
theorem C15 {h : Heap} {a : Option Addr} {c n : Nat} {xs : List Nat} (s : SlA h 1 a n c (bys xs)) (hb : n ≤ 100000) (hx : ∀ x ∈ xs, x < 256) (ha : ∀ i, Blk a i → i < h.next) :
    Fn Try.prog 15 [.slice a n c] h fun v h' => Ext0 h h' ∧ ∃ ba bc aa ac, v = .tuple ⟨[.agg ⟨RqV (takeQ xs).1 ba (takeQ xs).1.body.length bc aa (takeQ xs).1.args.length ac⟩, .int .i64 (takeQ xs).2]⟩ ∧
      OwS h' 1 ba (takeQ xs).1.body.length bc (bys (takeQ xs).1.body) ∧ OwS h' 1 aa (takeQ xs).1.args.length ac (u64s (takeQ xs).1.args) ∧ (∀ i, Blk ba i → h.next ≤ i) ∧ ∀ i, Blk aa i → h.next ≤ i := by
  have hn : xs.length = n := by simpa using s.len
  subst hn
  refine fnK F15.fok rfl ?_
  refine K_reg (Wops_new fun h1 n1 x1 g1 => Wops_run rfl rfl (K_fin [(0, _), (2, _)] rfl (?_)))
  refine K_reg (Wops_run rfl rfl (Wops_run rfl rfl (Wops_box (cs := [.slice a xs.length c, .int .i64 0]) rfl rfl fun h2 n2 x2 g2 => Wops_run rfl rfl (K_fin [(2, _), (4, _)] rfl (?_)))))
  have q2 : Cu h2 h1.next h.next (xs, 0) [] := ⟨hx, a, c, g2, (s.ext x1).ext x2, hb, by omega, ha⟩
  have g12 : At h2 h.next (.cells (RqV Rq.zero none 0 0 none 0 0) 0 false) := At.ext g1 x2
  have hk1 := fixed1_lt (xs, 0) hx
  refine K_reg (Wops_run rfl rfl (Wops_call rfl (C46 q2) ?_))
  rintro _ h3 ⟨q3, x3, rfl⟩
  have htk : takeQ xs = if (endS (allS xs).2).2 ≠ 0 then (Rq.zero, (endS (allS xs).2).2) else ((allS xs).1, 0) := rfl
  have hkA : kindS (xs, 0) = ((fixedS 1 (xs, 0)).1, failS (decide ((fixedS 1 (xs, 0)).1 < 1 ∨ (fixedS 1 (xs, 0)).1 > 6)) 2 (fixedS 1 (xs, 0)).2) := rfl
  have hall : allS xs = bodyS (kindS (xs, 0)).1 (fixedS 8 (kindS (xs, 0)).2).1 (fixedS 8 (kindS (xs, 0)).2).2 := rfl
  rw [hkA] at hall
  rw [hall] at htk
  rw [htk]
  clear hall hkA htk
  generalize fixedS 1 (xs, 0) = A at q3 hk1 ⊢
  obtain ⟨k, s1⟩ := A
  have hk1' : k < 256 := hk1
  simp only [] at q3 ⊢
  have g13 := g12.ext x3 (by omega)
  refine Wops_as (w := .int .i64 (k : Int)) rfl rfl (by rw [w64 (by omega)]) (Wops_run rfl rfl (Wops_new fun h4 n4 x4 g4 => Wops_st (l := RqV { Rq.zero with kind := k } none 0 0 none 0 0) rfl rfl rfl rfl g4 (by simp) (by simp [RqV, isCell]) fun h5 n5 x5 g5 => K_fin [(2, _), (4, _), (5, _)] rfl (?_)))
  have z1 := x1.next
  have z2 := x2.next
  have z3 := x3.next
  have z4 := x4.next
  have z5 := x5.next
  have q5 : Cu h5 h1.next h.next s1 [] := (q3.ext0 x4).ext x5 (by omega) (fun i r => by omega)
  have gq : At h5 h3.next (.cells (RqV { Rq.zero with kind := k } none 0 0 none 0 0) 0 false) := g5
  have gr : At h5 h.next (.cells (RqV Rq.zero none 0 0 none 0 0) 0 false) := (g13.ext x4).ext x5 (by omega)
  have x05 : Ext0 h h5 := ((((x1.trans x2).then x3 fun i r => .inr (by omega)).trans x4)).then x5 fun i r => .inr (by omega)
  -- its kind
  refine K_join (fun e h' => ∃ l : Env, e = [(2, ptr h.next), (4, ptr h1.next), (5, ptr h3.next)] ++ l ∧ Cu h' h1.next h.next (failS (decide (k < 1 ∨ k > 6)) 2 s1) [] ∧ Ext (· = h1.next) h5 h') ?_ ?_
  · obtain ⟨_, a5, c5, gc, _⟩ := id q5
    refine K_reg (Wops_run rfl rfl (Wops_run rfl rfl (Wops_run rfl rfl (Wops_ld (v := .int .i64 s1.2) rfl gc rfl ?_))))
    by_cases h0 : s1.2 = 0
    case neg =>
      refine Wops_as (w := .bool false) rfl rfl (by simp [h0]) ?_
      (repeat (first | refine Wops_skip rfl ?_ | refine Wops_run rfl rfl ?_))
      refine K_fin [(2, _), (4, _), (5, _), (29, _)] rfl (K_cond rfl (fun hc => by cases hc) (fun _ => K_skip ⟨[_], rfl, ?_, Ext.refl _ _⟩))
      rw [stick_fail h0]; exact q5
    refine Wops_as (w := .bool true) rfl rfl (by simp [h0]) (Wops_run rfl rfl (Wops_go rfl (Wops_run rfl rfl (Wops_go rfl (Wops_ld (v := .int .i64 (k : Int)) rfl gq rfl (Wops_go rfl ?_))))))
    by_cases c1 : k < 1
    · refine Wops_as (w := .bool true) rfl rfl (by rw [decide_eq_true (by omega)]) (Wops_go rfl (Wops_run rfl rfl (Wops_skip rfl (Wops_skip rfl (Wops_skip rfl (Wops_go rfl (Wops_run rfl rfl (Wops_run rfl rfl (K_fin [(2, _), (4, _), (5, _), (29, _)] rfl (?_))))))))))
      refine K_cond rfl (fun _ => ?_) (fun hc => by cases hc)
      refine K_last (Wops_run rfl rfl (Wops_call rfl (C47 q5) ?_))
      rintro _ h6 ⟨q6, x6⟩
      refine K_finL [(2, _), (4, _), (5, _)] rfl ⟨[], rfl, ?_, x6⟩
      rw [decide_eq_true (.inl c1)]; exact q6
    · refine Wops_as (w := .bool false) rfl rfl (by rw [decide_eq_false (by omega)]) (Wops_go rfl (Wops_run rfl rfl (Wops_go rfl (Wops_run rfl rfl (Wops_go rfl (Wops_ld (v := .int .i64 (k : Int)) rfl gq rfl (Wops_go rfl (Wops_as (w := .bool (decide (k < 1 ∨ k > 6))) rfl rfl (by congr 1; exact decide_eq_decide.2 (by omega)) (Wops_go rfl (Wops_run rfl rfl (Wops_run rfl rfl (K_fin [(2, _), (4, _), (5, _), (29, _)] rfl (?_)))))))))))))
      refine K_cond rfl (fun hc => ?_) (fun hc => K_skip ⟨[_], rfl, by rw [hc, fail_no]; exact q5, Ext.refl _ _⟩)
      refine K_last (Wops_run rfl rfl (Wops_call rfl (C47 q5) ?_))
      rintro _ h6 ⟨q6, x6⟩
      refine K_finL [(2, _), (4, _), (5, _)] rfl ⟨[], rfl, ?_, x6⟩
      rw [hc]; exact q6
  rintro _ h6 ⟨l6, rfl, q6, x6⟩
  generalize failS (decide (k < 1 ∨ k > 6)) 2 s1 = sA at q6 ⊢
  refine K_reg (Wops_run rfl rfl (Wops_call rfl (C48 q6) ?_))
  rintro _ h7 ⟨q7, x7, rfl⟩
  generalize fixedS 8 sA = F at q7 ⊢
  obtain ⟨t, s⟩ := F
  simp only [] at q7 ⊢
  have gq7 := (gq.ext x6 (by omega)).ext x7 (by omega)
  refine Wops_run rfl rfl (Wops_st (l := [.int .u64 (t : Int)]) rfl rfl rfl rfl gq7 (by simp [RqV]) rfl fun h8 n8 x8 g8 => K_fin [(2, _), (4, _), (5, _)] rfl (?_))
  have z6 := x6.next
  have z7 := x7.next
  have z8 := x8.next
  have q8 : Cu h8 h1.next h.next s [] := q7.ext x8 (by omega) (fun i r => by omega)
  replace g8 : At h8 h3.next (.cells (RqV { Rq.zero with kind := k, tok := t } none 0 0 none 0 0) 0 false) := g8
  have gr8 := ((gr.ext x6 (by omega)).ext x7 (by omega)).ext x8 (by omega)
  have x08 : Ext0 h h8 := ((x05.then x6 fun i r => .inr (by omega)).then x7 fun i r => .inr (by omega)).then x8 fun i r => .inr (by omega)
  refine K_ss (K_reg (Wops_run rfl rfl (Wops_ld (v := .int .i64 (k : Int)) rfl g8 rfl (K_fin [(2, _), (4, _), (5, _), (36, _)] rfl (?_)))))
  refine K_jblock (fun e h' => ∃ l : Env, e = [(2, ptr h.next), (4, ptr h1.next), (5, ptr h3.next)] ++ l ∧ Sw h8 h' h1.next h3.next h.next (bodyS k t s)) ?_ ?_
  · have hpp : h1.next ≠ h3.next := by omega
    have exP : ∀ {hx hy : Heap}, Ext (· = h1.next) hx hy → Ext (fun i => i = h1.next ∨ i = h3.next) hx hy := fun x => x.mono fun _ _ r => .inl r
    have exQ : ∀ {hx hy : Heap}, Ext (· = h3.next) hx hy → Ext (fun i => i = h1.next ∨ i = h3.next) hx hy := fun x => x.mono fun _ _ r => .inr r
    obtain ⟨_, a8, c8, gc8, sl8, hb8, hd8⟩ := id q8
    by_cases e1 : k = 1
    · subst e1
      refine K_reg (Wops_as (w := .bool true) rfl rfl rfl (Wops_run rfl rfl (K_fin [(2, _), (4, _), (5, _), (36, _), (37, _)] rfl (?_))))
      refine K_cond rfl (fun _ => ?_) (fun hc => by cases hc)
      refine K_last (Wops_run rfl rfl (Wops_run rfl rfl (Wops_run rfl rfl (Wops_run rfl rfl (Wops_ld (v := .slice a8 s.1.length c8) rfl gc8 rfl (Wops_run rfl rfl (Wops_as (w := .int .u32 (s.1.length : Int)) rfl rfl (by rw [wr32m, Nat.mod_eq_of_lt (by omega)]) (Wops_call rfl (C49 q8 (by omega)) ?_))))))))
      rintro _ h9 ⟨q9, x9, ba, bc, rfl, ob, bb⟩
      have z9 := x9.next
      have g9 := g8.ext x9 (by omega)
      refine Wops_run rfl rfl (Wops_st (l := [.slice ba _ bc]) rfl rfl rfl rfl g9 (by simp [RqV]) rfl fun h10 n10 x10 g10 => K_finL [(2, _), (4, _), (5, _)] rfl ?_)
      exact ⟨[], rfl, ba, bc, none, 0, q9.ext x10 (by omega) (fun i r => by omega), g10, (exP x9).trans (exQ x10), ob.ext x10 (fun i r => by have := bb i r; omega), OwS.none, fun i r => bb i r, fun i r => absurd r Blk.none⟩
    refine K_reg (Wops_as (w := .bool false) rfl rfl (by simp; omega) (Wops_run rfl rfl (K_fin [(2, _), (4, _), (5, _), (36, _), (37, _)] rfl (?_))))
    refine K_cond rfl (fun hc => by cases hc) (fun _ => ?_)
    by_cases e2 : k = 2
    · subst e2
      refine K_reg (Wops_as (w := .bool true) rfl rfl rfl (Wops_run rfl rfl (K_fin [(2, _), (4, _), (5, _), (36, _), (48, _)] rfl (?_))))
      refine K_cond rfl (fun _ => ?_) (fun hc => by cases hc)
      refine K_last (Wops_run rfl rfl (Wops_call rfl (C50 q8) ?_))
      rintro _ h9 ⟨q9, x9, rfl⟩
      refine Wops_run rfl rfl (Wops_call rfl (C51 q9) ?_)
      rintro _ h10 ⟨q10, x10, rfl⟩
      have z9 := x9.next
      have z10 := x10.next
      have g10 := (g8.ext x9 (by omega)).ext x10 (by omega)
      refine Wops_run rfl rfl (Wops_st (l := [.int .u64 ((numberS s).1 : Int)]) rfl rfl rfl rfl g10 (by simp [RqV]) rfl fun h11 n11 x11 g11 => ?_)
      refine Wops_run rfl rfl (Wops_st (l := [.string (strOf (nameS (numberS s).2).1)]) rfl rfl rfl rfl g11 (by simp [RqV, putL]) rfl fun h12 n12 x12 g12 => K_finL [(2, _), (4, _), (5, _)] rfl ?_)
      exact ⟨[], rfl, none, 0, none, 0, (q10.ext x11 (by omega) (fun i r => by omega)).ext x12 (by omega) (fun i r => by omega), g12, (((exP x9).trans (exP x10)).trans (exQ x11)).trans (exQ x12), OwS.none, OwS.none, fun i r => absurd r Blk.none, fun i r => absurd r Blk.none⟩
    refine K_reg (Wops_as (w := .bool false) rfl rfl (by simp; omega) (Wops_run rfl rfl (K_fin [(2, _), (4, _), (5, _), (36, _), (48, _)] rfl (?_))))
    refine K_cond rfl (fun hc => by cases hc) (fun _ => ?_)
    by_cases e3 : k = 3
    · subst e3
      refine K_reg (Wops_as (w := .bool true) rfl rfl rfl (Wops_run rfl rfl (K_fin [(2, _), (4, _), (5, _), (36, _), (56, _)] rfl (?_))))
      refine K_cond rfl (fun _ => ?_) (fun hc => by cases hc)
      refine K_last (Wops_run rfl rfl (Wops_call rfl (C51 q8) ?_))
      rintro _ h9 ⟨q9, x9, rfl⟩
      have z9 := x9.next
      have g9 := g8.ext x9 (by omega)
      refine Wops_run rfl rfl (Wops_st (l := [.string (strOf (nameS s).1)]) rfl rfl rfl rfl g9 (by simp [RqV]) rfl fun h10 n10 x10 g10 => K_finL [(2, _), (4, _), (5, _)] rfl ?_)
      exact ⟨[], rfl, none, 0, none, 0, q9.ext x10 (by omega) (fun i r => by omega), g10, (exP x9).trans (exQ x10), OwS.none, OwS.none, fun i r => absurd r Blk.none, fun i r => absurd r Blk.none⟩
    refine K_reg (Wops_as (w := .bool false) rfl rfl (by simp; omega) (Wops_run rfl rfl (K_fin [(2, _), (4, _), (5, _), (36, _), (56, _)] rfl (?_))))
    refine K_cond rfl (fun hc => by cases hc) (fun _ => ?_)
    by_cases e4 : k = 4
    · subst e4
      refine K_reg (Wops_as (w := .bool true) rfl rfl rfl (Wops_run rfl rfl (K_fin [(2, _), (4, _), (5, _), (36, _), (61, _)] rfl (?_))))
      refine K_cond rfl (fun _ => ?_) (fun hc => by cases hc)
      refine K_reg (Wops_run rfl rfl (Wops_call rfl (C50 q8) ?_))
      rintro _ h9 ⟨q9, x9, rfl⟩
      refine Wops_run rfl rfl (Wops_call rfl (C51 q9) ?_)
      rintro _ h10 ⟨q10, x10, rfl⟩
      have z9 := x9.next
      have z10 := x10.next
      have g10 := (g8.ext x9 (by omega)).ext x10 (by omega)
      refine Wops_run rfl rfl (Wops_st (l := [.int .u64 ((numberS s).1 : Int)]) rfl rfl rfl rfl g10 (by simp [RqV]) rfl fun h11 n11 x11 g11 => ?_)
      refine Wops_run rfl rfl (Wops_st (l := [.string (strOf (nameS (numberS s).2).1)]) rfl rfl rfl rfl g11 (by simp [RqV, putL]) rfl fun h12 n12 x12 g12 => K_fin [(2, _), (4, _), (5, _)] rfl ?_)
      have hbody : bodyS 4 t s = (⟨4, t, (numberS s).1, (nameS (numberS s).2).1, [], (numbersS (nameS (numberS s).2).2).1, (numberS (numbersS (nameS (numberS s).2).2).2).1, 0⟩, (numberS (numbersS (nameS (numberS s).2).2).2).2) := rfl
      rw [hbody]
      clear hbody
      have q12 := (q10.ext x11 (by omega) (fun i r => by omega)).ext x12 (by omega) (fun i r => by omega)
      have X12 : Ext (fun i => i = h1.next ∨ i = h3.next) h8 h12 := (((exP x9).trans (exP x10)).trans (exQ x11)).trans (exQ x12)
      replace g12 : At h12 h3.next (.cells (RqV ⟨4, t, (numberS s).1, (nameS (numberS s).2).1, [], [], 0, 0⟩ none 0 0 none 0 0) 0 false) := g12
      generalize (numberS s).1 = han at g12 ⊢
      generalize nameS (numberS s).2 = N0 at q12 g12 ⊢
      obtain ⟨nm, sN⟩ := N0
      simp only [] at q12 g12 ⊢
      have z11 := x11.next
      have z12 := x12.next
      have hN32 := num32_lt sN q12.1
      refine K_reg (Wops_run rfl rfl (Wops_call rfl (C52 q12) ?_))
      rintro _ h13 ⟨q13, x13, rfl⟩
      have z13 := x13.next
      refine Wops_run rfl rfl (K_fin [(2, _), (4, _), (5, _), (6, _)] rfl (?_))
      have hcn := count_num 8 sN
      have hnS : numbersS sN = numbersL (numS 32 sN).1 [] (failS (decide ((numS 32 sN).1 > 8)) 4 (numS 32 sN).2) := by unfold numbersS; rw [hcn]
      generalize numS 32 sN = NN at q13 hN32 hnS ⊢
      obtain ⟨N, sM⟩ := NN
      simp only [] at q13 hN32 hnS ⊢
      refine K_ss (K_reg (Wops_run rfl rfl (Wops_as (w := .bool (decide (N > 8))) rfl rfl (by congr 1; exact decide_eq_decide.2 (by omega)) (K_fin [(2, _), (4, _), (5, _), (6, _), (72, _)] rfl (?_)))))
      refine K_join (fun e h' => ∃ l : Env, e = [(2, ptr h.next), (4, ptr h1.next), (5, ptr h3.next), (6, .int .u32 (N : Int))] ++ l ∧ Cu h' h1.next h.next (failS (decide (N > 8)) 4 sM) [] ∧ Ext (· = h1.next) h13 h') ?_ ?_
      · refine K_cond rfl (fun hc => ?_) (fun hc => K_skip ⟨[_], rfl, by rw [hc, fail_no]; exact q13, Ext.refl _ _⟩)
        refine K_last (Wops_run rfl rfl (Wops_call rfl (C47 q13) ?_))
        rintro _ h14 ⟨q14, x14⟩
        exact K_finL [(2, _), (4, _), (5, _), (6, _)] rfl ⟨[], rfl, by rw [hc]; exact q14, x14⟩
      rintro _ h14 ⟨l14, rfl, q14, x14⟩
      have z14 := x14.next
      have hN8 : (failS (decide (N > 8)) 4 sM).2 = 0 → N ≤ 8 := fun w => by have := of_decide_eq_false (failS_ok (by decide) w).1; omega
      generalize failS (decide (N > 8)) 4 sM = sF at q14 hN8 hnS ⊢
      have g14 := (g12.ext x13 (by omega)).ext x14 (by omega)
      refine K_ss (K_reg (Wops_run rfl rfl (K_fin [(2, _), (4, _), (5, _), (6, _), (7, _)] rfl (?_))))
      refine K_sblock ?_
      refine K_loop (fun kk e h' => ∃ (j : Nat) (l : List Nat) (s' : Rd) (la : Option Addr) (lc : Nat), e = [(2, ptr h.next), (4, ptr h1.next), (5, ptr h3.next), (6, .int .u32 (N : Int)), (7, .int .u32 (j : Int))] ∧ j ≤ N ∧ kk = N - j ∧ numbersL (N - j) l s' = numbersS sN ∧ (s'.2 = 0 → (N - j) + l.length ≤ 8) ∧ Cu h' h1.next h.next s' [] ∧ At h' h3.next (.cells (RqV ⟨4, t, han, nm, [], l, 0, 0⟩ none 0 0 la l.length lc) 0 false) ∧ OwS h' 1 la l.length lc (u64s l) ∧ (∀ i, Blk la i → h8.next ≤ i) ∧ Ext (fun i => i = h1.next ∨ i = h3.next) h8 h') ?_ (k := N) ⟨0, [], sF, none, 0, rfl, by omega, rfl, hnS.symm, fun w => by have := hN8 w; simp; omega, q14, g14, OwS.none, fun i r => absurd r Blk.none, (X12.trans (exP x13)).trans (exP x14)⟩
      rintro kk e h' ⟨j, l, s', la, lc, rfl, hj, rfl, hl, h8', q', g', ol, bl, X'⟩
      have z' := X'.next
      obtain ⟨_, a', c', gc', _⟩ := id q'
      have fin : (N ≤ j ∨ s'.2 ≠ 0) → numbersS sN = (l, s') := fun w => by
        rw [← hl]
        rcases w with w | w
        · rw [show N - j = 0 by omega]; rfl
        · exact stick_numbersL _ _ _ w
      have fini : numbersS sN = (l, s') → ∀ (hq : Heap) (b84 : Bool) (kx : Nat → Env → Heap → Prop) (kr : Env → Heap → Prop), hq = h' → W Try.prog (.region [⟨some 94, none, .mov (.t 4)⟩, ⟨some 95, none, .call 50 [.t 94]⟩, ⟨some 96, none, .fa 6 (.t 5)⟩, ⟨none, none, .st 1 (.t 96) (.t 95)⟩] [2, 4, 5]) [(2, ptr h.next), (4, ptr h1.next), (5, ptr h3.next), (6, .int .u32 (N : Int)), (7, .int .u32 (j : Int)), (84, .bool b84)] hq (K3 (fun e h' => ∃ l : Env, e = [(2, ptr h.next), (4, ptr h1.next), (5, ptr h3.next)] ++ l ∧ Sw h8 h' h1.next h3.next h.next (⟨4, t, han, nm, [], (numbersS sN).1, (numberS (numbersS sN).2).1, 0⟩, (numberS (numbersS sN).2).2)) kx kr) := fun hf hq b84 kx kr e => by
        subst e
        rw [hf]
        refine K_last (Wops_run rfl rfl (Wops_call rfl (C50 q') ?_))
        rintro _ h15 ⟨q15, x15, rfl⟩
        have z15 := x15.next
        have g15 := g'.ext x15 (by omega)
        refine Wops_run rfl rfl (Wops_st (l := [.int .u64 ((numberS s').1 : Int)]) rfl rfl rfl rfl g15 (by simp [RqV]) rfl fun h16 n16 x16 g16 => K_finL [(2, _), (4, _), (5, _)] rfl ?_)
        exact ⟨[], rfl, none, 0, la, lc, q15.ext x16 (by omega) (fun i r => by omega), g16, (X'.trans (exP x15)).trans (exQ x16), OwS.none, (ol.ext x15 (fun i r => by have := bl i r; omega)).ext x16 (fun i r => by have := bl i r; omega), fun i r => absurd r Blk.none, bl⟩
      refine K_ss (K_reg (Wops_run rfl rfl (Wops_run rfl rfl ?_)))
      by_cases hjN : j < N
      case neg =>
        refine Wops_as (w := .bool false) rfl rfl (by rw [decide_eq_false (by omega)]) ?_
        (repeat (first | refine Wops_skip rfl ?_ | refine Wops_run rfl rfl ?_))
        refine K_fin [(2, _), (4, _), (5, _), (6, _), (7, _), (84, _)] rfl (K_scond rfl (fun hc => by cases hc) (fun _ => K_sexit (bx_same ?_)))
        exact fini (fin (.inl (by omega))) h' _ _ _ rfl
      refine Wops_as (w := .bool true) rfl rfl (by rw [decide_eq_true (by omega)]) (Wops_run rfl rfl (Wops_go rfl (Wops_run rfl rfl (Wops_go rfl (Wops_run rfl rfl (Wops_go rfl (Wops_run rfl rfl (Wops_go rfl (Wops_ld (v := .int .i64 s'.2) rfl gc' rfl (Wops_go rfl ?_))))))))))
      by_cases h0 : s'.2 = 0
      case neg =>
        refine Wops_as (w := .bool false) rfl rfl (by simp [h0]) (Wops_run rfl rfl (K_fin [(2, _), (4, _), (5, _), (6, _), (7, _), (84, _)] rfl (?_)))
        refine K_scond rfl (fun hc => by cases hc) (fun _ => K_sexit (bx_same ?_))
        exact fini (fin (.inr h0)) h' _ _ _ rfl
      refine Wops_as (w := .bool true) rfl rfl (by simp [h0]) (Wops_run rfl rfl (K_fin [(2, _), (4, _), (5, _), (6, _), (7, _), (84, _)] rfl (?_)))
      refine K_scond rfl (fun _ => ?_) (fun hc => by cases hc)
      have h88 := h8' h0
      refine K_sskip (K_sblock ?_)
      refine K_last (Wops_run rfl rfl (Wops_ld (v := .slice la l.length lc) rfl g' rfl (Wops_run rfl rfl (Wops_call rfl (C50 q') ?_))))
      rintro _ h15 ⟨q15, x15, rfl⟩
      have z15 := x15.next
      have g15 := g'.ext x15 (by omega)
      have ol15 := ol.ext x15 (fun i r => by have := bl i r; omega)
      refine Wops_chk rfl rfl g15 (v := .slice la l.length lc) rfl ol.sl.same ?_
      refine Wops_bslice (l := u64s [(numberS s').1]) rfl rfl fun h16 n16 x16 g16 => ?_
      have z16 := x16.next
      refine Wops_app rfl rfl (ol15.ext x16) rfl (OwS.new (n := 1) (c := 1) g16 rfl).sl.first ⟨by omega, by omega⟩ rfl rfl (by decide) fun h17 a17 c17 x17 o17 b17 => ?_
      have z17 := x17.next
      have b17' : ∀ i, Blk a17 i → h8.next ≤ i := fun i r => (b17 i r).elim (bl i) fun r => by omega
      have g17 := (g15.ext x16).ext x17 (fun r => by have := bl _ r; omega)
      refine Wops_run rfl rfl (Wops_st (l := [.slice a17 (l.length + 1) c17]) rfl rfl rfl rfl g17 (by simp [RqV]) rfl fun h18 n18 x18 g18 => K_finL [(2, _), (4, _), (5, _), (6, _), (7, _)] rfl (?_))
      have z18 := x18.next
      refine K_last (Wops_run rfl rfl (Wops_as (w := .int .u32 ((j + 1 : Nat) : Int)) rfl rfl (by rw [show (j : Int) + 1 = ((j + 1 : Nat) : Int) by omega, wr32m, Nat.mod_eq_of_lt (by omega)]) (Wops_run rfl rfl (K_finL [(2, _), (4, _), (5, _), (6, _), (7, _)] rfl (?_)))))
      have hll : (l ++ [(numberS s').1]).length = l.length + 1 := by simp
      have q18 : Cu h18 h1.next h.next (numberS s').2 [] := ((q15.ext0 x16).ext x17 (fun r => by have := bl _ r; omega) (fun i r => by have := bl i r; omega)).ext x18 (by omega) (fun i r => by omega)
      refine ⟨N - (j + 1), by omega, j + 1, l ++ [(numberS s').1], (numberS s').2, a17, c17, rfl, by omega, rfl, ?_, fun _ => by rw [hll]; omega, q18, by rw [hll]; exact g18, ?_, b17', (((X'.trans (exP x15)).then0 x16).then x17 fun i r => .inr (bl i r)).trans (exQ x18)⟩
      · rw [← hl]
        obtain ⟨u, hu⟩ : ∃ u, N - j = u + 1 := ⟨N - j - 1, by omega⟩
        rw [hu, show N - (j + 1) = u by omega]
        conv => rhs; unfold numbersL
        rw [if_neg (fun w => w h0)]
      · rw [hll, u64s, List.map_append]; exact o17.ext x18 fun i r => by have := b17' i r; omega
    refine K_reg (Wops_as (w := .bool false) rfl rfl (by simp; omega) (Wops_run rfl rfl (K_fin [(2, _), (4, _), (5, _), (36, _), (61, _)] rfl (?_))))
    refine K_cond rfl (fun hc => by cases hc) (fun _ => ?_)
    by_cases e5 : k = 5
    · subst e5
      refine K_reg (Wops_as (w := .bool true) rfl rfl rfl (Wops_run rfl rfl (K_fin [(2, _), (4, _), (5, _), (36, _), (97, _)] rfl (?_))))
      refine K_cond rfl (fun _ => ?_) (fun hc => by cases hc)
      refine K_last (Wops_run rfl rfl (Wops_call rfl (C50 q8) ?_))
      rintro _ h9 ⟨q9, x9, rfl⟩
      have z9 := x9.next
      have g9 := g8.ext x9 (by omega)
      refine Wops_run rfl rfl (Wops_st (l := [.int .u64 ((numberS s).1 : Int)]) rfl rfl rfl rfl g9 (by simp [RqV]) rfl fun h10 n10 x10 g10 => K_finL [(2, _), (4, _), (5, _)] rfl ?_)
      exact ⟨[], rfl, none, 0, none, 0, q9.ext x10 (by omega) (fun i r => by omega), g10, (exP x9).trans (exQ x10), OwS.none, OwS.none, fun i r => absurd r Blk.none, fun i r => absurd r Blk.none⟩
    refine K_reg (Wops_as (w := .bool false) rfl rfl (by simp; omega) (Wops_run rfl rfl (K_fin [(2, _), (4, _), (5, _), (36, _), (97, _)] rfl (?_))))
    refine K_cond rfl (fun hc => by cases hc) (fun _ => ?_)
    by_cases e6 : k = 6
    · subst e6
      refine K_reg (Wops_as (w := .bool true) rfl rfl rfl (Wops_run rfl rfl (K_fin [(2, _), (4, _), (5, _), (102, _)] rfl (?_))))
      refine K_cond rfl (fun _ => ?_) (fun hc => by cases hc)
      refine K_last (Wops_run rfl rfl (Wops_call rfl (C48 q8) ?_))
      rintro _ h9 ⟨q9, x9, rfl⟩
      have z9 := x9.next
      have g9 := g8.ext x9 (by omega)
      refine Wops_run rfl rfl (Wops_st (l := [.int .u64 ((fixedS 8 s).1 : Int)]) rfl rfl rfl rfl g9 (by simp [RqV]) rfl fun h10 n10 x10 g10 => K_finL [(2, _), (4, _), (5, _)] rfl ?_)
      exact ⟨[], rfl, none, 0, none, 0, q9.ext x10 (by omega) (fun i r => by omega), g10, (exP x9).trans (exQ x10), OwS.none, OwS.none, fun i r => absurd r Blk.none, fun i r => absurd r Blk.none⟩
    refine K_reg (Wops_as (w := .bool false) rfl rfl (by simp; omega) (Wops_run rfl rfl (K_fin [(2, _), (4, _), (5, _), (102, _)] rfl (?_))))
    refine K_cond rfl (fun hc => by cases hc) (fun _ => ?_)
    have hbk : bodyS k t s = (⟨k, t, 0, [], [], [], 0, 0⟩, s) := by
      unfold bodyS
      split <;> first | omega | rfl
    rw [hbk]
    exact K_skip ⟨[_], rfl, none, 0, none, 0, q8, g8, Ext.refl _ _, OwS.none, OwS.none, fun i r => absurd r Blk.none, fun i r => absurd r Blk.none⟩
  rintro _ h9 ⟨l9, rfl, ba, bc, aa, ac, q9, g9, x9, ob, oa, bb, bba⟩
  generalize bodyS k t s = R at q9 g9 ob oa ⊢
  have z9 := x9.next
  have gr9 := gr8.ext x9 (by omega)
  refine K_reg (Wops_run rfl rfl (Wops_call rfl (C53 q9) ?_))
  rintro _ h10 ⟨q10, x10⟩
  have z10 := x10.next
  refine K_fin [(2, _), (4, _), (5, _)] rfl (?_)
  obtain ⟨_, a10, c10, gc10, _⟩ := id q10
  have g10 := g9.ext x10 (by omega)
  have gr10 := gr9.ext x10 (by omega)
  have ob10 := ob.ext x10 (fun i r => by have := bb i r; omega)
  have oa10 := oa.ext x10 (fun i r => by have := bba i r; omega)
  have X : Ext0 h h10 := (x08.then x9 fun i r => .inr (by omega)).then x10 fun i r => .inr (by omega)
  refine K_ss (K_reg (Wops_run rfl rfl (Wops_run rfl rfl (Wops_run rfl rfl (Wops_ld (v := .int .i64 (endS R.2).2) rfl gc10 rfl ?_)))))
  by_cases h0 : (endS R.2).2 = 0
  · rw [if_neg (fun w => w h0)]
    refine Wops_as (w := .bool false) rfl rfl (by simp [h0]) (K_fin [(2, _), (4, _), (5, _), (113, _)] rfl (?_))
    refine K_scond rfl (fun hc => by cases hc) (fun _ => ?_)
    refine K_sskip (K_reg (Wops_ldA (l := RqV R.1 ba R.1.body.length bc aa R.1.args.length ac) rfl g10 (by simp [RqV]) rfl ?_))
    refine Wops_st (l := RqV R.1 ba R.1.body.length bc aa R.1.args.length ac) rfl rfl rfl rfl gr10 (by simp [RqV]) (by simp [RqV, isCell]) fun h11 n11 x11 g11 => ?_
    refine Wops_run rfl rfl (K_fin [(2, _), (3, _)] rfl (?_))
    exact K_ret (Told.mk _ (resL_cons (res_c (l := RqV R.1 ba R.1.body.length bc aa R.1.args.length ac) rfl g11 (by simp [putL_length, RqV]) (by rfl)) (resL_cons rfl rfl)) ⟨X.then x11 fun i r => .inr (by omega), ba, bc, aa, ac, rfl, ob10.ext x11 (fun i r => by have := bb i r; omega), oa10.ext x11 (fun i r => by have := bba i r; omega), fun i r => by have := bb i r; omega, fun i r => by have := bba i r; omega⟩)
  · rw [if_pos h0]
    refine Wops_as (w := .bool true) rfl rfl (by simp [h0]) (K_fin [(2, _), (4, _), (5, _), (113, _)] rfl (?_))
    refine K_scond rfl (fun _ => ?_) (fun hc => by cases hc)
    refine K_ss (K_reg (Wops_run rfl rfl (Wops_run rfl rfl (Wops_run rfl rfl (Wops_run rfl rfl (Wops_ld (v := .int .i64 (endS R.2).2) rfl gc10 rfl ?_))))))
    refine Wops_st (l := RqV Rq.zero none 0 0 none 0 0) rfl rfl rfl rfl gr10 (by simp [RqV]) (by simp [RqV, isCell]) fun h11 n11 x11 g11 => ?_
    have gc11 := gc10.ext x11 (by omega)
    refine Wops_chk rfl rfl gc11 (v := .int .i64 (endS R.2).2) rfl (sameI _ _) ?_
    refine Wops_run rfl rfl (K_fin [(2, _), (3, _)] rfl (?_))
    exact K_sret (Told.mk _ (resL_cons (res_c (l := RqV Rq.zero none 0 0 none 0 0) rfl g11 (by simp [putL_length, RqV]) (by rfl)) (resL_cons rfl rfl)) ⟨X.then x11 fun i r => .inr (by omega), none, 0, none, 0, rfl, OwS.none, OwS.none, fun i r => absurd r Blk.none, fun i r => absurd r Blk.none⟩)

end
section
/- ReqAll: bytes with spare room behind them, the walk. -/
set_option linter.unusedVariables false
set_option linter.unusedSimpArgs false

section
variable {d : Option Nat} {r : List SOp} {e : Env} {h : Heap} {Q : Env → Heap → Prop}
theorem Wops_slVh {sz n c hh id : Nat} {k' : IntKind} {x hi : Arg} {vs : List Value} (hx : x.ev e = some (.slice (some ⟨id, 0, none⟩) n c)) (hhi : hi.ev e = some (.int k' hh)) (g : At h id (.cells vs sz false)) (hc : c ≠ 0) (hz : 0 < sz)
    (hr : n ≤ vs.length / sz) (hr2 : hh ≤ vs.length / sz)
    (hq : Wops Try.prog r (e.put d (.slice (some ⟨id, 0, none⟩) hh c)) h Q) : Wops Try.prog (⟨d, none, .slV sz x none (some hi) none⟩ :: r) e h Q := by
  refine Wops_run (v := .slice (some ⟨id, 0, none⟩) hh c) (h' := h) rfl ?_ hq
  have hat : h.get id = some (.cells vs sz false) := g
  have hcb : c.beq 0 = false := by rw [beq_iff]; simp [hc]
  have hzb : sz.beq 0 = false := by rw [beq_iff]; simp; omega
  have hszb : sz.beq sz = true := Nat.beq_refl _
  have hrb : n.ble (vs.length / sz) = true := Nat.ble_eq_true_of_le hr
  have hroom : roomOf h sz (some ⟨id, 0, none⟩) n c = vs.length / sz := by
    simp only [roomOf, hcb, hzb, Bool.or_self, cond_false, hat, hszb, Nat.sub_zero, hrb, cond_true]
  have hsl : slB h sz (some ⟨id, 0, none⟩) n c none (some (.int k' hh)) = some (0, hh) := by
    unfold slB
    by_cases hn : hh ≤ n
    · rw [bounds_hi hn]
    · have h0 : bounds n n none (some (.int k' hh)) = none := by
        simp only [bounds, hiOf, natOf]
        rw [if_neg (by omega)]
      rw [h0, hroom]
      simp only [bounds, hiOf, loOf, natOf]
      rw [if_pos ⟨by omega, by omega⟩]
      simp only [Int.toNat_natCast]
  have hok : slOk h sz (.slice (some ⟨id, 0, none⟩) n c) = true := by
    simp only [slOk, hat, hcb, hszb, Bool.or_true]
  have e1 : optEv e none = some none := rfl
  have e2 : optEv e (some hi) = some (some (.int k' hh)) := by simp only [optEv, hhi, Option.map_some]
  simp only [SO.run, hx, e1, e2, slVV, hok, Bool.not_true, cond_false, hsl, Option.map_some, Nat.zero_mul, Nat.add_zero, Nat.sub_zero]
theorem Wops_copy {sz n m dc id off ez : Nat} {dst src : Arg} {vs new : List Value} {sv : Value} (hd : dst.ev e = some (.slice (some ⟨id, off, none⟩) n dc)) (hs : src.ev e = some sv) (hm : lenOfV sv = some m) (hmn : m ≤ n) (hf : firstL h sz m sv = some new) (g : At h id (.cells vs ez false))
    (hb : off + new.length ≤ vs.length) (hc : new.all isCell = true) (h0 : m = 0 → new = [])
    (hq : ∀ h', h'.next = h.next → Ext (· = id) h h' → At h' id (.cells (putL vs off new) ez false) → Wops Try.prog r (e.put d (.int .i64 m)) h' Q) : Wops Try.prog (⟨d, none, .copy sz dst src⟩ :: r) e h Q := by
  have hmin : min m n = m := by omega
  by_cases hz : m = 0
  · have hn := h0 hz
    subst hn; subst hz
    refine Wops_run (v := .int .i64 (0 : Nat)) (h' := h) rfl ?_ (hq h rfl (Ext.refl _ _) g)
    simp only [SO.run, hd, hs, hm, hmin]; rfl
  · obtain ⟨h', h1, h2, h3, h4⟩ := wr_own (off := off) (l := new) g hb hc
    refine Wops_run (v := .int .i64 m) (h' := h') rfl ?_ (hq h' h2 h3 h4)
    have hmb : m.beq 0 = false := by rw [beq_iff]; simp [hz]
    simp only [SO.run, hd, hs, hm, hmin, hmb, cond_false, hf, h1, Option.map_some]
end

theorem Inn.fits {h : Heap} {kd : Int} {r : Rq} {ba aa : Option Addr} {bn bc an ac : Nat} (i : Inn h kd r ba bn bc aa an ac) (m : may kd r bn an) : r.Fit ∧ RqI kd r ba bn bc aa an ac = RqV r ba bn bc aa an ac := by
  obtain ⟨m1, m2, m3, m4, m5⟩ := m
  have hbn : r.body.length = bn := by simpa using i.s1.len
  have han : r.args.length = an := by simpa using i.s2.len
  have hk : (r.kind : Int) = kd := by rw [i.k]; omega
  rw [strOf_size] at m3
  refine ⟨⟨by omega, by omega, i.t, i.hh, m3, i.nb, by omega, i.bb, by omega, i.ab, i.c, i.o⟩, ?_⟩
  unfold RqI RqV
  rw [hk]
theorem takeQ_fit {xs : List Nat} (hx : ∀ x ∈ xs, x < 256) (hl : xs.length ≤ 300) : (∀ x ∈ (takeQ xs).1.name, x < 256) ∧ (∀ x ∈ (takeQ xs).1.body, x < 256) ∧ (takeQ xs).1.args.length ≤ 8 := by
  by_cases h0 : (takeQ xs).2 = 0
  · obtain ⟨k, _⟩ := takeQ_any hx hl h0
    exact ⟨k.nb, k.bb, k.a⟩
  · have : (takeQ xs).1 = Rq.zero := by unfold takeQ at h0 ⊢; split <;> simp_all
    rw [this]; simp [Rq.zero]

theorem set_app {α : Type} (a b : List α) (i : Nat) (v : α) : (a ++ b).set (a.length + i) v = a ++ b.set i v := by
  rw [List.set_append_right _ _ (by omega)]; simp
def spare (i : Nat) : List Nat := List.replicate i 229 ++ List.replicate (3 - i) 0
/-- Twin -/
theorem C13 {h : Heap} {a : Option Addr} {n c : Nat} {xs : List Nat} (s : SlA h 1 a n c (bys xs)) (hb : n ≤ 300) : Fn Try.prog 13 [.slice a n c] h fun v h' => ∃ id, v = .slice (some ⟨id, 0, none⟩) n ((n + 3) * 1 + 2) ∧ Ext0 h h' ∧ h.next ≤ id ∧ At h' id (.cells (bys (xs ++ [229, 229, 229])) 1 false) := by
  have hn : xs.length = n := by simpa using s.len
  refine fnK F13.fok rfl ?_
  refine K_reg (Wops_run rfl rfl (K_fin [(0, _)] rfl (?_)))
  refine K_reg (Wops_run rfl rfl (Wops_run rfl rfl (Wops_as (w := .int .i64 ((n + 3 : Nat) : Int)) rfl rfl (by rw [w64 (by omega)]; rfl) (Wops_mkSlE (k := n + 3) rfl rfl ⟨by omega, by omega, by omega⟩ fun h1 n1 x1 g1 => ?_))))
  refine Wops_run rfl rfl (K_fin [(0, _), (3, _)] rfl (?_))
  have s1 := s.ext x1
  refine K_reg (Wops_run rfl rfl (Wops_run rfl rfl (Wops_copy (m := n) (new := bys xs) rfl rfl rfl (by omega) s1.first g1 (by rw [zeros_length]; simp; omega) (bys_cell _) (fun q => by rw [List.map_eq_nil_iff]; exact List.eq_nil_of_length_eq_zero (by omega)) fun h2 n2 x2 g2 => ?_)))
  refine K_fin [(0, _), (3, _)] rfl (?_)
  have e2 : putL (zeros [Value.int .u8 0] (n + 3)) 0 (bys xs) = bys (xs ++ spare 0) := by
    have hz : zeros [Value.int .u8 0] (n + 3) = bys (List.replicate (n + 3) 0) := by rw [zeros_ints]; simp [bys, ints]
    rw [hz]
    apply List.ext_getElem?
    intro j
    rw [putL_get _ _ _ _ (by simp; omega)]
    by_cases hj : 0 ≤ j ∧ j < 0 + (bys xs).length
    · rw [if_pos hj, bys_app, List.getElem?_append_left (by simpa using hj.2)]; rfl
    · have hj2 : xs.length ≤ j := by simp at hj; omega
      rw [if_neg hj, bys_app, List.getElem?_append_right (by simpa using hj2)]
      simp only [spare, bys, List.replicate_zero, List.nil_append, Nat.sub_zero, List.map_replicate, List.getElem?_replicate, List.length_map]
      by_cases q : j < n + 3
      · rw [if_pos q, if_pos (by omega)]
      · rw [if_neg q, if_neg (by omega)]
  rw [e2] at g2
  have x02 : Ext0 h h2 := x1.then x2 fun i r => .inr (by omega)
  refine K_ss (K_reg (Wops_run rfl rfl (Wops_run rfl rfl (Wops_run rfl rfl (K_fin [(0, _), (3, _), (4, _)] rfl (?_))))))
  refine K_sblock ?_
  refine K_loop (fun k e h' => ∃ i : Nat, e = [(0, .slice a n c), (3, .slice (some ⟨h.next, 0, none⟩) (n + 3) ((n + 3) * 1 + 2)), (4, .int .i64 ((n + i : Nat) : Int))] ∧ i ≤ 3 ∧ k = 3 - i ∧ Ext0 h h' ∧ At h' h.next (.cells (bys (xs ++ spare i)) 1 false)) ?_ (k := 3) ⟨0, rfl, by omega, rfl, x02, g2⟩
  rintro k e h3 ⟨i, rfl, hi, rfl, x3, g3⟩
  refine K_ss (K_reg (Wops_run rfl rfl (Wops_run rfl rfl (Wops_run rfl rfl (Wops_run rfl rfl (K_fin [(0, _), (3, _), (4, _), (17, _)] rfl (?_)))))))
  refine K_scond rfl (fun hc => ?_) (fun hc => ?_)
  · have hil : i < 3 := by have := of_decide_eq_true hc; omega
    have hset : (bys (xs ++ spare i)).set (n + i) (.int .u8 229) = bys (xs ++ spare (i + 1)) := by
      rw [bys_app, ← hn, show xs.length = (bys xs).length by simp, set_app, bys_app]
      congr 1
      obtain rfl | rfl | rfl : i = 0 ∨ i = 1 ∨ i = 2 := by omega
      all_goals rfl
    refine K_sskip (K_sblock ?_)
    refine K_last (Wops_run rfl rfl (Wops_run rfl rfl (Wops_iaV rfl rfl ⟨by omega, by omega⟩ (Wops_st (l := [.int .u8 229]) rfl rfl rfl rfl g3 (by simp [spare]; omega) rfl fun h4 n4 x4 g4 => ?_))))
    refine K_finL [(0, _), (3, _), (4, _)] rfl (?_)
    refine K_last (Wops_run rfl rfl (Wops_run rfl rfl (Wops_run rfl rfl (K_finL [(0, _), (3, _), (4, _)] rfl (?_)))))
    refine ⟨3 - (i + 1), by omega, i + 1, ?_, by omega, rfl, x3.then x4 fun i r => .inr (by omega), ?_⟩
    · rw [w64s (by omega)]; rfl
    · have : h4.get h.next = some (.cells ((bys (xs ++ spare i)).set (0 + ((n + i : Nat) : Int).toNat * 1) (.int .u8 229)) 1 false) := g4
      rw [Int.toNat_natCast, Nat.zero_add, Nat.mul_one, hset] at this
      exact this
  · have hil : i = 3 := by have := of_decide_eq_false hc; omega
    subst hil
    refine K_sexit (bx_same ?_)
    refine K_reg (Wops_run rfl rfl (Wops_run rfl rfl (Wops_run rfl rfl (Wops_slVh rfl rfl g3 (by omega) (by decide) (by simp [spare]; omega) (by simp [spare]; omega) ?_))))
    refine Wops_run rfl rfl (K_fin [(2, _)] rfl (?_))
    refine K_ret ?_
    exact Told.mk _ rfl ⟨h.next, rfl, x3, Nat.le_refl _, g3⟩
/-- Kept -/
theorem C17 {h : Heap} {id n a2c : Nat} {a2 : Option Addr} {xs : List Nat} (g : At h id (.cells (bys (xs ++ [229, 229, 229])) 1 false)) (s2 : SlA h 1 a2 n a2c (bys xs)) (hb : n ≤ 300) : Fn Try.prog 17 [.slice (some ⟨id, 0, none⟩) n ((n + 3) * 1 + 2), .slice a2 n a2c] h fun v h' => v = .bool true ∧ h = h' := by
  have hn : xs.length = n := by simpa using s2.len
  have s1 : SlA h 1 (some ⟨id, 0, none⟩) n ((n + 3) * 1 + 2) (ints .u8 (zs xs)) := by
    have := SlA.mk' (c := (n + 3) * 1 + 2) (n := n) (off := 0) (sz := 1) g (by simp; omega) (.inr (.inr rfl))
    rw [List.drop_zero, Nat.mul_one n, bys_app, List.take_append_of_le_length (by simp; omega), List.take_of_length_le (by simp; omega), bys_ints] at this
    exact this
  have s3 := s2
  rw [bys_ints] at s3
  refine fnK F17.fok rfl ?_
  refine K_reg (Wops_run rfl rfl (K_fin [(0, _), (1, _)] rfl (?_)))
  refine K_reg (Wops_run rfl rfl (Wops_run rfl rfl (Wops_cap rfl (by omega) g (by decide) ?_)))
  have hcap : ((n + 3) * 1 + 2 - 2 - 0) / 1 = n + 3 := by omega
  rw [hcap]
  refine Wops_slVh rfl rfl g (by omega) (by decide) (by simp; omega) (by simp; omega) ?_
  refine Wops_run rfl rfl (K_fin [(0, _), (1, _), (5, _)] rfl (?_))
  refine K_ss (K_reg (Wops_run rfl rfl (Wops_toStr rfl s1 (Wops_run rfl rfl (Wops_toStr rfl s3 (Wops_as (w := .bool false) rfl rfl (by simp) (Wops_run rfl rfl (Wops_go rfl ?_))))))))
  refine Wops_run rfl rfl (Wops_go rfl (Wops_run rfl rfl (Wops_go rfl (Wops_run rfl rfl (Wops_go rfl (Wops_run rfl rfl (Wops_go rfl ?_)))))))
  refine Wops_as (w := .int .i64 ((n + 3 : Nat) : Int)) rfl rfl (by rw [w64 (by omega)]; rfl) (Wops_go rfl (Wops_as (w := .bool false) rfl rfl (by simp) (Wops_run rfl rfl (K_fin [(1, _), (5, _), (23, _)] rfl (?_)))))
  refine K_scond rfl (fun hc => by cases hc) (fun _ => ?_)
  refine K_sskip (K_ss (K_reg (Wops_run rfl rfl (Wops_run rfl rfl (Wops_run rfl rfl (K_fin [(1, _), (5, _), (6, _)] rfl (?_)))))))
  refine K_sblock ?_
  refine K_loop (fun k e h' => ∃ i : Nat, e = [(1, .slice a2 n a2c), (5, .slice (some ⟨id, 0, none⟩) (n + 3) ((n + 3) * 1 + 2)), (6, .int .i64 ((n + i : Nat) : Int))] ∧ i ≤ 3 ∧ k = 3 - i ∧ h = h') ?_ (k := 3) ⟨0, rfl, by omega, rfl, rfl⟩
  rintro k e h' ⟨i, rfl, hi, rfl, rfl⟩
  refine K_ss (K_reg (Wops_run rfl rfl (Wops_run rfl rfl (Wops_run rfl rfl (Wops_as (w := .int .i64 ((n + 3 : Nat) : Int)) rfl rfl (by rw [w64 (by omega)]; rfl) (Wops_run rfl rfl (K_fin [(1, _), (5, _), (6, _), (30, _)] rfl (?_))))))))
  refine K_scond rfl (fun hc => ?_) (fun hc => ?_)
  · have hil : i < 3 := by have := of_decide_eq_true hc; omega
    have hget : (bys (xs ++ [229, 229, 229]))[0 + ((n + i : Nat) : Int).toNat * 1]? = some (.int .u8 229) := by
      rw [Int.toNat_natCast, Nat.zero_add, Nat.mul_one, bys_app, List.getElem?_append_right (by simp; omega)]
      simp only [List.length_map, hn]
      obtain rfl | rfl | rfl : i = 0 ∨ i = 1 ∨ i = 2 := by omega
      all_goals simp [bys]
    refine K_sskip (K_sblock ?_)
    refine K_reg (Wops_run rfl rfl (Wops_run rfl rfl (Wops_iaV rfl rfl ⟨by omega, by omega⟩ (Wops_ld (v := .int .u8 229) rfl g hget ?_))))
    refine Wops_run rfl rfl (K_fin [(1, _), (5, _), (6, _), (37, _)] rfl (?_))
    refine K_cond rfl (fun hc => by cases hc) (fun _ => K_skip ?_)
    refine K_last (Wops_run rfl rfl (Wops_run rfl rfl (Wops_run rfl rfl (K_finL [(1, _), (5, _), (6, _)] rfl (?_)))))
    refine ⟨3 - (i + 1), by omega, i + 1, ?_, by omega, rfl, rfl⟩
    rw [w64s (by omega)]; rfl
  · refine K_sexit (bx_same ?_)
    refine K_reg (Wops_run rfl rfl (K_fin [(4, _)] rfl (?_)))
    exact K_ret (Told.mk _ rfl ⟨rfl, rfl⟩)

set_option maxHeartbeats 4000000 in
/-- ReqAll -/
theorem C3 {h : Heap} {kd kd' : Int} {r q : Rq} {ba aa bb ab xb : Option Addr} {bn bc an ac bm bd am ad xn xc : Nat} {xs : List Nat} (I : Inn h kd r ba bn bc aa an ac) (J : Inn h kd' q bb bm bd ab am ad) (sx : SlA h 1 xb xn xc (bys xs)) (hxb : ∀ x ∈ xs, x < 256) (hxl : ∀ i, Blk xb i → i < h.next) :
    Fn Try.prog 3 [.agg ⟨RqI kd r ba bn bc aa an ac⟩, .agg ⟨RqI kd' q bb bm bd ab am ad⟩, .slice xb xn xc] h fun v _ => v = .bool true := by
  have hxn : xs.length = xn := by simpa using sx.len
  refine fnK F3.fok rfl ?_
  refine K_reg (Wops_box (cs := RqI kd r ba bn bc aa an ac) rfl rfl fun h1 n1 x1 g1' => Wops_box (cs := RqI kd' q bb bm bd ab am ad) rfl rfl fun h2 n2 x2 g2 => Wops_run rfl rfl (K_fin [(2, _), (3, _), (4, _)] rfl (?_)))
  have g1 : At h2 h.next (.cells (RqI kd r ba bn bc aa an ac) 0 false) := At.ext g1' x2
  have x02 := x1.trans x2
  have I2 := I.ext x02
  have J2 := J.ext x02
  have sx2 := sx.ext x02
  have z02 := x02.next
  refine K_ss (K_reg (Wops_call rfl C12 ?_))
  rintro _ _ ⟨rfl, rfl⟩
  refine Wops_run rfl rfl (K_fin [(2, _), (3, _), (4, _), (13, _)] rfl (?_))
  refine K_scond rfl (fun hc => by cases hc) (fun _ => ?_)
  refine K_sskip (K_ss (K_reg (Wops_run rfl rfl (Wops_run rfl rfl (Wops_run rfl rfl (K_fin [(2, _), (3, _), (4, _), (16, _)] rfl (?_)))))))
  refine K_scond rfl (fun hc => ?_) (fun hc => ?_)
  · refine K_ss (K_reg (Wops_run rfl rfl (K_fin [(6, _)] rfl (?_))))
    exact K_sret (Told.mk _ rfl rfl)
  have hb : xn ≤ 300 := by have := of_decide_eq_false hc; omega
  have TQ := takeQ_fit hxb (by omega)
  refine K_sskip (K_reg (Wops_run rfl rfl (Wops_call rfl (C13 sx2 hb) ?_)))
  rintro _ h3 ⟨id, rfl, x3, hid, g3⟩
  refine Wops_run rfl rfl (K_fin [(2, _), (3, _), (4, _), (7, _)] rfl (?_))
  have st : SlA h3 1 (some ⟨id, 0, none⟩) xn ((xn + 3) * 1 + 2) (bys xs) := by
    have := SlA.mk' (c := (xn + 3) * 1 + 2) (n := xn) (off := 0) (sz := 1) g3 (by simp; omega) (.inr (.inr rfl))
    rw [List.drop_zero, Nat.mul_one xn, bys_app, List.take_append_of_le_length (by simp; omega), List.take_of_length_le (by simp; omega)] at this
    exact this
  refine K_reg (Wops_run rfl rfl (Wops_call rfl (C14 st (by omega) hxb (fun i w => by rw [Blk.at] at w; subst w; exact g3.lt)) ?_))
  rintro _ h4 ⟨x4, b1, c1, a1, d1, rfl, ob1, oa1, -, -⟩
  refine Wops_run rfl rfl (Wops_run rfl rfl (Wops_run rfl rfl (Wops_new fun h5 n5 x5 g5 => Wops_st (l := RqV (takeQ xs).1 b1 (takeQ xs).1.body.length c1 a1 (takeQ xs).1.args.length d1) rfl rfl rfl rfl g5 (by simp) rfl fun h6 n6 x6 g6 => ?_)))
  refine Wops_run rfl rfl (K_fin [(2, _), (3, _), (4, _), (7, _), (8, _), (9, _)] rfl (?_))
  replace g6 : At h6 h4.next (.cells (RqV (takeQ xs).1 b1 (takeQ xs).1.body.length c1 a1 (takeQ xs).1.args.length d1) 0 false) := g6
  have x46 : Ext0 h4 h6 := x5.then x6 fun i r => .inr (by omega)
  have x26 := (x3.trans x4).trans x46
  refine K_reg (Wops_run rfl rfl (Wops_call rfl (C15 (sx2.ext x26) (by omega) hxb (fun i w => by have := hxl i w; have := x26.next; omega)) ?_))
  rintro _ h7 ⟨x7, b2, c2, a2, d2, rfl, ob2, oa2, -, -⟩
  refine Wops_run rfl rfl (Wops_run rfl rfl (Wops_run rfl rfl (Wops_new fun h8 n8 x8 g8 => Wops_st (l := RqV (takeQ xs).1 b2 (takeQ xs).1.body.length c2 a2 (takeQ xs).1.args.length d2) rfl rfl rfl rfl g8 (by simp) rfl fun h9 n9 x9 g9 => ?_)))
  refine Wops_run rfl rfl (K_fin [(2, _), (3, _), (4, _), (7, _), (8, _), (9, _), (10, _), (11, _)] rfl (?_))
  replace g9 : At h9 h7.next (.cells (RqV (takeQ xs).1 b2 (takeQ xs).1.body.length c2 a2 (takeQ xs).1.args.length d2) 0 false) := g9
  have x79 : Ext0 h7 h9 := x8.then x9 fun i r => .inr (by omega)
  have x69 := x7.trans x79
  have x29 := x26.trans x69
  have gx : At h9 h4.next (.cells (RqV (takeQ xs).1 b1 (takeQ xs).1.body.length c1 a1 (takeQ xs).1.args.length d1) 0 false) := g6.ext x69
  have gr := g1.ext x29
  have gq := At.ext g2 x29
  have gt : At h9 id (.cells (bys (xs ++ [229, 229, 229])) 1 false) := g3.ext ((x4.trans x46).trans x69)
  have I9 := I2.ext x29
  have J9 := J2.ext x29
  have sx9 := sx2.ext x29
  have s1 := (ob1.sl.ext x46).ext x69
  have s2 := (oa1.sl.ext x46).ext x69
  have s3 := ob2.sl.ext x79
  have s4 := oa2.sl.ext x79
  clear g1' g1 g2 g3 g5 g6 g8 I J I2 J2 sx sx2 st ob1 oa1 ob2 oa2
  have S16 : ∀ {h' : Heap}, Ext0 h9 h' → Fn Try.prog 16 [.agg ⟨RqV (takeQ xs).1 b1 (takeQ xs).1.body.length c1 a1 (takeQ xs).1.args.length d1⟩, .agg ⟨RqV (takeQ xs).1 b2 (takeQ xs).1.body.length c2 a2 (takeQ xs).1.args.length d2⟩] h' fun v h'' => v = .bool true ∧ Ext0 h' h'' := fun x =>
    (C16 (s1.ext x) (s2.ext x) (s3.ext x) (s4.ext x) TQ.1 TQ.1 TQ.2.1 TQ.2.1 (by omega)).mono fun v h'' ⟨p, w⟩ => ⟨by rw [p, decide_eq_true rfl], w⟩
  refine K_ss (K_join (fun e h' => ∃ b, e = [(2, .slice xb xn xc), (3, ptr h.next), (4, ptr h1.next), (7, .slice (some ⟨id, 0, none⟩) xn ((xn + 3) * 1 + 2)), (8, ptr h4.next), (9, .int .i64 (takeQ xs).2), (10, ptr h7.next), (11, .int .i64 (takeQ xs).2), (53, .bool b)] ∧ Ext0 h9 h' ∧ (b = false → may kd r bn an ∧ may kd' q bm am)) ?_ ?_)
  · refine K_last (Wops_run rfl rfl (Wops_run rfl rfl (Wops_neq (v := false) rfl rfl (by simp) (Wops_run rfl rfl (Wops_go rfl (Wops_ldA (l := RqV (takeQ xs).1 b1 (takeQ xs).1.body.length c1 a1 (takeQ xs).1.args.length d1) rfl gx (by simp [RqV]) rfl (Wops_go rfl (Wops_ldA (l := RqV (takeQ xs).1 b2 (takeQ xs).1.body.length c2 a2 (takeQ xs).1.args.length d2) rfl g9 (by simp [RqV]) rfl (Wops_go rfl (Wops_call rfl (S16 (Ext.refl _ _)) ?_))))))))))
    rintro _ h10 ⟨rfl, x10⟩
    refine Wops_go rfl (Wops_run rfl rfl (Wops_run rfl rfl (Wops_run rfl rfl (Wops_go rfl (Wops_run rfl rfl (Wops_go rfl (Wops_run rfl rfl (Wops_go rfl (Wops_call rfl (C17 (gt.ext x10) (sx9.ext x10) hb) ?_)))))))))
    rintro _ _ ⟨rfl, rfl⟩
    refine Wops_go rfl (Wops_run rfl rfl (Wops_run rfl rfl (Wops_run rfl rfl (Wops_go rfl (Wops_ldA (l := RqI kd r ba bn bc aa an ac) rfl (gr.ext x10) (by simp [RqI]) rfl (Wops_go rfl (Wops_call rfl C18 ?_)))))))
    rintro _ h11 ⟨rfl, x11⟩
    by_cases m1 : may kd r bn an
    case neg =>
      rw [decide_eq_false m1]
      refine Wops_go rfl (Wops_run rfl rfl (Wops_run rfl rfl (Wops_run rfl rfl ?_)))
      (repeat (first | refine Wops_skip rfl ?_ | refine Wops_run rfl rfl ?_))
      exact K_finL [(2, _), (3, _), (4, _), (7, _), (8, _), (9, _), (10, _), (11, _), (53, _)] rfl ⟨_, rfl, x10.trans x11, fun e => by cases e⟩
    rw [decide_eq_true m1]
    refine Wops_go rfl (Wops_run rfl rfl (Wops_run rfl rfl (Wops_run rfl rfl (Wops_go rfl (Wops_ldA (l := RqI kd' q bb bm bd ab am ad) rfl ((gq.ext x10).ext x11) (by simp [RqI]) rfl (Wops_go rfl (Wops_call rfl C18 ?_)))))))
    rintro _ h12 ⟨rfl, x12⟩
    by_cases m2 : may kd' q bm am
    case neg =>
      rw [decide_eq_false m2]
      refine Wops_go rfl (Wops_run rfl rfl (Wops_run rfl rfl ?_))
      exact K_finL [(2, _), (3, _), (4, _), (7, _), (8, _), (9, _), (10, _), (11, _), (53, _)] rfl ⟨_, rfl, (x10.trans x11).trans x12, fun e => by cases e⟩
    rw [decide_eq_true m2]
    refine Wops_go rfl (Wops_run rfl rfl (Wops_run rfl rfl ?_))
    exact K_finL [(2, _), (3, _), (4, _), (7, _), (8, _), (9, _), (10, _), (11, _), (53, _)] rfl ⟨_, rfl, (x10.trans x11).trans x12, fun e => ⟨m1, m2⟩⟩
  rintro _ h10 ⟨b, rfl, x10, hbf⟩
  have gx := gx.ext x10
  have g9 := g9.ext x10
  refine K_scond rfl (fun hc => ?_) (fun hc => ?_)
  · refine K_ss (K_reg (Wops_run rfl rfl (Wops_run rfl rfl (Wops_eq (v := true) rfl rfl (by simp) (Wops_run rfl rfl (Wops_go rfl (Wops_ldA (l := RqV (takeQ xs).1 b1 (takeQ xs).1.body.length c1 a1 (takeQ xs).1.args.length d1) rfl gx (by simp [RqV]) rfl (Wops_go rfl (Wops_ldA (l := RqV (takeQ xs).1 b2 (takeQ xs).1.body.length c2 a2 (takeQ xs).1.args.length d2) rfl g9 (by simp [RqV]) rfl (Wops_go rfl (Wops_call rfl (S16 x10) ?_)))))))))))
    rintro _ h11 ⟨rfl, x11⟩
    refine Wops_run rfl rfl (Wops_run rfl rfl (Wops_go rfl (Wops_run rfl rfl (Wops_go rfl (Wops_run rfl rfl (Wops_go rfl (Wops_call rfl (C17 ((gt.ext x10).ext x11) ((sx9.ext x10).ext x11) hb) ?_)))))))
    rintro _ _ ⟨rfl, rfl⟩
    refine Wops_run rfl rfl (Wops_run rfl rfl (K_fin [(6, _)] rfl (?_)))
    exact K_sret (Told.mk _ rfl rfl)
  obtain ⟨m1, m2⟩ := hbf hc
  have I10 := I9.ext x10
  have J10 := J9.ext x10
  obtain ⟨kr, er⟩ := I10.fits m1
  obtain ⟨kq, eq⟩ := J10.fits m2
  have gr : At h10 h.next (.cells (RqV r ba bn bc aa an ac) 0 false) := by rw [← er]; exact gr.ext x10
  have gq : At h10 h1.next (.cells (RqV q bb bm bd ab am ad) 0 false) := by rw [← eq]; exact gq.ext x10
  have hbn : r.body.length = bn := by simpa using I10.s1.len
  have han : r.args.length = an := by simpa using I10.s2.len
  have ha12 := kr.a
  refine K_sskip (K_reg (Wops_ldA (l := RqV r ba bn bc aa an ac) rfl gr (by simp [RqV]) rfl (Wops_ldA (l := RqV r ba bn bc aa an ac) rfl gr (by simp [RqV]) rfl (Wops_call rfl (C19 kr I10.s1 I10.s2) ?_))))
  rintro _ h11 ⟨p1, q1, rfl, o11, x11, -⟩
  have hpos : 0 < (encQ r).length := by unfold encQ; simp
  have o11s := o11.sl
  rw [bys_ints] at o11s
  refine Wops_chkA (l := RqV r ba bn bc aa an ac) rfl rfl (gr.ext x11) (by simp [RqV]) rfl (sameCells_RqV I10.s1 I10.s2) ?_
  refine Wops_toStr rfl o11s ?_
  refine Wops_call rfl (C20 kr (I10.s1.ext x11) (I10.s2.ext x11)) ?_
  rintro _ h12 ⟨p2, q2, rfl, o12, x12, -⟩
  have o12s := o12.sl
  rw [bys_ints] at o12s
  refine Wops_chkS rfl (o11s.ext x12) hpos rfl ?_
  refine Wops_toStr rfl o12s (Wops_as (w := .bool true) rfl rfl (by simp) (Wops_run rfl rfl (Wops_go rfl ?_)))
  have x1012 := x11.trans x12
  have gr := gr.ext x1012
  have gq := gq.ext x1012
  have t1 := I10.s1.ext x1012
  have t2 := I10.s2.ext x1012
  have t3 := J10.s1.ext x1012
  have t4 := J10.s2.ext x1012
  refine Wops_ldA (l := RqV r ba bn bc aa an ac) rfl gr (by simp [RqV]) rfl (Wops_go rfl (Wops_ldA (l := RqV q bb bm bd ab am ad) rfl gq (by simp [RqV]) rfl (Wops_go rfl ?_)))
  refine Wops_ldA (l := RqV r ba bn bc aa an ac) rfl gr (by simp [RqV]) rfl (Wops_go rfl (Wops_ldA (l := RqV q bb bm bd ab am ad) rfl gq (by simp [RqV]) rfl (Wops_go rfl ?_)))
  refine Wops_call rfl (C21 t1 t2 t3 t4 kr.nb kq.nb kr.bb kq.bb (by omega)) ?_
  rintro _ h13 ⟨rfl, x13⟩
  refine Wops_go rfl (Wops_chkA (l := RqV r ba bn bc aa an ac) rfl rfl (gr.ext x13) (by simp [RqV]) rfl (sameCells_RqV t1 t2) (Wops_go rfl (Wops_chkA (l := RqV q bb bm bd ab am ad) rfl rfl (gq.ext x13) (by simp [RqV]) rfl (sameCells_RqV t3 t4) (Wops_go rfl ?_))))
  refine Wops_call rfl (C16 (t1.ext x13) (t2.ext x13) (t3.ext x13) (t4.ext x13) kr.nb kq.nb kr.bb kq.bb (by omega)) ?_
  rintro _ h14 ⟨rfl, x14⟩
  refine Wops_go rfl (Wops_as (w := .bool true) rfl rfl (by simp) (Wops_run rfl rfl (Wops_run rfl rfl (K_fin [(6, _)] rfl (?_)))))
  exact K_ret (Told.mk _ rfl rfl)

set_option maxRecDepth 100000 in
theorem reqAll_fn {b : Base} {N : Nat} {vs : List Value} (h0 : 0 < N) (hd : ∀ id l, b id = some l → id < N) (hb : b 0 = none) (hG : ArgsG Try.prog b 4 [26, 26, 23] vs) : Fn Try.prog 3 vs (heapIn b N) fun v _ => v = .bool true := by
  obtain ⟨v, r, rfl, g, hr⟩ := ArgsG_cons hG
  obtain ⟨v2, r2, rfl, g2, hr2⟩ := ArgsG_cons hr
  obtain ⟨v3, r3, rfl, g3, hr3⟩ := ArgsG_cons hr2
  obtain rfl := ArgsG_nil hr3
  obtain ⟨kd, r, ba, bn, bc, aa, an, ac, rfl, I, _⟩ := open_req h0 hd hb g
  obtain ⟨kd', q, ba', bn', bc', aa', an', ac', rfl, J, _⟩ := open_req h0 hd hb g2
  obtain ⟨xb, xn, xc, xs, hv3, sx, hxn, hxs⟩ := GV_ints h0 hd hb Try.underlying23 Try.underlying5 cells5 (GA_slice Try.underlying23 g3)
  obtain rfl : v3 = .slice xb xn xc := by simpa using hv3
  have s1 := sx.sl
  rw [ints_nat fun x hx => (wf_u8 (hxs x hx)).1] at s1
  have hbb : ∀ v ∈ xs.map Int.toNat, v < 256 := by
    intro v hv
    obtain ⟨x, hx, rfl⟩ := List.mem_map.1 hv
    have := wf_u8 (hxs x hx); omega
  exact C3 I J s1 hbb sx.lt

end
end Go.Dx.SYtkppbmhpcjjceaa
