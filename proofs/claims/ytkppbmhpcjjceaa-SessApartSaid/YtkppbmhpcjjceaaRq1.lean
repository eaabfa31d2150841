/- Contracts of leb, and of what puts requests and replies. -/
import Derived.Test.YtkppbmhpcjjceaaRq0
namespace Go.Dx.SYtkppbmhpcjjceaa
open Go.Proofs
set_option linter.unusedVariables false
set_option linter.unusedSimpArgs false

abbrev ptr (p : Nat) : Value := .pointer (some ⟨p, 0, none⟩)
abbrev bys (xs : List Nat) : List Value := xs.map fun (x : Nat) => Value.int .u8 (x : Int)
abbrev u64s (xs : List Nat) : List Value := xs.map fun (x : Nat) => Value.int .u64 (x : Int)
theorem bys_cell (xs : List Nat) : (bys xs).all isCell = true := by simp [bys, isCell]
theorem u64s_cell (xs : List Nat) : (u64s xs).all isCell = true := by simp [u64s, isCell]
theorem bys_app (xs ys : List Nat) : bys (xs ++ ys) = bys xs ++ bys ys := by simp [bys]

theorem fdivN (a b : Nat) : ((a : Int)).fdiv ((b : Nat) : Int) = ((a / b : Nat) : Int) := by
  rw [Int.fdiv_eq_ediv_of_nonneg _ (by omega)]; rfl
theorem wr8m (x : Nat) : IntKind.wrap .u8 (x : Int) = ((x % 256 : Nat) : Int) := by simp [IntKind.wrap, IntKind.signed, IntKind.bits]
theorem wr64m (x : Nat) : IntKind.wrap .u64 (x : Int) = ((x % 18446744073709551616 : Nat) : Int) := by simp [IntKind.wrap, IntKind.signed, IntKind.bits]
theorem wr32m (x : Nat) : IntKind.wrap .u32 (x : Int) = ((x % 4294967296 : Nat) : Int) := by simp [IntKind.wrap, IntKind.signed, IntKind.bits]
theorem or128 : ∀ x : Fin 256, (BitVec.ofInt 8 ((x.val : Nat) : Int) ||| BitVec.ofInt 8 128).toNat = x.val % 128 + 128 := by decide +kernel
theorem and127 : ∀ x : Fin 256, (BitVec.ofInt 8 ((x.val : Nat) : Int) &&& BitVec.ofInt 8 127).toNat = x.val % 128 := by decide +kernel
theorem and128 : ∀ x : Fin 256, ((BitVec.ofInt 8 ((x.val : Nat) : Int) &&& BitVec.ofInt 8 128).toNat = 0) = (x.val < 128) := by decide +kernel

/-- slices.Clone of bytes -/
theorem C72 {h : Heap} {a : Option Addr} {n c : Nat} {xs : List Nat} (s : SlA h 1 a n c (bys xs)) (hb : n ≤ 1000000) :
    Fn Try.prog 72 [.slice a n c] h fun v h' => ∃ a' c', v = .slice a' n c' ∧ OwS h' 1 a' n c' (bys xs) ∧ Ext0 h h' ∧ ∀ i, Blk a' i → h.next ≤ i := by
  refine fnK F72.fok rfl ?_
  refine K_reg (Wops_run rfl rfl (K_fin [(0, _)] rfl (?_)))
  cases a with
  | none =>
    obtain ⟨rfl, rfl⟩ := s.nil rfl
    have hx : bys xs = [] := by have := s.len; exact List.eq_nil_of_length_eq_zero (by simpa using this)
    refine K_ss (K_reg (Wops_run rfl rfl (Wops_run rfl rfl (K_fin [(0, _), (4, _)] rfl (?_)))))
    refine K_scond rfl (fun hc => ?_) (fun hc => by cases hc)
    refine K_ss (K_reg (Wops_run rfl rfl (K_fin [(2, _)] rfl (?_))))
    exact K_sret (Told.mk _ rfl ⟨none, 0, rfl, by rw [hx]; exact OwS.none, Ext.refl _ _, fun i q => absurd q Blk.none⟩)
  | some pa =>
    refine K_ss (K_reg (Wops_run rfl rfl (Wops_run rfl rfl (K_fin [(0, _), (4, _)] rfl (?_)))))
    refine K_scond rfl (fun hc => by cases hc) (fun hc => ?_)
    refine K_sskip (K_reg (Wops_bslice (l := []) rfl rfl fun h1 n1 x1 g1 => ?_))
    refine Wops_run rfl rfl (Wops_app rfl rfl (OwS.new (n := 0) g1 rfl) rfl (s.ext x1).first ⟨by omega, by omega⟩ s.len (bys_cell _) (by decide) fun h2 a2 c2 x2 o2 b2 => ?_)
    refine Wops_run rfl rfl (K_fin [(2, _)] rfl (?_))
    refine K_ret (Told.mk _ rfl ⟨a2, c2, by simp; rfl, by simpa using o2, x1.then x2 fun i q => .inr (by rw [Blk.at] at q; omega), fun i q => ?_⟩)
    rcases b2 i q with q | q
    · rw [Blk.at] at q; omega
    · omega

/-- leb.put -/
theorem C95 {h : Heap} {a b : Option Addr} {n c m d : Nat} {xs ys : List Nat} (s : SlA h 1 a n c (bys xs)) (s2 : SlA h 1 b m d (bys ys)) (hb : n ≤ 100000 ∧ m ≤ 100000) :
    Fn Try.prog 95 [.slice a n c, .slice b m d] h fun v h' => ∃ a' c', v = .slice a' (n + m) c' ∧ OwS h' 1 a' (n + m) c' (bys (xs ++ ys)) ∧ Ext0 h h' ∧ ∀ i, Blk a' i → h.next ≤ i := by
  refine fnK F95.fok rfl ?_
  refine K_reg (Wops_run rfl rfl (K_fin [(0, _), (1, _)] rfl (?_)))
  refine K_reg (Wops_run rfl rfl (Wops_call rfl (C72 s (by omega)) ?_))
  rintro _ h1 ⟨a1, c1, rfl, o1, x1, b1⟩
  refine Wops_run rfl rfl (Wops_app rfl rfl o1 rfl (s2.ext x1).first ⟨by omega, by omega⟩ s2.len (bys_cell _) (by decide) fun h2 a2 c2 x2 o2 b2 => ?_)
  refine Wops_run rfl rfl (K_fin [(4, _)] rfl (?_))
  have z1 := x1.next
  refine K_ret (Told.mk _ rfl ⟨a2, c2, rfl, by rw [bys_app]; exact o2, x1.then x2 fun i q => .inr (b1 i q), fun i q => (b2 i q).elim (b1 i) fun q => by omega⟩)

/-- leb.PutU -/
theorem C86 {h : Heap} {a : Option Addr} {n c : Nat} {xs : List Nat} {v : Nat} (s : SlA h 1 a n c (bys xs)) (hb : n ≤ 10000) (hv : v < 18446744073709551616) :
    Fn Try.prog 86 [.slice a n c, .int .u64 (v : Int)] h fun r h' => ∃ a' c', r = .slice a' (n + (encU v).length) c' ∧ OwS h' 1 a' (n + (encU v).length) c' (bys (xs ++ encU v)) ∧ Ext0 h h' ∧ ∀ i, Blk a' i → h.next ≤ i := by
  have hlen : (encU v).length ≤ 10 := encU_len 10 v (by omega) (by decide)
  refine fnK F86.fok rfl ?_
  refine K_reg (Wops_run rfl rfl (K_fin [(0, _), (1, _)] rfl (?_)))
  refine K_reg (Wops_run rfl rfl (K_fin [(0, _), (1, _), (5, _)] rfl (?_)))
  refine K_sblock ?_
  refine K_loop (fun k e h' => ∃ (w : Nat) (pre : List Nat) (la : Option Addr) (lc : Nat), e = [(0, .slice a n c), (1, .int .u64 (w : Int)), (5, .slice la pre.length lc)] ∧ w = k ∧ w ≤ v ∧ encU v = pre ++ encU w ∧ OwS h' 1 la pre.length lc (bys pre) ∧ (∀ j, Blk la j → h.next ≤ j) ∧ Ext0 h h') ?_ (k := v) ⟨v, [], none, 0, rfl, rfl, Nat.le_refl _, rfl, OwS.none, fun j r => absurd r Blk.none, Ext.refl _ _⟩
  rintro k e h' ⟨w, pre, la, lc, rfl, rfl, hwv, he, o, bo, x'⟩
  have hpl : pre.length + (encU w).length ≤ 10 := by have := congrArg List.length he; rw [List.length_append] at this; omega
  have hwp := encU_pos w
  refine K_ss (K_reg (Wops_run rfl rfl ?_))
  by_cases hw : w < 128
  · refine Wops_as (w := .bool false) rfl rfl (by rw [decide_eq_false (by omega)]) (K_fin [(0, _), (1, _), (5, _), (7, _)] rfl (?_))
    refine K_scond rfl (fun hc => by cases hc) (fun _ => ?_)
    refine K_sexit (bx_same ?_)
    refine K_reg (Wops_run rfl rfl (Wops_run rfl rfl (Wops_run rfl rfl (Wops_as (w := .int .u8 (w : Int)) rfl rfl (by rw [wr8m, Nat.mod_eq_of_lt (by omega)]) ?_))))
    refine Wops_bslice (l := bys [w]) rfl rfl fun h1 n1 x1 g1 => ?_
    refine Wops_app rfl rfl (o.ext x1) rfl (OwS.new (n := 1) (c := 1) g1 rfl).sl.first ⟨by omega, by omega⟩ rfl rfl (by decide) fun h2 a2 c2 x2 o2 b2 => ?_
    have z' := x'.next
    have z1 := x1.next
    have x02 : Ext0 h h2 := (x'.trans x1).then x2 fun i r => .inr (bo i r)
    rw [← bys_app] at o2
    refine Wops_call rfl (C95 (s.ext x02) o2.sl (by omega)) ?_
    rintro _ h3 ⟨a3, c3, rfl, o3, x3, b3⟩
    refine Wops_run rfl rfl (K_fin [(4, _)] rfl (?_))
    have hl : (encU v).length = pre.length + 1 := by rw [he, encU_lt hw]; simp
    refine K_ret (Told.mk _ rfl ⟨a3, c3, by rw [hl]; rfl, ?_, x02.trans x3, fun i r => by have := b3 i r; have := x2.next; omega⟩)
    rw [hl, he, encU_lt hw]; exact o3
  · refine Wops_as (w := .bool true) rfl rfl (by rw [decide_eq_true (by omega)]) (K_fin [(0, _), (1, _), (5, _), (7, _)] rfl (?_))
    refine K_scond rfl (fun _ => ?_) (fun hc => by cases hc)
    refine K_sskip (K_block ?_)
    refine K_reg (Wops_run rfl rfl (Wops_run rfl rfl (Wops_as (w := .int .u8 ((w % 256 : Nat) : Int)) rfl rfl (by rw [wr8m]) (Wops_as (w := .int .u8 ((w % 128 + 128 : Nat) : Int)) rfl rfl ?_ ?_))))
    · have h1 := or128 ⟨w % 256, Nat.mod_lt _ (by decide)⟩
      show Value.int .u8 (IntKind.wrap .u8 (((BitVec.ofInt 8 ((w % 256 : Nat) : Int) ||| BitVec.ofInt 8 128).toNat : Nat) : Int)) = _
      rw [h1, wr8m]; congr 2; simp only; omega
    refine Wops_bslice (l := bys [w % 128 + 128]) rfl rfl fun h1 n1 x1 g1 => ?_
    refine Wops_app rfl rfl (o.ext x1) rfl (OwS.new (n := 1) (c := 1) g1 rfl).sl.first ⟨by omega, by omega⟩ rfl rfl (by decide) fun h2 a2 c2 x2 o2 b2 => ?_
    refine Wops_run rfl rfl (K_fin [(0, _), (1, _), (5, _)] rfl (?_))
    refine K_last (Wops_run rfl rfl (Wops_as (w := .int .u64 ((w / 128 : Nat) : Int)) rfl rfl (by show Value.int .u64 ((w : Int).fdiv _) = _; congr 1; exact fdivN w 128) (Wops_run rfl rfl (K_finL [(0, _), (1, _), (5, _)] rfl (?_)))))
    have z' := x'.next
    have z1 := x1.next
    refine ⟨w / 128, by omega, w / 128, pre ++ [w % 128 + 128], a2, c2, by simp, rfl, by omega, by rw [he, encU_ge hw]; simp, ?_, fun j r => (b2 j r).elim (bo j) fun r => by omega, (x'.trans x1).then x2 fun i r => .inr (bo i r)⟩
    rw [List.length_append, bys_app]; exact o2

/-- Numbers' bytes. -/
def encUs (vs : List Nat) : List Nat := vs.flatMap encU
theorem encUs_len {vs : List Nat} (h : ∀ v ∈ vs, v < 18446744073709551616) : (encUs vs).length ≤ 10 * vs.length := by
  induction vs with
  | nil => exact Nat.le_refl _
  | cons v vs ih =>
    show (encU v ++ encUs vs).length ≤ _
    have h1 := ih fun x hx => h x (by simp [hx])
    have h2 := encU_len 10 v (Nat.lt_of_lt_of_le (h v (by simp)) (by decide)) (by decide)
    rw [List.length_append, List.length_cons]; omega
/-- req.numbers -/
theorem C56 {h : Heap} {a b : Option Addr} {n c m d : Nat} {xs vs : List Nat} (s : OwS h 1 a n c (bys xs)) (s2 : SlA h 1 b m d (u64s vs)) (hb : n ≤ 1000 ∧ m ≤ 100) (hv : ∀ v ∈ vs, v < 18446744073709551616) :
    Fn Try.prog 56 [.slice a n c, .slice b m d] h fun r h' => ∃ a' c', r = .slice a' (n + (encUs vs).length) c' ∧ OwS h' 1 a' (n + (encUs vs).length) c' (bys (xs ++ encUs vs)) ∧ Ext0 h h' ∧ (∀ i, Blk a' i → Blk a i ∨ h.next ≤ i) := by
  have hm : vs.length = m := by simpa using s2.len
  refine fnK F56.fok rfl ?_
  refine K_reg (Wops_run rfl rfl (K_fin [(0, _), (1, _)] rfl (?_)))
  refine K_ss (K_reg (Wops_run rfl rfl (Wops_run rfl rfl (Wops_run rfl rfl (K_fin [(0, _), (7, _), (8, _), (9, _)] rfl (?_))))))
  refine K_sblock ?_
  refine K_loop (fun k e h' => ∃ (i : Nat) (a' : Option Addr) (c' : Nat), e = [(0, .slice a' (n + (encUs (vs.take i)).length) c'), (7, .slice b m d), (8, .int .i64 m), (9, .int .i64 i)] ∧ i ≤ m ∧ k = m - i ∧ OwS h' 1 a' (n + (encUs (vs.take i)).length) c' (bys (xs ++ encUs (vs.take i))) ∧ Ext0 h h' ∧ ∀ j, Blk a' j → Blk a j ∨ h.next ≤ j) ?_ (k := m)
    ⟨0, a, c, rfl, by omega, rfl, by simpa [encUs] using s, Ext.refl _ _, fun j r => .inl r⟩
  rintro k e h' ⟨i, a', c', rfl, hi, rfl, s', x', b'⟩
  have hlt10 : (encUs (vs.take i)).length ≤ 10 * i := by
    have := encUs_len (vs := vs.take i) fun v hx => hv v (List.mem_of_mem_take hx)
    rw [List.length_take] at this; omega
  refine K_reg (Wops_run rfl rfl (K_fin [(0, _), (7, _), (8, _), (9, _), (10, _)] rfl (?_)))
  refine K_scond rfl (fun hc => ?_) (fun hc => ?_)
  · have hlt : i < m := by have := of_decide_eq_true hc; omega
    refine K_sskip (K_sblock ?_)
    refine K_reg (Wops_idx (u := .int .u64 ((vs[i]'(by omega) : Nat) : Int)) rfl rfl (s2.ext x') ⟨by omega, by omega⟩ (by simp [u64s, hm, hlt]) fun _ => ?_)
    refine Wops_run rfl rfl (K_fin [(0, _), (6, _), (7, _), (8, _), (9, _)] rfl (?_))
    refine K_last (Wops_run rfl rfl (Wops_run rfl rfl (Wops_call rfl (C86 s'.sl (by omega) (hv _ (List.getElem_mem _))) ?_)))
    rintro _ h2 ⟨a2, c2, rfl, o2, x2, b2⟩
    refine Wops_run rfl rfl (K_finL [(0, _), (7, _), (8, _), (9, _)] rfl (?_))
    refine K_last (Wops_run rfl rfl (Wops_run rfl rfl (K_finL [(0, _), (7, _), (8, _), (9, _)] rfl (?_))))
    have hst : encUs (vs.take (i + 1)) = encUs (vs.take i) ++ encU (vs[i]'(by omega)) := by
      unfold encUs
      rw [List.take_add_one, List.getElem?_eq_getElem (show i < vs.length by omega), Option.toList_some, List.flatMap_append]
      simp
    have z' := x'.next
    refine ⟨m - (i + 1), by omega, i + 1, a2, c2, by rw [w64s (by omega), hst, List.length_append, Nat.add_assoc], by omega, rfl, ?_, x'.trans x2, fun j r => .inr (by have := b2 j r; omega)⟩
    have := o2
    rw [Nat.add_assoc, List.append_assoc] at this
    rw [hst, List.length_append]; exact this
  · have hin : i = m := by have := of_decide_eq_false hc; omega
    have hall : vs.take i = vs := List.take_of_length_le (by omega)
    rw [hall] at s' ⊢
    refine K_sexit (bx_same ?_)
    refine K_reg (Wops_run rfl rfl (Wops_run rfl rfl (K_fin [(4, _)] rfl (?_))))
    exact K_ret (Told.mk _ rfl ⟨a', c', rfl, s', x', b'⟩)

theorem shrN {k kk : IntKind} {v s : Nat} (hs : s ≤ k.bits) : binV .shr (.int k (v : Int)) (.int kk (s : Int)) = some (.int k ((v / 2 ^ s : Nat) : Int)) := by
  have e1 : min ((s : Int)).toNat k.bits = s := by rw [Int.toNat_natCast]; omega
  simp only [binV, e1]
  rw [if_neg (by omega)]
  have e2 : (2 : Int) ^ s = ((2 ^ s : Nat) : Int) := by simp
  rw [e2, fdivN]
theorem enc8_take {v j : Nat} (hj : j < 8) : (enc8 v).take (j + 1) = (enc8 v).take j ++ [v / 2 ^ (8 * (7 - j)) % 256] := by
  rw [List.take_add_one, List.getElem?_eq_getElem (show j < (enc8 v).length by rw [enc8_len]; exact hj)]
  simp [enc8]
/-- req.eight -/
theorem C54 {h : Heap} {a : Option Addr} {n c : Nat} {xs : List Nat} {v : Nat} (o : OwS h 1 a n c (bys xs)) (hb : n ≤ 1000) (hv : v < 18446744073709551616) :
    Fn Try.prog 54 [.slice a n c, .int .u64 (v : Int)] h fun r h' => ∃ a' c', r = .slice a' (n + 8) c' ∧ OwS h' 1 a' (n + 8) c' (bys (xs ++ enc8 v)) ∧ Ext (Blk a) h h' ∧ ∀ i, Blk a' i → Blk a i ∨ h.next ≤ i := by
  refine fnK F54.fok rfl ?_
  refine K_reg (Wops_run rfl rfl (K_fin [(0, _), (1, _)] rfl (?_)))
  refine K_ss (K_reg (Wops_run rfl rfl (K_fin [(0, _), (1, _), (5, _)] rfl (?_))))
  refine K_sblock ?_
  refine K_loop (fun k e h' => ∃ (j : Nat) (a' : Option Addr) (c' : Nat), e = [(0, .slice a' (n + j) c'), (1, .int .u64 (v : Int)), (5, .int .i64 (7 - (j : Int)))] ∧ j ≤ 8 ∧ k = 8 - j ∧ OwS h' 1 a' (n + j) c' (bys (xs ++ (enc8 v).take j)) ∧ Ext (Blk a) h h' ∧ ∀ i, Blk a' i → Blk a i ∨ h.next ≤ i) ?_ (k := 8) ⟨0, a, c, rfl, by omega, rfl, by simpa using o, Ext.refl _ _, fun i r => .inl r⟩
  rintro k e h' ⟨j, a', c', rfl, hj, rfl, o', x', b'⟩
  refine K_ss (K_reg (Wops_run rfl rfl ?_))
  by_cases hj8 : j < 8
  · refine Wops_as (w := .bool true) rfl rfl (by rw [decide_eq_true (by omega)]) (K_fin [(0, _), (1, _), (5, _), (7, _)] rfl (?_))
    refine K_scond rfl (fun _ => ?_) (fun hc => by cases hc)
    refine K_sskip (K_sblock ?_)
    refine K_last (Wops_run rfl rfl (Wops_run rfl rfl (Wops_run rfl rfl (Wops_as (w := .int .i64 ((8 * (7 - j) : Nat) : Int)) rfl rfl (by rw [w64 (by omega)]; congr 1; omega) (Wops_as (w := .int .u64 ((v / 2 ^ (8 * (7 - j)) : Nat) : Int)) rfl rfl ?_ (Wops_as (w := .int .u8 ((v / 2 ^ (8 * (7 - j)) % 256 : Nat) : Int)) rfl rfl (by rw [wr8m]) ?_))))))
    · show (binV .shr (.int .u64 (v : Int)) (.int .i64 ((8 * (7 - j) : Nat) : Int))).getD .nilFunc = _
      rw [shrN (by show _ ≤ 64; omega)]; rfl
    refine Wops_bslice (l := bys [v / 2 ^ (8 * (7 - j)) % 256]) rfl rfl fun h1 n1 x1 g1 => ?_
    refine Wops_app rfl rfl (o'.ext x1) rfl (OwS.new (n := 1) (c := 1) g1 rfl).sl.first ⟨by omega, by omega⟩ rfl rfl (by decide) fun h2 a2 c2 x2 o2 b2 => ?_
    refine Wops_run rfl rfl (K_finL [(0, _), (1, _), (5, _)] rfl (?_))
    refine K_last (Wops_run rfl rfl (Wops_as (w := .int .i64 (7 - ((j + 1 : Nat) : Int))) rfl rfl (by rw [w64 (by omega)]; congr 1; omega) (Wops_run rfl rfl (K_finL [(0, _), (1, _), (5, _)] rfl (?_)))))
    have z' := x'.next
    have z1 := x1.next
    refine ⟨8 - (j + 1), by omega, j + 1, a2, c2, rfl, by omega, rfl, ?_, (x'.then0 x1).then x2 fun i r => b' i r, fun i r => (b2 i r).elim (b' i) fun r => .inr (by omega)⟩
    rw [enc8_take hj8, ← List.append_assoc, bys_app]; exact o2
  · obtain rfl : j = 8 := by omega
    refine Wops_as (w := .bool false) rfl rfl rfl (K_fin [(0, _), (1, _), (5, _), (7, _)] rfl (?_))
    refine K_scond rfl (fun hc => by cases hc) (fun _ => ?_)
    refine K_sexit (bx_same ?_)
    refine K_reg (Wops_run rfl rfl (Wops_run rfl rfl (K_fin [(4, _)] rfl (?_))))
    exact K_ret (Told.mk _ rfl ⟨a', c', rfl, o', x', b'⟩)
end Go.Dx.SYtkppbmhpcjjceaa
