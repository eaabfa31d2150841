/- Contracts of req: name, Put, Equal, Same; may. -/
import Derived.Test.YtkppbmhpcjjceaaRq7
import Derived.Test.YtkppbmhpcjjceaaRq5
namespace Go.Dx.SYtkppbmhpcjjceaa
open Go.Proofs
set_option linter.unusedVariables false
set_option linter.unusedSimpArgs false

abbrev zs (xs : List Nat) : List Int := xs.map fun (x : Nat) => (x : Int)
def strOf (xs : List Nat) : ByteArray := ⟨⟨bytesOf (zs xs)⟩⟩
theorem bys_ints (xs : List Nat) : bys xs = ints .u8 (zs xs) := by simp [ints]
theorem strOf_size (xs : List Nat) : (strOf xs).size = xs.length := by simp [strOf, ByteArray.size, bytesOf]
theorem str_eq {xs ys : List Nat} (hx : ∀ x ∈ xs, x < 256) (hy : ∀ x ∈ ys, x < 256) : ((strOf xs).toList == (strOf ys).toList) = decide (xs = ys) := by
  unfold strOf
  rw [toList_bytes, toList_bytes, Bool.eq_iff_iff, beq_iff_eq, decide_eq_true_iff]
  constructor
  · intro h
    have h1 := bytesOf_inj (fun z hz => by obtain ⟨x, hx', rfl⟩ := List.mem_map.1 hz; have := hx x hx'; omega) (fun z hz => by obtain ⟨x, hx', rfl⟩ := List.mem_map.1 hz; have := hy x hx'; omega) h
    exact (List.map_inj_right (fun a b h => by omega)).1 h1
  · intro h; rw [h]
theorem cellBytes_of : ∀ xs : List Nat, (∀ x ∈ xs, x < 256) → cellBytes (bytesOf (zs xs)) = bys xs
  | [], _ => rfl
  | x :: xs, h => by
    have ih := cellBytes_of xs fun y hy => h y (by simp [hy])
    have hx := h x (by simp)
    show Value.int .u8 (((UInt8.ofNat ((x : Int)).toNat).toNat : Nat) : Int) :: cellBytes (bytesOf (zs xs)) = _
    rw [ih, Int.toNat_natCast, UInt8.toNat_ofNat', Nat.mod_eq_of_lt hx]
    rfl
theorem first_str {h : Heap} {xs : List Nat} (hx : ∀ x ∈ xs, x < 256) : firstL h 1 (strOf xs).size (.string (strOf xs)) = some (bys xs) := by
  show some (cellBytes ((bytesOf (zs xs)).take (strOf xs).size)) = _
  rw [List.take_of_length_le (by rw [strOf_size]; simp [bytesOf]), cellBytes_of xs hx]

/-- req.name -/
theorem C55 {h : Heap} {a : Option Addr} {n c : Nat} {xs nm : List Nat} (o : OwS h 1 a n c (bys xs)) (hb : n ≤ 500) (hl : nm.length ≤ 100) (hn : ∀ x ∈ nm, x < 256) :
    Fn Try.prog 55 [.slice a n c, .string (strOf nm)] h fun v h' => ∃ a' c', v = .slice a' (n + (encN nm).length) c' ∧ OwS h' 1 a' (n + (encN nm).length) c' (bys (xs ++ encN nm)) ∧ Ext (Blk a) h h' ∧ ∀ i, Blk a' i → Blk a i ∨ h.next ≤ i := by
  refine fnK F55.fok rfl ?_
  refine K_reg (Wops_run rfl rfl (K_fin [(0, _), (1, _)] rfl (?_)))
  refine K_reg (Wops_run rfl rfl (Wops_run rfl rfl (Wops_run rfl rfl (Wops_as (w := .int .u64 (nm.length : Int)) rfl rfl (by rw [strOf_size, wr64m, Nat.mod_eq_of_lt (by omega)]) (Wops_bslice (l := u64s [nm.length]) rfl rfl fun h1 n1 x1 g1 => ?_)))))
  have hv : ∀ v ∈ [nm.length], v < 18446744073709551616 := by intro v hm; rw [List.mem_singleton] at hm; omega
  have hsz : (encUs [nm.length]).length ≤ 10 := encUs_len hv
  refine Wops_call rfl (C56 (o.ext x1) (OwS.new (n := 1) (c := 1) g1 rfl).sl ⟨by omega, by simp⟩ hv) ?_
  rintro _ h2 ⟨a2, c2, rfl, o2, x2, b2⟩
  refine Wops_run rfl rfl (Wops_app (m := (strOf nm).size) rfl rfl o2 rfl (first_str hn) (by rw [strOf_size]; omega) (by rw [strOf_size]; simp) (bys_cell _) (by decide) fun h3 a3 c3 x3 o3 b3 => ?_)
  refine Wops_run rfl rfl (K_fin [(4, _)] rfl (?_))
  have z1 := x1.next
  have z2 := x2.next
  have e1 : encN nm = encUs [nm.length] ++ nm := by simp [encN, encUs]
  have e2 : n + (encN nm).length = n + (encUs [nm.length]).length + (strOf nm).size := by rw [e1, strOf_size, List.length_append]; omega
  refine K_ret (Told.mk _ rfl ⟨a3, c3, by rw [e2]; rfl, ?_, ((x1.trans x2).of0).then x3 fun i r => (b2 i r).imp id fun r => by omega, fun i r => ?_⟩)
  · rw [e2, e1, ← List.append_assoc, bys_app]; exact o3
  · rcases b3 i r with r | r
    · exact (b2 i r).imp id fun r => by omega
    · exact .inr (by omega)

def RqV (r : Rq) (ba : Option Addr) (bn bc : Nat) (aa : Option Addr) (an ac : Nat) : List Value := [.int .i64 (r.kind : Int), .int .u64 (r.tok : Int), .int .u64 (r.han : Int), .string (strOf r.name), .slice ba bn bc, .slice aa an ac, .int .u64 (r.tic : Int), .int .u64 (r.oth : Int)]
structure Rq.Fit (r : Rq) : Prop where
  k1 : 1 ≤ r.kind
  k6 : r.kind ≤ 6
  t : r.tok < M64
  h : r.han < M64
  n : r.name.length ≤ 60
  nb : ∀ x ∈ r.name, x < 256
  b : r.body.length ≤ 300
  bb : ∀ x ∈ r.body, x < 256
  a : r.args.length ≤ 12
  ab : ∀ x ∈ r.args, x < M64
  c : r.tic < M64
  o : r.oth < M64
theorem Rq.Ok.fit {r : Rq} (k : r.Ok) : r.Fit := ⟨k.k1, k.k6, k.t, k.h, Nat.le_trans k.n (by decide), k.nb, k.b, k.bb, Nat.le_trans k.a (by decide), k.ab, k.c, k.o⟩
theorem one64 {v : Nat} (h : v < M64) : ∀ x ∈ [v], x < 18446744073709551616 := by intro x hm; rw [List.mem_singleton] at hm; subst hm; exact h
theorem encUs_one (v : Nat) : encUs [v] = encU v := by simp [encUs]
theorem sameS (s : ByteArray) : sameV (.string s) (.string s) = true := by simp [sameV, sameCell]
theorem sameI (k : IntKind) (n : Int) : sameV (.int k n) (.int k n) = true := by simp [sameV, sameCell]

set_option maxHeartbeats 2000000 in
/-- req.Put -/
theorem C19 {h : Heap} {r : Rq} {ba aa : Option Addr} {bn bc an ac : Nat} (k : r.Fit) (s1 : SlA h 1 ba bn bc (bys r.body)) (s2 : SlA h 1 aa an ac (u64s r.args)) :
    Fn Try.prog 19 [.agg ⟨RqV r ba bn bc aa an ac⟩] h fun v h' => ∃ a' c', v = .slice a' (encQ r).length c' ∧ OwS h' 1 a' (encQ r).length c' (bys (encQ r)) ∧ Ext0 h h' ∧ ∀ i, Blk a' i → h.next ≤ i := by
  have hbn : r.body.length = bn := by simpa using s1.len
  have han : r.args.length = an := by simpa using s2.len
  have kb := k.b
  have ka := k.a
  have kn := k.n
  have kk1 := k.k1
  have kk6 := k.k6
  refine fnK F19.fok rfl ?_
  refine K_reg (Wops_box (cs := RqV r ba bn bc aa an ac) rfl rfl fun h1 n1 x1 g1 => Wops_run rfl rfl (K_fin [(1, _)] rfl (?_)))
  refine K_reg (Wops_run rfl rfl (Wops_ld (v := .int .i64 (r.kind : Int)) rfl g1 rfl (Wops_as (w := .int .u8 (r.kind : Int)) rfl rfl (by rw [wr8m, Nat.mod_eq_of_lt (by omega)]) (Wops_bslice (l := bys [r.kind]) rfl rfl fun h2 n2 x2 g2 => ?_))))
  have g12 : At h2 h.next (.cells (RqV r ba bn bc aa an ac) 0 false) := At.ext g1 x2
  refine Wops_run rfl rfl (Wops_ld (v := .int .u64 (r.tok : Int)) rfl g12 rfl (Wops_call rfl (C54 (n := 1) (xs := [r.kind]) (OwS.new (n := 1) (c := 1) g2 rfl) (by decide) k.t) ?_))
  rintro _ h3 ⟨a3, c3, rfl, o3, x3, b3⟩
  refine Wops_run rfl rfl (K_fin [(1, _), (3, _)] rfl (?_))
  have z1 := x1.next
  have z2 := x2.next
  have z3 := x3.next
  have b3' : ∀ i, Blk a3 i → h.next + 1 ≤ i := fun i q => (b3 i q).elim (fun q => by rw [Blk.at] at q; omega) fun q => by omega
  have x03 : Ext0 h h3 := (x1.trans x2).then x3 fun i q => .inr (by rw [Blk.at] at q; omega)
  have g13 : At h3 h.next (.cells (RqV r ba bn bc aa an ac) 0 false) := g12.ext x3 (fun q => by rw [Blk.at] at q; omega)
  have s13 := s1.ext x03
  have s23 := s2.ext x03
  have hlen : (encQ r).length = 1 + 8 + (encB r).length := by unfold encQ; simp only [List.length_append, enc8_len, List.length_singleton]; omega
  have hq : encQ r = ([r.kind] ++ enc8 r.tok) ++ encB r := by unfold encQ; rw [List.append_assoc]
  rw [hlen, hq]
  refine K_ss (K_reg (Wops_run rfl rfl (Wops_ld (v := .int .i64 (r.kind : Int)) rfl g13 rfl (K_fin [(1, _), (3, _), (12, _)] rfl (?_)))))
  refine K_sblock ?_
  have hh : r.kind = 1 ∨ r.kind = 2 ∨ r.kind = 3 ∨ r.kind = 4 ∨ r.kind = 5 ∨ r.kind = 6 := by omega
  rcases hh with hk | hk | hk | hk | hk | hk
  · refine K_reg (Wops_as (w := .bool true) rfl rfl (by rw [hk]; rfl) (Wops_run rfl rfl (K_fin [(1, _), (3, _), (12, _), (13, _)] rfl (?_))))
    refine K_cond rfl (fun _ => ?_) (fun hc => by cases hc)
    have eB : encB r = r.body := by unfold encB; rw [hk]; rfl
    rw [eB]
    refine K_reg (Wops_run rfl rfl (Wops_run rfl rfl (Wops_ld (v := .slice ba bn bc) rfl g13 rfl (Wops_app (m := bn) rfl rfl o3 rfl s13.first ⟨by omega, by omega⟩ s13.len (bys_cell _) (by decide) fun h4 a4 c4 x4 o4 b4 => ?_))))
    refine Wops_run rfl rfl (K_fin [(2, _)] rfl (?_))
    refine K_ret (Told.mk _ rfl ⟨a4, c4, by rw [hbn]; rfl, ?_, x03.then x4 fun i q => .inr (by have := b3' i q; omega), fun i q => (b4 i q).elim (fun q => by have := b3' i q; omega) fun q => by omega⟩)
    rw [hbn, bys_app]; exact o4
  · refine K_reg (Wops_as (w := .bool false) rfl rfl (by rw [hk]; rfl) (Wops_run rfl rfl (K_fin [(1, _), (3, _), (12, _), (13, _)] rfl (?_))))
    refine K_cond rfl (fun hc => by cases hc) (fun _ => ?_)
    refine K_reg (Wops_as (w := .bool true) rfl rfl (by rw [hk]; rfl) (Wops_run rfl rfl (K_fin [(1, _), (3, _), (12, _), (19, _)] rfl (?_))))
    refine K_cond rfl (fun _ => ?_) (fun hc => by cases hc)
    have eB : encB r = encU r.han ++ encN r.name := by unfold encB; rw [hk]; rfl
    rw [eB]
    refine K_reg (Wops_run rfl rfl (Wops_run rfl rfl (Wops_ld (v := .int .u64 (r.han : Int)) rfl g13 rfl (Wops_bslice (l := u64s [r.han]) rfl rfl fun h4 n4 x4 g4 => ?_))))
    have g14 := g13.ext x4
    have z4 := x4.next
    have hs := encUs_len (one64 k.h)
    simp only [List.length_singleton, Nat.mul_one] at hs
    refine Wops_run rfl rfl (Wops_ld (v := .string (strOf r.name)) rfl g14 rfl (Wops_call rfl (C56 (o3.ext x4) (OwS.new (n := 1) (c := 1) g4 rfl).sl ⟨by decide, by decide⟩ (one64 k.h)) ?_))
    rintro _ h5 ⟨a5, c5, rfl, o5, x5, b5⟩
    have g15 := g14.ext x5
    have z5 := x5.next
    refine Wops_chk rfl rfl g15 (v := .string (strOf r.name)) rfl (sameS _) (Wops_call rfl (C55 o5 (by omega) (by omega) k.nb) ?_)
    rintro _ h6 ⟨a6, c6, rfl, o6, x6, b6⟩
    refine Wops_run rfl rfl (K_fin [(2, _)] rfl (?_))
    have b5' : ∀ i, Blk a5 i → h.next + 1 ≤ i := fun i q => (b5 i q).elim (b3' i) fun q => by omega
    rw [encUs_one] at o6
    refine K_ret (Told.mk _ rfl ⟨a6, c6, by rw [encUs_one, List.length_append, ← Nat.add_assoc]; rfl, ?_, ((x03.trans x4).trans x5).then x6 fun i q => .inr (by have := b5' i q; omega), fun i q => (b6 i q).elim (fun q => by have := b5' i q; omega) fun q => by omega⟩)
    rw [List.length_append, ← Nat.add_assoc, ← List.append_assoc]; exact o6
  · refine K_reg (Wops_as (w := .bool false) rfl rfl (by rw [hk]; rfl) (Wops_run rfl rfl (K_fin [(1, _), (3, _), (12, _), (13, _)] rfl (?_))))
    refine K_cond rfl (fun hc => by cases hc) (fun _ => ?_)
    refine K_reg (Wops_as (w := .bool false) rfl rfl (by rw [hk]; rfl) (Wops_run rfl rfl (K_fin [(1, _), (3, _), (12, _), (19, _)] rfl (?_))))
    refine K_cond rfl (fun hc => by cases hc) (fun _ => ?_)
    refine K_reg (Wops_as (w := .bool true) rfl rfl (by rw [hk]; rfl) (Wops_run rfl rfl (K_fin [(1, _), (3, _), (12, _), (29, _)] rfl (?_))))
    refine K_cond rfl (fun _ => ?_) (fun hc => by cases hc)
    have eB : encB r = encN r.name := by unfold encB; rw [hk]; rfl
    rw [eB]
    refine K_reg (Wops_run rfl rfl (Wops_run rfl rfl (Wops_ld (v := .string (strOf r.name)) rfl g13 rfl (Wops_call rfl (C55 o3 (by omega) (by omega) k.nb) ?_))))
    rintro _ h6 ⟨a6, c6, rfl, o6, x6, b6⟩
    refine Wops_run rfl rfl (K_fin [(2, _)] rfl (?_))
    exact K_ret (Told.mk _ rfl ⟨a6, c6, rfl, o6, x03.then x6 fun i q => .inr (by have := b3' i q; omega), fun i q => (b6 i q).elim (fun q => by have := b3' i q; omega) fun q => by omega⟩)
  · refine K_reg (Wops_as (w := .bool false) rfl rfl (by rw [hk]; rfl) (Wops_run rfl rfl (K_fin [(1, _), (3, _), (12, _), (13, _)] rfl (?_))))
    refine K_cond rfl (fun hc => by cases hc) (fun _ => ?_)
    refine K_reg (Wops_as (w := .bool false) rfl rfl (by rw [hk]; rfl) (Wops_run rfl rfl (K_fin [(1, _), (3, _), (12, _), (19, _)] rfl (?_))))
    refine K_cond rfl (fun hc => by cases hc) (fun _ => ?_)
    refine K_reg (Wops_as (w := .bool false) rfl rfl (by rw [hk]; rfl) (Wops_run rfl rfl (K_fin [(1, _), (3, _), (12, _), (29, _)] rfl (?_))))
    refine K_cond rfl (fun hc => by cases hc) (fun _ => ?_)
    refine K_reg (Wops_as (w := .bool true) rfl rfl (by rw [hk]; rfl) (Wops_run rfl rfl (K_fin [(1, _), (3, _), (12, _), (35, _)] rfl (?_))))
    refine K_cond rfl (fun _ => ?_) (fun hc => by cases hc)
    have eB : encB r = encU r.han ++ (encN r.name ++ (encL r.args ++ encU r.tic)) := by unfold encB; rw [hk]; rfl
    rw [eB]
    have hvl : ∀ x ∈ [an], x < 18446744073709551616 := one64 (by show an < 18446744073709551616; omega)
    refine K_reg (Wops_run rfl rfl (Wops_run rfl rfl (Wops_ld (v := .int .u64 (r.han : Int)) rfl g13 rfl (Wops_bslice (l := u64s [r.han]) rfl rfl fun h4 n4 x4 g4 => ?_))))
    have g14 := g13.ext x4
    have z4 := x4.next
    have hs := encUs_len (one64 k.h)
    simp only [List.length_singleton, Nat.mul_one] at hs
    refine Wops_run rfl rfl (Wops_ld (v := .string (strOf r.name)) rfl g14 rfl (Wops_run rfl rfl (Wops_ld (v := .slice aa an ac) rfl g14 rfl (Wops_run rfl rfl (Wops_as (w := .int .u64 (an : Int)) rfl rfl (by rw [wr64m, Nat.mod_eq_of_lt (by omega)]) (Wops_bslice (l := u64s [an]) rfl rfl fun h4b n4b x4b g4b => ?_))))))
    have g14b := g14.ext x4b
    have z4b := x4b.next
    have g4' : At h4b h3.next (.cells (u64s [r.han]) 1 false) := At.ext g4 x4b
    refine Wops_call rfl (C56 ((o3.ext x4).ext x4b) (OwS.new (n := 1) (c := 1) g4' rfl).sl ⟨by decide, by decide⟩ (one64 k.h)) ?_
    rintro _ h5 ⟨a5, c5, rfl, o5, x5, b5⟩
    have g15 := g14b.ext x5
    have z5 := x5.next
    have b5' : ∀ i, Blk a5 i → h.next + 1 ≤ i ∧ (i ≠ h4.next) := fun i q => (b5 i q).elim (fun q => ⟨b3' i q, by have := o3.lt q; omega⟩) fun q => ⟨by omega, by omega⟩
    have hnl : (encN r.name).length ≤ 70 := by
      have h1 := encU_len 10 r.name.length (Nat.lt_of_le_of_lt kn (by decide)) (by decide)
      unfold encN; rw [List.length_append]; omega
    refine Wops_chk rfl rfl g15 (v := .string (strOf r.name)) rfl (sameS _) (Wops_chk rfl rfl g15 (v := .slice aa an ac) rfl s2.same (Wops_call rfl (C55 o5 (by omega) (by omega) k.nb) ?_))
    rintro _ h6 ⟨a6, c6, rfl, o6, x6, b6⟩
    have z6 := x6.next
    have g16 := g15.ext x6 (fun q => by have := b5' _ q; omega)
    have g4b6 : At h6 h4.next (.cells (u64s [an]) 1 false) := (At.ext g4b x5).ext x6 (fun q => (b5' _ q).2 rfl)
    have b6' : ∀ i, Blk a6 i → h.next + 1 ≤ i := fun i q => (b6 i q).elim (fun q => (b5' i q).1) fun q => by omega
    have hs2 := encUs_len hvl
    simp only [List.length_singleton, Nat.mul_one] at hs2
    refine Wops_chk rfl rfl g16 (v := .slice aa an ac) rfl s2.same (Wops_call rfl (C56 o6 (OwS.new (n := 1) (c := 1) g4b6 rfl).sl ⟨by omega, by decide⟩ hvl) ?_)
    rintro _ h7 ⟨a7, c7, rfl, o7, x7, b7⟩
    refine Wops_run rfl rfl (K_fin [(1, _), (3, _)] rfl (?_))
    have z7 := x7.next
    have g17 := g16.ext x7
    have b7' : ∀ i, Blk a7 i → h.next + 1 ≤ i := fun i q => (b7 i q).elim (b6' i) fun q => by omega
    have x07 : Ext0 h h7 := (((((x03.trans x4).trans x4b).trans x5).then x6 fun i q => .inr (by have := (b5' i q).1; omega))).trans x7
    refine K_reg (Wops_run rfl rfl (Wops_run rfl rfl (Wops_ld (v := .slice aa an ac) rfl g17 rfl (Wops_run rfl rfl (Wops_ld (v := .int .u64 (r.tic : Int)) rfl g17 rfl (Wops_bslice (l := u64s [r.tic]) rfl rfl fun h8 n8 x8 g8 => ?_))))))
    have g18 := g17.ext x8
    have z8 := x8.next
    have hs3 := encUs_len k.ab
    refine Wops_call rfl (C56 (o7.ext x8) ((s2.ext x07).ext x8) ⟨by omega, by omega⟩ k.ab) ?_
    rintro _ h9 ⟨a9, c9, rfl, o9, x9, b9⟩
    have z9 := x9.next
    have g19 := g18.ext x9
    have g89 : At h9 h7.next (.cells (u64s [r.tic]) 1 false) := At.ext g8 x9
    refine Wops_chk rfl rfl g19 (v := .int .u64 (r.tic : Int)) rfl (sameI _ _) (Wops_call rfl (C56 o9 (OwS.new (n := 1) (c := 1) g89 rfl).sl ⟨by omega, by decide⟩ (one64 k.c)) ?_)
    rintro _ h10 ⟨a10, c10, rfl, o10, x10, b10⟩
    refine Wops_run rfl rfl (K_fin [(2, _)] rfl (?_))
    have b9' : ∀ i, Blk a9 i → h.next + 1 ≤ i := fun i q => (b9 i q).elim (b7' i) fun q => by omega
    have hl4 : 1 + 8 + (encU r.han ++ (encN r.name ++ (encL r.args ++ encU r.tic))).length = 1 + 8 + (encUs [r.han]).length + (encN r.name).length + (encUs [an]).length + (encUs r.args).length + (encUs [r.tic]).length := by
      simp only [encUs_one, List.length_append, encL, han]; omega
    have hq4 : [r.kind] ++ enc8 r.tok ++ (encU r.han ++ (encN r.name ++ (encL r.args ++ encU r.tic))) = [r.kind] ++ enc8 r.tok ++ encUs [r.han] ++ encN r.name ++ encUs [an] ++ encUs r.args ++ encUs [r.tic] := by
      simp only [encUs_one, encL, han, List.append_assoc]
    refine K_ret (Told.mk _ rfl ⟨a10, c10, by rw [hl4]; rfl, ?_, ((x07.trans x8).trans x9).trans x10, fun i q => (b10 i q).elim (fun q => by have := b9' i q; omega) fun q => by omega⟩)
    rw [hl4, hq4]; exact o10
  · refine K_reg (Wops_as (w := .bool false) rfl rfl (by rw [hk]; rfl) (Wops_run rfl rfl (K_fin [(1, _), (3, _), (12, _), (13, _)] rfl (?_))))
    refine K_cond rfl (fun hc => by cases hc) (fun _ => ?_)
    refine K_reg (Wops_as (w := .bool false) rfl rfl (by rw [hk]; rfl) (Wops_run rfl rfl (K_fin [(1, _), (3, _), (12, _), (19, _)] rfl (?_))))
    refine K_cond rfl (fun hc => by cases hc) (fun _ => ?_)
    refine K_reg (Wops_as (w := .bool false) rfl rfl (by rw [hk]; rfl) (Wops_run rfl rfl (K_fin [(1, _), (3, _), (12, _), (29, _)] rfl (?_))))
    refine K_cond rfl (fun hc => by cases hc) (fun _ => ?_)
    refine K_reg (Wops_as (w := .bool false) rfl rfl (by rw [hk]; rfl) (Wops_run rfl rfl (K_fin [(1, _), (3, _), (12, _), (35, _)] rfl (?_))))
    refine K_cond rfl (fun hc => by cases hc) (fun _ => ?_)
    refine K_reg (Wops_as (w := .bool true) rfl rfl (by rw [hk]; rfl) (Wops_run rfl rfl (K_fin [(1, _), (3, _), (12, _), (59, _)] rfl (?_))))
    refine K_cond rfl (fun _ => ?_) (fun hc => by cases hc)
    have eB : encB r = encU r.han := by unfold encB; rw [hk]; rfl
    rw [eB]
    refine K_reg (Wops_run rfl rfl (Wops_run rfl rfl (Wops_ld (v := .int .u64 (r.han : Int)) rfl g13 rfl (Wops_bslice (l := u64s [r.han]) rfl rfl fun h4 n4 x4 g4 => ?_))))
    refine Wops_call rfl (C56 (o3.ext x4) (OwS.new (n := 1) (c := 1) g4 rfl).sl ⟨by decide, by decide⟩ (one64 k.h)) ?_
    rintro _ h5 ⟨a5, c5, rfl, o5, x5, b5⟩
    have z4 := x4.next
    refine Wops_run rfl rfl (K_fin [(2, _)] rfl (?_))
    rw [encUs_one] at o5
    exact K_ret (Told.mk _ rfl ⟨a5, c5, by rw [encUs_one]; rfl, o5, (x03.trans x4).trans x5, fun i q => (b5 i q).elim (fun q => by have := b3' i q; omega) fun q => by omega⟩)
  · refine K_reg (Wops_as (w := .bool false) rfl rfl (by rw [hk]; rfl) (Wops_run rfl rfl (K_fin [(1, _), (3, _), (12, _), (13, _)] rfl (?_))))
    refine K_cond rfl (fun hc => by cases hc) (fun _ => ?_)
    refine K_reg (Wops_as (w := .bool false) rfl rfl (by rw [hk]; rfl) (Wops_run rfl rfl (K_fin [(1, _), (3, _), (12, _), (19, _)] rfl (?_))))
    refine K_cond rfl (fun hc => by cases hc) (fun _ => ?_)
    refine K_reg (Wops_as (w := .bool false) rfl rfl (by rw [hk]; rfl) (Wops_run rfl rfl (K_fin [(1, _), (3, _), (12, _), (29, _)] rfl (?_))))
    refine K_cond rfl (fun hc => by cases hc) (fun _ => ?_)
    refine K_reg (Wops_as (w := .bool false) rfl rfl (by rw [hk]; rfl) (Wops_run rfl rfl (K_fin [(1, _), (3, _), (12, _), (35, _)] rfl (?_))))
    refine K_cond rfl (fun hc => by cases hc) (fun _ => ?_)
    refine K_reg (Wops_as (w := .bool false) rfl rfl (by rw [hk]; rfl) (Wops_run rfl rfl (K_fin [(1, _), (3, _), (12, _), (59, _)] rfl (?_))))
    refine K_cond rfl (fun hc => by cases hc) (fun _ => ?_)
    refine K_reg (Wops_as (w := .bool true) rfl rfl (by rw [hk]; rfl) (Wops_run rfl rfl (K_fin [(1, _), (3, _), (66, _)] rfl (?_))))
    refine K_cond rfl (fun _ => ?_) (fun hc => by cases hc)
    have eB : encB r = enc8 r.oth := by unfold encB; rw [hk]; rfl
    rw [eB]
    refine K_reg (Wops_run rfl rfl (Wops_run rfl rfl (Wops_ld (v := .int .u64 (r.oth : Int)) rfl g13 rfl (Wops_call rfl (C54 o3 (by decide) k.o) ?_))))
    rintro _ h5 ⟨a5, c5, rfl, o5, x5, b5⟩
    refine Wops_run rfl rfl (K_fin [(2, _)] rfl (?_))
    exact K_ret (Told.mk _ rfl ⟨a5, c5, rfl, o5, x03.then x5 fun i q => .inr (by have := b3' i q; omega), fun i q => (b5 i q).elim (fun q => by have := b3' i q; omega) fun q => by omega⟩)

/-- bytes.Equal -/
theorem C60 {h : Heap} {a b : Option Addr} {n m c d : Nat} {xs ys : List Nat} (s : SlA h 1 a n c (bys xs)) (s2 : SlA h 1 b m d (bys ys)) (hx : ∀ x ∈ xs, x < 256) (hy : ∀ x ∈ ys, x < 256) :
    Fn Try.prog 60 [.slice a n c, .slice b m d] h fun v h' => v = .bool (decide (xs = ys)) ∧ h = h' := by
  rw [bys_ints] at s s2
  refine fnK F60.fok rfl ?_
  refine K_reg (Wops_run rfl rfl (K_fin [(0, _), (1, _)] rfl (?_)))
  refine K_reg (Wops_run rfl rfl (Wops_toStr rfl s (Wops_run rfl rfl (Wops_toStr rfl s2 (Wops_streq (v := decide (xs = ys)) rfl rfl (str_eq hx hy) (Wops_run rfl rfl (K_fin [(4, _)] rfl (?_))))))))
  exact K_ret (Told.mk _ rfl ⟨rfl, rfl⟩)
/-- slices.Equal -/
theorem C61 {h : Heap} {a b : Option Addr} {n m c d : Nat} {xs ys : List Nat} (s : SlA h 1 a n c (u64s xs)) (s2 : SlA h 1 b m d (u64s ys)) (hb : n ≤ 1000000) :
    Fn Try.prog 61 [.slice a n c, .slice b m d] h fun v h' => v = .bool (decide (xs = ys)) ∧ h = h' := by
  have hn : xs.length = n := by simpa using s.len
  have hm : ys.length = m := by simpa using s2.len
  refine fnK F61.fok rfl ?_
  refine K_reg (Wops_run rfl rfl (K_fin [(0, _), (1, _)] rfl (?_)))
  refine K_ss (K_reg (Wops_run rfl rfl (Wops_run rfl rfl (Wops_run rfl rfl (Wops_run rfl rfl (Wops_run rfl rfl (K_fin [(0, _), (1, _), (10, _)] rfl (?_))))))))
  refine K_scond rfl (fun hc => ?_) (fun hc => ?_)
  · have hne : n ≠ m := fun e => by subst e; simp at hc
    refine K_ss (K_reg (Wops_run rfl rfl (K_fin [(4, _)] rfl (?_))))
    refine K_sret (Told.mk _ rfl (show _ ∧ _ from ⟨?_, rfl⟩))
    rw [decide_eq_false (fun e => hne (by rw [← hn, ← hm, e]))]; rfl
  · have hnm : n = m := by
      have h1 : ((n : Int) != (m : Int)) = false := hc
      simp at h1; omega
    subst hnm
    refine K_sskip (K_ss (K_reg (Wops_run rfl rfl (Wops_run rfl rfl (Wops_run rfl rfl (K_fin [(0, _), (1, _), (12, _), (13, _)] rfl (?_)))))))
    refine K_sblock ?_
    refine K_loop (fun k e h' => ∃ i : Nat, e = [(0, .slice a n c), (1, .slice b n d), (12, .int .i64 n), (13, .int .i64 i)] ∧ h = h' ∧ i ≤ n ∧ k = n - i ∧ xs.take i = ys.take i) ?_ (k := n) ⟨0, rfl, rfl, by omega, rfl, rfl⟩
    rintro k e h' ⟨i, rfl, rfl, hi, rfl, ht⟩
    refine K_reg (Wops_run rfl rfl (K_fin [(0, _), (1, _), (12, _), (13, _), (14, _)] rfl (?_)))
    refine K_scond rfl (fun hc => ?_) (fun hc => ?_)
    · have hlt : i < n := by have := of_decide_eq_true hc; omega
      refine K_sskip (K_sblock ?_)
      refine K_reg (Wops_run rfl rfl (Wops_run rfl rfl (K_fin [(0, _), (1, _), (5, _), (12, _), (13, _)] rfl (?_))))
      refine K_reg (Wops_run rfl rfl (Wops_run rfl rfl (Wops_idx (u := .int .u64 ((xs[i]'(by omega) : Nat) : Int)) rfl rfl s ⟨by omega, by omega⟩ (by simp [u64s, hn, hlt]) fun p => ?_)))
      refine Wops_run rfl rfl (Wops_run rfl rfl (Wops_idx (u := .int .u64 ((ys[i]'(by omega) : Nat) : Int)) rfl rfl s2 ⟨by omega, by omega⟩ (by simp [u64s, hm, hlt]) fun p => ?_))
      refine Wops_run rfl rfl (K_fin [(0, _), (1, _), (12, _), (13, _), (24, _)] rfl (?_))
      refine K_cond rfl (fun hd => ?_) (fun hd => ?_)
      · refine K_reg (Wops_run rfl rfl (K_fin [(4, _)] rfl (?_)))
        refine K_ret (Told.mk _ rfl (show _ ∧ _ from ⟨?_, rfl⟩))
        rw [decide_eq_false (fun e => by subst e; simp at hd)]; rfl
      · refine K_skip (K_last (Wops_run rfl rfl (Wops_run rfl rfl (K_finL [(0, _), (1, _), (12, _), (13, _)] rfl (?_)))))
        refine ⟨n - (i + 1), by omega, i + 1, by rw [w64s (by omega)], rfl, by omega, rfl, ?_⟩
        have h1 : (((xs[i]'(by omega) : Nat) : Int) != ((ys[i]'(by omega) : Nat) : Int)) = false := hd
        have h2' : ((xs[i]'(by omega) : Nat) : Int) = ((ys[i]'(by omega) : Nat) : Int) := by simpa using h1
        have h2 : xs[i]'(by omega) = ys[i]'(by omega) := by omega
        rw [List.take_add_one, List.take_add_one, ht, List.getElem?_eq_getElem (by omega), List.getElem?_eq_getElem (by omega), h2]
    · have hin : i = n := by have := of_decide_eq_false hc; omega
      refine K_sexit (bx_same ?_)
      refine K_reg (Wops_run rfl rfl (K_fin [(4, _)] rfl (?_)))
      refine K_ret (Told.mk _ rfl (show _ ∧ _ from ⟨?_, rfl⟩))
      rw [List.take_of_length_le (by omega), List.take_of_length_le (by omega)] at ht
      rw [decide_eq_true ht]; rfl

set_option maxHeartbeats 2000000 in
/-- req.Same -/
theorem C21 {h : Heap} {r q : Rq} {ba aa bb ab : Option Addr} {bn bc an ac bm bd am ad : Nat} (s1 : SlA h 1 ba bn bc (bys r.body)) (s2 : SlA h 1 aa an ac (u64s r.args)) (s3 : SlA h 1 bb bm bd (bys q.body)) (s4 : SlA h 1 ab am ad (u64s q.args))
    (hr : ∀ x ∈ r.name, x < 256) (hq : ∀ x ∈ q.name, x < 256) (hrb : ∀ x ∈ r.body, x < 256) (hqb : ∀ x ∈ q.body, x < 256) (han : an ≤ 1000000) :
    Fn Try.prog 21 [.agg ⟨RqV r ba bn bc aa an ac⟩, .agg ⟨RqV q bb bm bd ab am ad⟩] h fun v h' => v = .bool (decide (r = q)) ∧ Ext0 h h' := by
  refine fnK F21.fok rfl ?_
  refine K_reg (Wops_box (cs := RqV r ba bn bc aa an ac) rfl rfl fun h1 n1 x1 g1' => Wops_box (cs := RqV q bb bm bd ab am ad) rfl rfl fun h2 n2 x2 g2 => Wops_run rfl rfl (K_fin [(2, _), (3, _)] rfl (?_)))
  have g1 : At h2 h.next (.cells (RqV r ba bn bc aa an ac) 0 false) := At.ext g1' x2
  have no : ∀ {P : Prop}, (r = q → P) → ¬ P → decide (r = q) = false := fun f n => decide_eq_false fun e => n (f e)
  refine K_reg ?_
  refine Wops_run rfl rfl (Wops_ld (v := .int .i64 (r.kind : Int)) rfl g1 rfl (Wops_run rfl rfl (Wops_ld (v := .int .i64 (q.kind : Int)) rfl g2 rfl ?_)))
  by_cases hf : r.kind = q.kind
  case neg =>
    refine Wops_as (w := .bool false) rfl rfl (by simp; omega) ?_
    (repeat (first | refine Wops_skip rfl ?_ | refine Wops_run rfl rfl ?_))
    exact (K_fin [(4, _)] rfl (K_ret (Told.mk _ rfl ⟨by rw [no (fun e => congrArg Rq.kind e) hf]; rfl, x1.trans x2⟩)))
  refine Wops_as (w := .bool true) rfl rfl (by simp; omega) ?_
  have h0 := hf
  clear hf
  refine Wops_run rfl rfl ?_
  refine Wops_go rfl (Wops_run rfl rfl (Wops_go rfl (Wops_ld (v := .int .u64 (r.tok : Int)) rfl g1 rfl (Wops_go rfl (Wops_run rfl rfl (Wops_go rfl (Wops_ld (v := .int .u64 (q.tok : Int)) rfl g2 rfl ?_)))))))
  by_cases hf : r.tok = q.tok
  case neg =>
    refine Wops_go rfl (Wops_as (w := .bool false) rfl rfl (by simp; omega) ?_)
    (repeat (first | refine Wops_skip rfl ?_ | refine Wops_run rfl rfl ?_))
    exact (K_fin [(4, _)] rfl (K_ret (Told.mk _ rfl ⟨by rw [no (fun e => congrArg Rq.tok e) hf]; rfl, x1.trans x2⟩)))
  refine Wops_go rfl (Wops_as (w := .bool true) rfl rfl (by simp; omega) ?_)
  have h1_ := hf
  clear hf
  refine Wops_run rfl rfl (Wops_run rfl rfl ?_)
  refine Wops_go rfl (Wops_run rfl rfl (Wops_go rfl (Wops_ld (v := .int .u64 (r.han : Int)) rfl g1 rfl (Wops_go rfl (Wops_run rfl rfl (Wops_go rfl (Wops_ld (v := .int .u64 (q.han : Int)) rfl g2 rfl ?_)))))))
  by_cases hf : r.han = q.han
  case neg =>
    refine Wops_go rfl (Wops_as (w := .bool false) rfl rfl (by simp; omega) ?_)
    (repeat (first | refine Wops_skip rfl ?_ | refine Wops_run rfl rfl ?_))
    exact (K_fin [(4, _)] rfl (K_ret (Told.mk _ rfl ⟨by rw [no (fun e => congrArg Rq.han e) hf]; rfl, x1.trans x2⟩)))
  refine Wops_go rfl (Wops_as (w := .bool true) rfl rfl (by simp; omega) ?_)
  have h2_ := hf
  clear hf
  refine Wops_run rfl rfl (Wops_run rfl rfl ?_)
  refine Wops_go rfl (Wops_run rfl rfl (Wops_go rfl (Wops_ld (v := .string (strOf r.name)) rfl g1 rfl (Wops_go rfl (Wops_run rfl rfl (Wops_go rfl (Wops_ld (v := .string (strOf q.name)) rfl g2 rfl ?_)))))))
  by_cases hf : r.name = q.name
  case neg =>
    refine Wops_go rfl (Wops_streq (v := false) rfl rfl (by rw [str_eq hr hq, decide_eq_false hf]) ?_)
    (repeat (first | refine Wops_skip rfl ?_ | refine Wops_run rfl rfl ?_))
    exact (K_fin [(4, _)] rfl (K_ret (Told.mk _ rfl ⟨by rw [no (fun e => congrArg Rq.name e) hf]; rfl, x1.trans x2⟩)))
  refine Wops_go rfl (Wops_streq (v := true) rfl rfl (by rw [str_eq hr hq, decide_eq_true hf]) ?_)
  have h3_ := hf
  clear hf
  refine Wops_run rfl rfl (Wops_run rfl rfl ?_)
  refine Wops_go rfl (Wops_run rfl rfl (Wops_go rfl (Wops_ld (v := .slice ba bn bc) rfl g1 rfl (Wops_go rfl (Wops_run rfl rfl (Wops_go rfl (Wops_ld (v := .slice bb bm bd) rfl g2 rfl ?_)))))))
  refine Wops_go rfl (Wops_call rfl (C60 ((s1.ext x1).ext x2) ((s3.ext x1).ext x2) hrb hqb) ?_)
  rintro _ _ ⟨rfl, rfl⟩
  by_cases hf : r.body = q.body
  case neg =>
    rw [decide_eq_false hf]
    (repeat (first | refine Wops_skip rfl ?_ | refine Wops_run rfl rfl ?_))
    exact (K_fin [(4, _)] rfl (K_ret (Told.mk _ rfl ⟨by rw [no (fun e => congrArg Rq.body e) hf]; rfl, x1.trans x2⟩)))
  rw [decide_eq_true hf]
  have h4_ := hf
  clear hf
  refine Wops_run rfl rfl (Wops_run rfl rfl ?_)
  refine Wops_go rfl (Wops_run rfl rfl (Wops_go rfl (Wops_ld (v := .slice aa an ac) rfl g1 rfl (Wops_go rfl (Wops_run rfl rfl (Wops_go rfl (Wops_ld (v := .slice ab am ad) rfl g2 rfl ?_)))))))
  refine Wops_go rfl (Wops_call rfl (C61 ((s2.ext x1).ext x2) ((s4.ext x1).ext x2) han) ?_)
  rintro _ _ ⟨rfl, rfl⟩
  by_cases hf : r.args = q.args
  case neg =>
    rw [decide_eq_false hf]
    (repeat (first | refine Wops_skip rfl ?_ | refine Wops_run rfl rfl ?_))
    exact (K_fin [(4, _)] rfl (K_ret (Told.mk _ rfl ⟨by rw [no (fun e => congrArg Rq.args e) hf]; rfl, x1.trans x2⟩)))
  rw [decide_eq_true hf]
  have h5_ := hf
  clear hf
  refine Wops_run rfl rfl (Wops_run rfl rfl ?_)
  refine Wops_go rfl (Wops_run rfl rfl (Wops_go rfl (Wops_ld (v := .int .u64 (r.tic : Int)) rfl g1 rfl (Wops_go rfl (Wops_run rfl rfl (Wops_go rfl (Wops_ld (v := .int .u64 (q.tic : Int)) rfl g2 rfl ?_)))))))
  by_cases hf : r.tic = q.tic
  case neg =>
    refine Wops_go rfl (Wops_as (w := .bool false) rfl rfl (by simp; omega) ?_)
    (repeat (first | refine Wops_skip rfl ?_ | refine Wops_run rfl rfl ?_))
    exact (K_fin [(4, _)] rfl (K_ret (Told.mk _ rfl ⟨by rw [no (fun e => congrArg Rq.tic e) hf]; rfl, x1.trans x2⟩)))
  refine Wops_go rfl (Wops_as (w := .bool true) rfl rfl (by simp; omega) ?_)
  have h6_ := hf
  clear hf
  refine Wops_run rfl rfl (Wops_run rfl rfl ?_)
  refine Wops_go rfl (Wops_run rfl rfl (Wops_go rfl (Wops_ld (v := .int .u64 (r.oth : Int)) rfl g1 rfl (Wops_go rfl (Wops_run rfl rfl (Wops_go rfl (Wops_ld (v := .int .u64 (q.oth : Int)) rfl g2 rfl ?_)))))))
  by_cases hf : r.oth = q.oth
  case neg =>
    refine Wops_go rfl (Wops_as (w := .bool false) rfl rfl (by simp; omega) ?_)
    (repeat (first | refine Wops_skip rfl ?_ | refine Wops_run rfl rfl ?_))
    exact (K_fin [(4, _)] rfl (K_ret (Told.mk _ rfl ⟨by rw [no (fun e => congrArg Rq.oth e) hf]; rfl, x1.trans x2⟩)))
  refine Wops_go rfl (Wops_as (w := .bool true) rfl rfl (by simp; omega) ?_)
  have h7_ := hf
  clear hf
  refine Wops_run rfl rfl (Wops_run rfl rfl (K_fin [(4, _)] rfl (?_)))
  refine K_ret (Told.mk _ rfl ⟨?_, x1.trans x2⟩)
  have e : r = q := by
    cases r; cases q
    simp only at h0 h1_ h2_ h3_ h4_ h5_ h6_ h7_
    subst h0 h1_ h2_ h3_ h4_ h5_ h6_ h7_; rfl
  rw [decide_eq_true e]; rfl

/-- may -/
theorem C18 {h : Heap} {kd tk hn tc ot : Int} {s : ByteArray} {ba aa : Option Addr} {bn bc an ac : Nat} :
    Fn Try.prog 18 [.agg ⟨[.int .i64 kd, .int .u64 tk, .int .u64 hn, .string s, .slice ba bn bc, .slice aa an ac, .int .u64 tc, .int .u64 ot]⟩] h fun v h' => v = .bool (decide (1 ≤ kd ∧ kd ≤ 6 ∧ s.size ≤ 60 ∧ bn ≤ 300 ∧ an ≤ 12)) ∧ Ext0 h h' := by
  refine fnK F18.fok rfl ?_
  refine K_reg (Wops_box (cs := [.int .i64 kd, .int .u64 tk, .int .u64 hn, .string s, .slice ba bn bc, .slice aa an ac, .int .u64 tc, .int .u64 ot]) rfl rfl fun h1 n1 x1 g1 => Wops_run rfl rfl (K_fin [(1, _)] rfl (?_)))
  refine K_reg (Wops_run rfl rfl (Wops_ld (v := .int .i64 kd) rfl g1 rfl ?_))
  by_cases c1 : 1 ≤ kd
  case neg =>
    refine Wops_as (w := .bool false) rfl rfl (by rw [decide_eq_false (by omega)]) ?_
    (repeat (first | refine Wops_skip rfl ?_ | refine Wops_run rfl rfl ?_))
    exact K_fin [(2, _)] rfl (K_ret (Told.mk _ rfl ⟨by rw [decide_eq_false (fun q => c1 q.1)]; rfl, x1⟩))
  refine Wops_as (w := .bool true) rfl rfl (by rw [decide_eq_true (by omega)]) (Wops_run rfl rfl (Wops_go rfl (Wops_run rfl rfl (Wops_go rfl (Wops_ld (v := .int .i64 kd) rfl g1 rfl (Wops_go rfl ?_))))))
  by_cases c2 : kd ≤ 6
  case neg =>
    refine Wops_as (w := .bool false) rfl rfl (by rw [decide_eq_false (by omega)]) ?_
    (repeat (first | refine Wops_skip rfl ?_ | refine Wops_run rfl rfl ?_))
    exact K_fin [(2, _)] rfl (K_ret (Told.mk _ rfl ⟨by rw [decide_eq_false (fun q => c2 q.2.1)]; rfl, x1⟩))
  refine Wops_as (w := .bool true) rfl rfl (by rw [decide_eq_true (by omega)]) (Wops_run rfl rfl (Wops_run rfl rfl (Wops_go rfl (Wops_run rfl rfl (Wops_go rfl (Wops_ld (v := .string s) rfl g1 rfl (Wops_go rfl (Wops_run rfl rfl (Wops_go rfl ?_)))))))))
  by_cases c3 : s.size ≤ 60
  case neg =>
    refine Wops_as (w := .bool false) rfl rfl (by rw [decide_eq_false (by omega)]) ?_
    (repeat (first | refine Wops_skip rfl ?_ | refine Wops_run rfl rfl ?_))
    exact K_fin [(2, _)] rfl (K_ret (Told.mk _ rfl ⟨by rw [decide_eq_false (fun q => c3 q.2.2.1)]; rfl, x1⟩))
  refine Wops_as (w := .bool true) rfl rfl (by rw [decide_eq_true (by omega)]) (Wops_run rfl rfl (Wops_run rfl rfl (Wops_go rfl (Wops_run rfl rfl (Wops_go rfl (Wops_ld (v := .slice ba bn bc) rfl g1 rfl (Wops_go rfl (Wops_run rfl rfl (Wops_go rfl ?_)))))))))
  by_cases c4 : bn ≤ 300
  case neg =>
    refine Wops_as (w := .bool false) rfl rfl (by rw [decide_eq_false (by omega)]) ?_
    (repeat (first | refine Wops_skip rfl ?_ | refine Wops_run rfl rfl ?_))
    exact K_fin [(2, _)] rfl (K_ret (Told.mk _ rfl ⟨by rw [decide_eq_false (fun q => c4 q.2.2.2.1)]; rfl, x1⟩))
  refine Wops_as (w := .bool true) rfl rfl (by rw [decide_eq_true (by omega)]) (Wops_run rfl rfl (Wops_run rfl rfl (Wops_go rfl (Wops_run rfl rfl (Wops_go rfl (Wops_ld (v := .slice aa an ac) rfl g1 rfl (Wops_go rfl (Wops_run rfl rfl (Wops_go rfl ?_)))))))))
  by_cases c5 : an ≤ 12
  case neg =>
    refine Wops_as (w := .bool false) rfl rfl (by rw [decide_eq_false (by omega)]) ?_
    (repeat (first | refine Wops_skip rfl ?_ | refine Wops_run rfl rfl ?_))
    exact K_fin [(2, _)] rfl (K_ret (Told.mk _ rfl ⟨by rw [decide_eq_false (fun q => c5 q.2.2.2.2)]; rfl, x1⟩))
  refine Wops_as (w := .bool true) rfl rfl (by rw [decide_eq_true (by omega)]) (Wops_run rfl rfl (Wops_run rfl rfl (K_fin [(2, _)] rfl (?_))))
  exact K_ret (Told.mk _ rfl ⟨by rw [decide_eq_true ⟨c1, c2, c3, c4, c5⟩]; rfl, x1⟩)
end Go.Dx.SYtkppbmhpcjjceaa
