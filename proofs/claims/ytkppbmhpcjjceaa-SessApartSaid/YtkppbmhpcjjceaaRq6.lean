/- ReplyBack: its walk, its arguments. -/
import Derived.Test.YtkppbmhpcjjceaaRq5
namespace Go.Dx.SYtkppbmhpcjjceaa
open Go.Proofs
set_option linter.unusedVariables false
set_option linter.unusedSimpArgs false

set_option maxRecDepth 100000 in
theorem begun12_run : isTrue (fnR T 2000 12 [] Heap.empty) = true := by kernel_rfl
theorem C12 {h : Heap} : Fn Try.prog 12 [] h fun v h' => v = .bool true ∧ h = h' :=
  Fn.anywhere (R := fun v => v = .bool true) rfl (fn_of_true T.ok begun12_run) fun v h' q => ⟨by rw [q]; rfl, q⟩

theorem encR_len {r : Rp} (k : r.Ok) : (encR r).length ≤ 200 ∧ 0 < (encR r).length := by
  have h1 := encU_len 10 r.han (Nat.lt_of_lt_of_le k.h (by decide)) (by decide)
  have h2 := encUs_len k.v
  have h3 := encU_len 10 r.vs.length (Nat.lt_of_le_of_lt k.l (by decide)) (by decide)
  have h4 := k.l
  unfold encR encL
  simp only [List.length_append, enc8_len, List.length_singleton]
  omega
theorem encUs_byte {vs : List Nat} : ∀ x ∈ encUs vs, x < 256 := by
  intro x hx
  obtain ⟨v, _, hv⟩ := List.mem_flatMap.1 hx
  exact encU_byte v x hv
theorem encR_byte {r : Rp} (k : r.Ok) : ∀ x ∈ encR r, x < 256 := by
  intro x hx
  unfold encR encL at hx
  simp only [List.mem_append, List.mem_singleton] at hx
  rcases hx with hx | rfl | hx | hx | hx
  · exact enc8_byte _ x hx
  · have := k.e; omega
  · exact encU_byte _ x hx
  · exact encU_byte _ x hx
  · exact encUs_byte x hx

set_option maxHeartbeats 1000000 in
/-- ReplyBack -/
theorem C5 {h : Heap} {tok han more : Nat} {err cut : Int} {a : Option Addr} {n c : Nat} {vs : List Nat} (ht : tok < 18446744073709551616) (hh : han < 18446744073709551616) (hm : more < 256) (hv : ∀ v ∈ vs, v < 18446744073709551616) (s : SlA h 1 a n c (u64s vs)) :
    Fn Try.prog 5 [.agg ⟨[.int .u64 (tok : Int), .int .i64 err, .int .u64 (han : Int), .slice a n c]⟩, .int .i64 cut, .int .u8 (more : Int)] h fun v _ => v = .bool true := by
  have hl : vs.length = n := by simpa using s.len
  refine fnK F5.fok rfl ?_
  refine K_reg (Wops_box (cs := [.int .u64 (tok : Int), .int .i64 err, .int .u64 (han : Int), .slice a n c]) rfl rfl fun h1 n1 x1 g1 => Wops_run rfl rfl (K_fin [(1, _), (2, _), (3, _)] rfl (?_)))
  refine K_ss (K_reg (Wops_call rfl C12 ?_))
  rintro _ _ ⟨rfl, rfl⟩
  refine Wops_run rfl rfl (K_fin [(1, _), (2, _), (3, _), (15, _)] rfl (?_))
  refine K_scond rfl (fun hc => by cases hc) (fun _ => ?_)
  refine K_sskip (K_ss (K_reg (Wops_run rfl rfl (Wops_ld (v := .slice a n c) rfl g1 rfl (Wops_run rfl rfl ?_)))))
  by_cases h8 : 8 < n
  · refine Wops_as (w := .bool true) rfl rfl (by rw [decide_eq_true (by omega)]) (Wops_run rfl rfl (Wops_skip rfl (Wops_skip rfl (Wops_skip rfl (Wops_run rfl rfl (Wops_run rfl rfl (Wops_skip rfl (Wops_skip rfl (Wops_skip rfl (Wops_run rfl rfl (K_fin [(1, _), (2, _), (3, _), (29, _)] rfl (?_))))))))))))
    refine K_scond rfl (fun _ => ?_) (fun hc => by cases hc)
    refine K_ss (K_reg (Wops_run rfl rfl (K_fin [(6, _)] rfl (?_))))
    exact K_sret (Told.mk _ rfl rfl)
  refine Wops_as (w := .bool false) rfl rfl (by rw [decide_eq_false (by omega)]) (Wops_run rfl rfl (Wops_go rfl (Wops_run rfl rfl (Wops_go rfl (Wops_ld (v := .int .i64 err) rfl g1 rfl (Wops_go rfl ?_))))))
  by_cases he0 : err < 0
  · refine Wops_as (w := .bool true) rfl rfl (by rw [decide_eq_true (by omega)]) (Wops_run rfl rfl (Wops_run rfl rfl (Wops_skip rfl (Wops_skip rfl (Wops_skip rfl (Wops_run rfl rfl (K_fin [(1, _), (2, _), (3, _), (29, _)] rfl (?_))))))))
    refine K_scond rfl (fun _ => ?_) (fun hc => by cases hc)
    refine K_ss (K_reg (Wops_run rfl rfl (K_fin [(6, _)] rfl (?_))))
    exact K_sret (Told.mk _ rfl rfl)
  refine Wops_as (w := .bool false) rfl rfl (by rw [decide_eq_false (by omega)]) (Wops_run rfl rfl (Wops_run rfl rfl (Wops_go rfl (Wops_run rfl rfl (Wops_go rfl (Wops_ld (v := .int .i64 err) rfl g1 rfl (Wops_go rfl ?_)))))))
  by_cases he1 : err > 17
  · refine Wops_as (w := .bool true) rfl rfl (by rw [decide_eq_true (by omega)]) (Wops_run rfl rfl (K_fin [(1, _), (2, _), (3, _), (29, _)] rfl (?_)))
    refine K_scond rfl (fun _ => ?_) (fun hc => by cases hc)
    refine K_ss (K_reg (Wops_run rfl rfl (K_fin [(6, _)] rfl (?_))))
    exact K_sret (Told.mk _ rfl rfl)
  refine Wops_as (w := .bool false) rfl rfl (by rw [decide_eq_false (by omega)]) (Wops_run rfl rfl (K_fin [(1, _), (2, _), (3, _), (29, _)] rfl (?_)))
  refine K_scond rfl (fun hc => by cases hc) (fun _ => ?_)
  obtain ⟨er, rfl⟩ : ∃ er : Nat, err = er := ⟨err.toNat, by omega⟩
  obtain ⟨r, hr⟩ : ∃ r : Rp, r = ⟨tok, er, han, vs⟩ := ⟨_, rfl⟩
  have k : r.Ok := by rw [hr]; exact ⟨ht, by show er ≤ 17; omega, hh, by show vs.length ≤ 8; omega, hv⟩
  have e1 : [Value.int .u64 (tok : Int), .int .i64 (er : Int), .int .u64 (han : Int), .slice a n c] = RpV r a n c := by rw [hr]; rfl
  have e2 : vs = r.vs := by rw [hr]
  rw [e1] at g1
  rw [e2] at s hl
  clear e1 e2 hr hv hh ht
  obtain ⟨L1, L0⟩ := encR_len k
  have hbyte := encR_byte k
  have x01 : Ext0 h h1 := x1
  refine K_sskip (K_reg (Wops_ldA (l := RpV r a n c) rfl g1 (by simp [RpV]) rfl (Wops_call rfl (C24 (s.ext x1) (by omega) k.t (by have := k.e; omega) k.h k.v) ?_)))
  rintro _ h2 ⟨aw, cw, rfl, ow, x2, bw⟩
  refine Wops_run rfl rfl (K_fin [(1, _), (2, _), (3, _), (7, _)] rfl (?_))
  have T1 := C25 ow.sl (by omega) hbyte (fun i q => ow.lt q)
  rw [takeR_enc k] at T1
  refine K_reg (Wops_run rfl rfl (Wops_call rfl T1 ?_))
  rintro _ h3 ⟨x3, a3, c3, rfl, s3, b3⟩
  refine Wops_run rfl rfl (Wops_run rfl rfl (Wops_run rfl rfl (Wops_new fun h4 n4 x4 g4 => Wops_st (l := RpV r a3 r.vs.length c3) rfl rfl rfl rfl g4 (by simp) rfl fun h5 n5 x5 g5 => Wops_run rfl rfl (K_fin [(1, _), (2, _), (3, _), (7, _), (8, _), (9, _)] rfl (?_)))))
  have z1 := x1.next
  have z2 := x2.next
  have z3 := x3.next
  have z4 := x4.next
  have z5 := x5.next
  have x25 : Ext0 h2 h5 := (x3.trans x4).then x5 fun i r => .inr (by omega)
  have ow5 := ow.ext x25
  refine K_reg (Wops_run rfl rfl (Wops_run rfl rfl (Wops_run rfl rfl (Wops_run rfl rfl (Wops_call rfl (C22 L0 (by omega)) ?_)))))
  rintro _ _ ⟨⟨i, hi, rfl⟩, rfl⟩
  have hsub := ow5.sl.sub (i := 0) (j := i) (Nat.zero_le _) (by omega)
  rw [bys_sub, List.drop_zero, Nat.sub_zero] at hsub
  have T2 := C25 (n := i) (hsub) (by omega) (fun x hx => hbyte x (List.mem_of_mem_take hx)) (fun j q => ow5.lt (shift_blk.1 q))
  have hcut := takeR_cut k hi
  refine Wops_slV (lov := none) (hiv := some (.int .i64 (i : Int))) rfl rfl rfl ow5.sl.ok (bounds_hi (by omega)) (Wops_call rfl T2 ?_)
  rintro _ h6 ⟨x6, a6, c6, rfl, s6, b6⟩
  rw [hcut]
  refine Wops_run rfl rfl (Wops_run rfl rfl (Wops_run rfl rfl (Wops_new fun h7 n7 x7 g7 => Wops_st (l := RpV (takeR ((encR r).take i)).1 a6 (takeR ((encR r).take i)).1.vs.length c6) rfl rfl rfl rfl g7 (by simp) rfl fun h8 n8 x8 g8 => Wops_run rfl rfl (K_fin [(2, _), (3, _), (7, _), (8, _), (9, _), (11, _)] rfl (?_)))))
  have z6 := x6.next
  have z7 := x7.next
  have z8 := x8.next
  have x58 : Ext0 h5 h8 := (x6.trans x7).then x8 fun i r => .inr (by omega)
  refine K_reg (Wops_bslice (l := []) rfl rfl fun h9 n9 x9 g9 => ?_)
  refine Wops_run rfl rfl (Wops_app rfl rfl (OwS.new (n := 0) g9 rfl) rfl ((ow5.ext x58).ext x9).sl.first ⟨by omega, by omega⟩ (ow5.sl.len) (bys_cell _) (by decide) fun h10 a10 c10 x10 o10 b10 => ?_)
  refine Wops_run rfl rfl (Wops_bslice (l := bys [more]) rfl rfl fun h11 n11 x11 g11 => ?_)
  refine Wops_app rfl rfl (o10.ext x11) rfl (OwS.new (n := 1) (c := 1) g11 rfl).sl.first ⟨by omega, by omega⟩ rfl rfl (by decide) fun h12 a12 c12 x12 o12 b12 => ?_
  rw [List.nil_append, ← bys_app] at o12
  have hlen : (encR r ++ [more]).length = 0 + (encR r).length + 1 := by simp
  have hb3 : ∀ x ∈ encR r ++ [more], x < 256 := by
    intro x hx
    rcases List.mem_append.1 hx with hx | hx
    · exact hbyte x hx
    · rw [List.mem_singleton] at hx; omega
  have T3 := C25 o12.sl (by omega) hb3 (fun j q => o12.lt q)
  refine Wops_call rfl T3 ?_
  rintro _ h13 ⟨x13, a13, c13, rfl, s13, b13⟩
  rw [takeR_more k]
  have z9 := x9.next
  have z10 := x10.next
  have z11 := x11.next
  have z12 := x12.next
  have z13 := x13.next
  have b10' : ∀ i, Blk a10 i → h8.next ≤ i := fun i q => (b10 i q).elim (fun q => by rw [Blk.at] at q; omega) fun q => by omega
  have x812 : Ext0 h8 h12 := ((x9.then x10 fun i q => .inr (by rw [Blk.at] at q; omega)).trans x11).then x12 fun i q => .inr (by have := b10' i q; omega)
  refine Wops_run rfl rfl (Wops_run rfl rfl (Wops_run rfl rfl (Wops_new fun h14 n14 x14 g14 => Wops_st (l := RpV (takeR (encR r ++ [more])).1 a13 (takeR (encR r ++ [more])).1.vs.length c13) rfl rfl rfl rfl g14 (by simp) rfl fun h15 n15 x15 g15 => Wops_run rfl rfl (K_fin [(3, _), (8, _), (9, _), (11, _), (13, _)] rfl (?_)))))
  have z14 := x14.next
  have x815 : Ext0 h8 h15 := ((x812.trans x13).trans x14).then x15 fun i q => .inr (by omega)
  have gA : At h15 h3.next (.cells (RpV r a3 r.vs.length c3) 0 false) := (At.ext g5 x58).ext x815
  have gB : At h15 h.next (.cells (RpV r a n c) 0 false) := (((At.ext g1 x2).ext x25).ext x58).ext x815
  have sA := ((((s3.ext x4).ext x5 fun i q => by have := s3.lt q; omega).ext x58).ext x815).sl
  have sB := ((((s.ext x1).ext x2).ext x25).ext x58).ext x815
  refine K_reg (Wops_run rfl rfl (Wops_as (w := .bool true) rfl rfl (by simp) (Wops_run rfl rfl (Wops_go rfl (Wops_ldA (l := RpV r a3 r.vs.length c3) rfl gA (by simp [RpV]) rfl (Wops_go rfl (Wops_ldA (l := RpV r a n c) rfl gB (by simp [RpV]) rfl (Wops_go rfl (Wops_call rfl (C26 sA sB (by omega)) ?_)))))))))
  rintro _ h16 ⟨rfl, x16⟩
  refine Wops_run rfl rfl (Wops_run rfl rfl (Wops_go rfl (Wops_run rfl rfl (Wops_go rfl (Wops_as (w := .bool true) rfl rfl (by simp) (Wops_run rfl rfl (Wops_run rfl rfl (Wops_go rfl (Wops_run rfl rfl (Wops_go rfl (Wops_as (w := .bool true) rfl rfl (by simp) (Wops_run rfl rfl (Wops_run rfl rfl (K_fin [(6, _)] rfl (?_)))))))))))))))
  exact K_ret (Told.mk _ rfl rfl)

theorem ints_nat {k : IntKind} {xs : List Int} (h : ∀ x ∈ xs, 0 ≤ x) : xs.map (Value.int k) = (xs.map Int.toNat).map (fun x : Nat => Value.int k (x : Int)) := by
  induction xs with
  | nil => rfl
  | cons x xs ih =>
    rw [List.map_cons, List.map_cons, List.map_cons, ih fun y hy => h y (by simp [hy])]
    have := h x (by simp)
    rw [Int.toNat_of_nonneg this]
theorem cells22 : Try.prog.cellsOf 22 = 1 := by kernel_rfl
set_option maxRecDepth 100000 in
theorem replyBack_fn {b : Base} {N : Nat} {vs : List Value} (h0 : 0 < N) (hd : ∀ id l, b id = some l → id < N) (hb : b 0 = none) (hG : ArgsG Try.prog b 4 [41, 3, 5] vs) : Fn Try.prog 5 vs (heapIn b N) fun v _ => v = .bool true := by
  obtain ⟨v, r, rfl, g, hr⟩ := ArgsG_cons hG
  obtain ⟨v2, r2, rfl, g2, hr2⟩ := ArgsG_cons hr
  obtain ⟨v3, r3, rfl, g3, hr3⟩ := ArgsG_cons hr2
  obtain rfl := ArgsG_nil hr3
  obtain ⟨ci, hci, _⟩ := GV_int Try.underlying3 (GA_int Try.underlying3 g2)
  obtain rfl : v2 = .int .i64 ci := by simpa using hci
  obtain ⟨mo, hmo, hmw⟩ := GV_int Try.underlying5 (GA_int Try.underlying5 g3)
  obtain rfl : v3 = .int .u8 mo := by simpa using hmo
  unfold GA at g
  rw [Try.underlying41] at g
  obtain ⟨cs, rfl, g⟩ := g
  obtain ⟨c1, r1, rfl, l1, f1, c2, r2, rfl, l2, f2, c3, r3, rfl, l3, f3, c4, r4, rfl, l4, f4, rfl⟩ := GV_struct Try.underlying41 g
  obtain ⟨tok, rfl, htok⟩ := GV_int Try.underlying22 f1
  obtain ⟨er, rfl, her⟩ := GV_int Try.underlying29 f2
  obtain ⟨han, rfl, hhan⟩ := GV_int Try.underlying22 f3
  obtain ⟨a, n, c, xs, rfl, s, hn, hxs⟩ := GV_ints h0 hd hb Try.underlying24 Try.underlying22 cells22 f4
  have w1 := wf_u64 htok
  have w2 := wf_u64 hhan
  have w3 := wf_u8 hmw
  obtain ⟨t, rfl⟩ : ∃ t : Nat, tok = t := ⟨tok.toNat, by omega⟩
  obtain ⟨u, rfl⟩ : ∃ u : Nat, han = u := ⟨han.toNat, by omega⟩
  obtain ⟨m, rfl⟩ : ∃ m : Nat, mo = m := ⟨mo.toNat, by omega⟩
  have s' := s.sl
  rw [ints_nat fun x hx => (wf_u64 (hxs x hx)).1] at s'
  have hv : ∀ v ∈ xs.map Int.toNat, v < 18446744073709551616 := by
    intro v hv
    obtain ⟨x, hx, rfl⟩ := List.mem_map.1 hv
    have := wf_u64 (hxs x hx); omega
  exact C5 (by omega) (by omega) (by omega) hv s'
end Go.Dx.SYtkppbmhpcjjceaa
