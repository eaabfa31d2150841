/- ReqBack: its walk. -/
import Derived.Test.YtkppbmhpcjjceaaRq12
namespace Go.Dx.SYtkppbmhpcjjceaa
open Go.Proofs
set_option linter.unusedVariables false
set_option linter.unusedSimpArgs false

set_option maxHeartbeats 4000000 in
/-- ReqBack -/
theorem C4 {h : Heap} {kd cut : Int} {more : Nat} {r : Rq} {ba aa xb : Option Addr} {bn bc an ac xn xc : Nat} {xs : List Nat} (I : Inn h kd r ba bn bc aa an ac) (hm : more < 256) (sx : SlA h 1 xb xn xc (bys xs)) (hxb : ∀ x ∈ xs, x < 256) (hxl : ∀ i, Blk xb i → i < h.next) :
    Fn Try.prog 4 [.agg ⟨RqI kd r ba bn bc aa an ac⟩, .int .i64 cut, .int .u8 (more : Int), .slice xb xn xc] h fun v _ => v = .bool true := by
  have hxn : xs.length = xn := by simpa using sx.len
  refine fnK F4.fok rfl ?_
  refine K_reg (Wops_box (cs := RqI kd r ba bn bc aa an ac) rfl rfl fun h1 n1 x1 g1 => Wops_run rfl rfl (K_fin [(1, _), (2, _), (3, _), (4, _)] rfl (?_)))
  refine K_ss (K_reg (Wops_call rfl C12 ?_))
  rintro _ _ ⟨rfl, rfl⟩
  refine Wops_run rfl rfl (K_fin [(1, _), (2, _), (3, _), (4, _), (22, _)] rfl (?_))
  refine K_scond rfl (fun hc => by cases hc) (fun _ => ?_)
  refine K_sskip (K_ss (K_join (fun e h' => ∃ b, e = [(1, .int .i64 cut), (2, .int .u8 (more : Int)), (3, .slice xb xn xc), (4, ptr h.next), (42, .bool b)] ∧ Ext0 h1 h' ∧ (b = false → may kd r bn an ∧ xn ≤ 300 ∧ (strOf r.name).size ≤ 32 ∧ an ≤ 8)) ?_ ?_))
  · refine K_last (Wops_ldA (l := RqI kd r ba bn bc aa an ac) rfl g1 (by simp [RqI]) rfl (Wops_call rfl C18 ?_))
    rintro _ h3 ⟨rfl, x3⟩
    have g13 := At.ext g1 x3
    by_cases m1 : may kd r bn an
    case neg =>
      rw [decide_eq_false m1]
      (repeat (first | refine Wops_skip rfl ?_ | refine Wops_run rfl rfl ?_))
      exact K_finL [(1, _), (2, _), (3, _), (4, _), (42, _)] rfl ⟨_, rfl, x3, fun e => by cases e⟩
    rw [decide_eq_true m1]
    refine Wops_run rfl rfl (Wops_run rfl rfl (Wops_go rfl (Wops_run rfl rfl (Wops_go rfl (Wops_run rfl rfl (Wops_go rfl ?_))))))
    by_cases c1 : xn ≤ 300
    case neg =>
      refine Wops_as (w := .bool true) rfl rfl (by rw [decide_eq_true (by omega)]) (Wops_run rfl rfl (Wops_run rfl rfl ?_))
      (repeat (first | refine Wops_skip rfl ?_ | refine Wops_run rfl rfl ?_))
      exact K_finL [(1, _), (2, _), (3, _), (4, _), (42, _)] rfl ⟨_, rfl, x3, fun e => by cases e⟩
    refine Wops_as (w := .bool false) rfl rfl (by rw [decide_eq_false (by omega)]) (Wops_run rfl rfl (Wops_run rfl rfl (Wops_go rfl (Wops_run rfl rfl (Wops_go rfl (Wops_ld (v := .string (strOf r.name)) rfl g13 rfl (Wops_go rfl (Wops_run rfl rfl (Wops_go rfl ?_)))))))))
    by_cases c2 : (strOf r.name).size ≤ 32
    case neg =>
      refine Wops_as (w := .bool true) rfl rfl (by rw [decide_eq_true (by omega)]) (Wops_run rfl rfl (Wops_run rfl rfl ?_))
      (repeat (first | refine Wops_skip rfl ?_ | refine Wops_run rfl rfl ?_))
      exact K_finL [(1, _), (2, _), (3, _), (4, _), (42, _)] rfl ⟨_, rfl, x3, fun e => by cases e⟩
    refine Wops_as (w := .bool false) rfl rfl (by rw [decide_eq_false (by omega)]) (Wops_run rfl rfl (Wops_run rfl rfl (Wops_go rfl (Wops_run rfl rfl (Wops_go rfl (Wops_ld (v := .slice aa an ac) rfl g13 rfl (Wops_go rfl (Wops_run rfl rfl (Wops_go rfl (Wops_run rfl rfl (Wops_run rfl rfl (K_finL [(1, _), (2, _), (3, _), (4, _), (42, _)] rfl (?_)))))))))))))
    exact ⟨_, rfl, x3, fun e => ⟨m1, c1, c2, by have := of_decide_eq_false e; omega⟩⟩
  rintro _ h3 ⟨b, rfl, x3, hbf⟩
  refine K_scond rfl (fun hc => ?_) (fun hc => ?_)
  · refine K_ss (K_reg (Wops_run rfl rfl (K_fin [(8, _)] rfl (?_))))
    exact K_sret (Told.mk _ rfl rfl)
  obtain ⟨m1, c1, c2, c3⟩ := hbf hc
  have I1 := I.ext x1
  obtain ⟨k, er⟩ := I1.ok m1 c2 c3
  have g1 : At h3 h.next (.cells (RqV r ba bn bc aa an ac) 0 false) := by rw [← er]; exact At.ext g1 x3
  have I3 := I1.ext x3
  obtain ⟨L1, L0⟩ := encQ_len k
  have hbyte := encQ_byte k
  have sx3 := (sx.ext x1).ext x3
  have z1 := x1.next
  have z3 := x3.next
  clear hbf
  -- put, taken
  refine K_sskip (K_reg (Wops_ldA (l := RqV r ba bn bc aa an ac) rfl g1 (by simp [RqV]) rfl (Wops_call rfl (C19 k.fit I3.s1 I3.s2) ?_)))
  rintro _ h4 ⟨a4, c4, rfl, o4, x4, b4⟩
  refine Wops_run rfl rfl (K_fin [(1, _), (2, _), (3, _), (4, _), (9, _)] rfl (?_))
  have T1 := C14 o4.sl (by omega) hbyte (fun i q => o4.lt q)
  rw [takeQ_enc k] at T1
  refine K_reg (Wops_run rfl rfl (Wops_call rfl T1 ?_))
  rintro _ h5 ⟨x5, ba5, bc5, aa5, ac5, rfl, ob5, oa5, bb5, ab5⟩
  refine Wops_run rfl rfl (Wops_run rfl rfl (Wops_run rfl rfl (Wops_new fun h6 n6 x6 g6 => Wops_st (l := RqV (normQ r) ba5 (normQ r).body.length bc5 aa5 (normQ r).args.length ac5) rfl rfl rfl rfl g6 (by simp) (by simp [RqV, isCell]) fun h7 n7 x7 g7 => Wops_run rfl rfl (K_fin [(1, _), (2, _), (3, _), (4, _), (9, _), (10, _), (11, _)] rfl (?_)))))
  have z4 := x4.next
  have z5 := x5.next
  have z6 := x6.next
  have z7 := x7.next
  have x37 : Ext0 h3 h7 := ((x4.trans x5).trans x6).then x7 fun i r => .inr (by omega)
  have x47 : Ext0 h4 h7 := (x5.trans x6).then x7 fun i r => .inr (by omega)
  have gx : At h7 h5.next (.cells (RqV (normQ r) ba5 (normQ r).body.length bc5 aa5 (normQ r).args.length ac5) 0 false) := g7
  have gr := g1.ext x37
  have ob7 := (ob5.ext x6).ext x7 fun i r => by have := ob5.lt r; omega
  have oa7 := (oa5.ext x6).ext x7 fun i r => by have := oa5.lt r; omega
  have I7 := I3.ext x37
  have o47 := o4.ext x47
  have hnk := norm_kind r
  have hnt := norm_tok r
  -- error, kind and token
  refine K_ss (K_reg (Wops_run rfl rfl (Wops_as (w := .bool false) rfl rfl (by simp) (Wops_run rfl rfl (Wops_go rfl (Wops_run rfl rfl (Wops_go rfl (Wops_ld (v := .int .i64 ((normQ r).kind : Int)) rfl gx rfl (Wops_go rfl (Wops_run rfl rfl (Wops_go rfl (Wops_ld (v := .int .i64 (r.kind : Int)) rfl gr rfl (Wops_go rfl (Wops_as (w := .bool false) rfl rfl (by rw [hnk]; simp) ?_))))))))))))))
  refine Wops_run rfl rfl (Wops_run rfl rfl (Wops_go rfl (Wops_run rfl rfl (Wops_go rfl (Wops_ld (v := .int .u64 ((normQ r).tok : Int)) rfl gx rfl (Wops_go rfl (Wops_run rfl rfl (Wops_go rfl (Wops_ld (v := .int .u64 (r.tok : Int)) rfl gr rfl (Wops_go rfl (Wops_as (w := .bool false) rfl rfl (by rw [hnt]; simp) (Wops_run rfl rfl (K_fin [(1, _), (2, _), (3, _), (4, _), (9, _), (10, _), (65, _)] rfl (?_))))))))))))))
  refine K_scond rfl (fun hc => by cases hc) (fun _ => ?_)
  -- any bytes
  have sx7 := sx3.ext x37
  refine K_sskip (K_reg (Wops_run rfl rfl (Wops_call rfl (C14 sx7 (by omega) hxb (fun i q => by have := hxl i q; omega)) ?_)))
  rintro _ h8 ⟨x8, ba8, bc8, aa8, ac8, rfl, ob8, oa8, bb8, ab8⟩
  refine Wops_run rfl rfl (Wops_run rfl rfl (Wops_run rfl rfl (Wops_new fun h9 n9 x9 g9 => Wops_st (l := RqV (takeQ xs).1 ba8 (takeQ xs).1.body.length bc8 aa8 (takeQ xs).1.args.length ac8) rfl rfl rfl rfl g9 (by simp) (by simp [RqV, isCell]) fun h10 n10 x10 g10 => Wops_run rfl rfl (K_fin [(1, _), (2, _), (4, _), (9, _), (10, _), (12, _), (13, _)] rfl (?_)))))
  have z8 := x8.next
  have z9 := x9.next
  have z10 := x10.next
  have x710 : Ext0 h7 h10 := (x8.trans x9).then x10 fun i r => .inr (by omega)
  have gy : At h10 h8.next (.cells (RqV (takeQ xs).1 ba8 (takeQ xs).1.body.length bc8 aa8 (takeQ xs).1.args.length ac8) 0 false) := g10
  have ob10 := (ob8.ext x9).ext x10 fun i r => by have := ob8.lt r; omega
  have oa10 := (oa8.ext x9).ext x10 fun i r => by have := oa8.lt r; omega
  have hany := takeQ_any hxb (by omega)
  refine K_ss (K_reg (Wops_run rfl rfl ?_))
  refine Wops_as (w := .bool (decide ((takeQ xs).2 = 0))) rfl rfl (by rw [Value.bool.injEq, Bool.eq_iff_iff, beq_iff_eq, decide_eq_true_iff]) (K_fin [(1, _), (2, _), (4, _), (9, _), (10, _), (12, _), (72, _)] rfl (?_))
  refine K_join (fun e h' => ∃ l : Env, e = [(1, .int .i64 cut), (2, .int .u8 (more : Int)), (4, ptr h.next), (9, .slice a4 (encQ r).length c4), (10, ptr h5.next)] ++ l ∧ Ext0 h10 h') ?_ ?_
  · refine K_cond rfl (fun hc => ?_) (fun _ => K_skip ⟨_, rfl, Ext.refl _ _⟩)
    have h0 : (takeQ xs).2 = 0 := of_decide_eq_true hc
    obtain ⟨ky, ny⟩ := hany h0
    have Ly := encQ_len ky
    refine K_reg (Wops_ldA (l := RqV (takeQ xs).1 ba8 (takeQ xs).1.body.length bc8 aa8 (takeQ xs).1.args.length ac8) rfl gy (by simp [RqV]) rfl (Wops_call rfl (C19 ky.fit ob10.sl oa10.sl) ?_))
    rintro _ h11 ⟨a11, c11, rfl, o11, x11, b11⟩
    have T2 := C14 o11.sl (by omega) (encQ_byte ky) (fun i q => o11.lt q)
    rw [takeQ_enc ky, ny] at T2
    refine Wops_call rfl T2 ?_
    rintro _ h12 ⟨x12, ba12, bc12, aa12, ac12, rfl, ob12, oa12, bb12, ab12⟩
    refine Wops_run rfl rfl (Wops_run rfl rfl (Wops_run rfl rfl (Wops_new fun h13 n13 x13 g13 => Wops_st (l := RqV (takeQ xs).1 ba12 (takeQ xs).1.body.length bc12 aa12 (takeQ xs).1.args.length ac12) rfl rfl rfl rfl g13 (by simp) (by simp [RqV, isCell]) fun h14 n14 x14 g14 => Wops_run rfl rfl (K_fin [(1, _), (2, _), (4, _), (9, _), (10, _), (12, _), (14, _), (15, _)] rfl (?_)))))
    have z11 := x11.next
    have z12 := x12.next
    have z13 := x13.next
    have x1014 : Ext0 h10 h14 := ((x11.trans x12).trans x13).then x14 fun i r => .inr (by omega)
    have gz : At h14 h12.next (.cells (RqV (takeQ xs).1 ba12 (takeQ xs).1.body.length bc12 aa12 (takeQ xs).1.args.length ac12) 0 false) := g14
    have ob14 := (ob12.ext x13).ext x14 fun i r => by have := ob12.lt r; omega
    have oa14 := (oa12.ext x13).ext x14 fun i r => by have := oa12.lt r; omega
    have kya := ky.a
    refine K_reg (Wops_run rfl rfl (Wops_as (w := .bool false) rfl rfl (by simp) (Wops_run rfl rfl (Wops_go rfl (Wops_ldA (l := RqV (takeQ xs).1 ba8 (takeQ xs).1.body.length bc8 aa8 (takeQ xs).1.args.length ac8) rfl (gy.ext x1014) (by simp [RqV]) rfl (Wops_go rfl (Wops_ldA (l := RqV (takeQ xs).1 ba12 (takeQ xs).1.body.length bc12 aa12 (takeQ xs).1.args.length ac12) rfl gz (by simp [RqV]) rfl (Wops_go rfl (Wops_call rfl (C21 (ob10.ext x1014).sl (oa10.ext x1014).sl ob14.sl oa14.sl ky.nb ky.nb ky.bb ky.bb (by omega)) ?_)))))))))
    rintro _ h15 ⟨rfl, x15⟩
    refine Wops_go rfl (Wops_as (w := .bool false) rfl rfl (by simp) (Wops_run rfl rfl (K_fin [(1, _), (2, _), (4, _), (9, _), (10, _), (86, _)] rfl (?_))))
    exact K_cond rfl (fun hc => by cases hc) (fun _ => K_skip ⟨[_], rfl, x1014.trans x15⟩)
  rintro _ h15 ⟨l, rfl, x15⟩
  have x715 := x710.trans x15
  have gx := gx.ext x715
  have gr := gr.ext x715
  have I15 := I7.ext x715
  have ob15 := ob7.ext x715
  have oa15 := oa7.ext x715
  have o415 := o47.ext x715
  have z15 := x15.next
  -- a module
  refine K_ss (K_reg (Wops_run rfl rfl (Wops_ld (v := .int .i64 (r.kind : Int)) rfl gr rfl (Wops_as (w := .bool (decide (r.kind = 1))) rfl rfl (by rw [Value.bool.injEq, Bool.eq_iff_iff, beq_iff_eq, decide_eq_true_iff]; omega) (K_fin [(1, _), (2, _), (4, _), (9, _), (10, _), (89, _)] rfl (?_))))))
  refine K_scond rfl (fun hc => ?_) (fun hc => ?_)
  · have hk : r.kind = 1 := of_decide_eq_true hc
    have hbd : (normQ r).body = r.body := by unfold normQ; rw [hk]; rfl
    have sa := ob15.sl
    rw [bys_ints, hbd] at sa
    have sb := I15.s1
    rw [bys_ints] at sb
    refine K_ss (K_reg (Wops_run rfl rfl (Wops_ld (v := .slice ba5 (normQ r).body.length bc5) rfl gx rfl (Wops_toStr (n := (normQ r).body.length) rfl (by rw [hbd]; exact sa) (Wops_run rfl rfl (Wops_ld (v := .slice ba bn bc) rfl gr rfl (Wops_toStr rfl sb (Wops_streq (v := true) rfl rfl (by simp) (Wops_run rfl rfl (K_fin [(8, _)] rfl (?_)))))))))))
    exact K_sret (Told.mk _ rfl rfl)
  have hk1 : r.kind ≠ 1 := of_decide_eq_false hc
  -- cut
  refine K_sskip (K_reg (Wops_run rfl rfl (Wops_run rfl rfl (Wops_run rfl rfl (Wops_run rfl rfl (Wops_call rfl (C22 L0 (by omega)) ?_))))))
  rintro _ _ ⟨⟨i, hi, rfl⟩, rfl⟩
  have hsub := o415.sl.sub (i := 0) (j := i) (Nat.zero_le _) (by omega)
  rw [bys_sub, List.drop_zero, Nat.sub_zero] at hsub
  have T3 := C14 (n := i) hsub (by omega) (fun x hx => hbyte x (List.mem_of_mem_take hx)) (fun j q => o415.lt (shift_blk.1 q))
  have hcut := takeQ_cut k hk1 hi
  refine Wops_slV (lov := none) (hiv := some (.int .i64 (i : Int))) rfl rfl rfl o415.sl.ok (bounds_hi (by omega)) (Wops_call rfl T3 ?_)
  rintro _ h16 ⟨x16, ba16, bc16, aa16, ac16, rfl, ob16, oa16, bb16, ab16⟩
  rw [hcut]
  refine Wops_run rfl rfl (Wops_run rfl rfl (Wops_run rfl rfl (Wops_new fun h17 n17 x17 g17 => Wops_st (l := RqV (takeQ ((encQ r).take i)).1 ba16 (takeQ ((encQ r).take i)).1.body.length bc16 aa16 (takeQ ((encQ r).take i)).1.args.length ac16) rfl rfl rfl rfl g17 (by simp) (by simp [RqV, isCell]) fun h18 n18 x18 g18 => Wops_run rfl rfl (K_fin [(2, _), (4, _), (9, _), (10, _), (17, _)] rfl (?_)))))
  have z16 := x16.next
  have z17 := x17.next
  have z18 := x18.next
  have x1518 : Ext0 h15 h18 := (x16.trans x17).then x18 fun i r => .inr (by omega)
  -- one more
  refine K_reg (Wops_bslice (l := []) rfl rfl fun h19 n19 x19 g19 => ?_)
  refine Wops_run rfl rfl (Wops_app rfl rfl (OwS.new (n := 0) g19 rfl) rfl ((o415.ext x1518).ext x19).sl.first ⟨by omega, by omega⟩ (o415.sl.len) (bys_cell _) (by decide) fun h20 a20 c20 x20 o20 b20 => ?_)
  refine Wops_run rfl rfl (Wops_bslice (l := bys [more]) rfl rfl fun h21 n21 x21 g21 => ?_)
  refine Wops_app rfl rfl (o20.ext x21) rfl (OwS.new (n := 1) (c := 1) g21 rfl).sl.first ⟨by omega, by omega⟩ rfl rfl (by decide) fun h22 a22 c22 x22 o22 b22 => ?_
  rw [List.nil_append, ← bys_app] at o22
  have hb3 : ∀ x ∈ encQ r ++ [more], x < 256 := by
    intro x hx
    rcases List.mem_append.1 hx with hx | hx
    · exact hbyte x hx
    · rw [List.mem_singleton] at hx; omega
  refine Wops_call rfl (C14 o22.sl (by omega) hb3 (fun j q => o22.lt q)) ?_
  rintro _ h23 ⟨x23, ba23, bc23, aa23, ac23, rfl, ob23, oa23, bb23, ab23⟩
  rw [takeQ_more k hk1]
  have z19 := x19.next
  have z20 := x20.next
  have z21 := x21.next
  have z22 := x22.next
  have z23 := x23.next
  have b20' : ∀ i, Blk a20 i → h18.next ≤ i := fun i q => (b20 i q).elim (fun q => by rw [Blk.at] at q; omega) fun q => by omega
  have x1822 : Ext0 h18 h22 := ((x19.then x20 fun i q => .inr (by rw [Blk.at] at q; omega)).trans x21).then x22 fun i q => .inr (by have := b20' i q; omega)
  refine Wops_run rfl rfl (Wops_run rfl rfl (Wops_run rfl rfl (Wops_new fun h24 n24 x24 g24 => Wops_st (l := RqV (takeQ (encQ r ++ [more])).1 ba23 (takeQ (encQ r ++ [more])).1.body.length bc23 aa23 (takeQ (encQ r ++ [more])).1.args.length ac23) rfl rfl rfl rfl g24 (by simp) (by simp [RqV, isCell]) fun h25 n25 x25 g25 => Wops_run rfl rfl (K_fin [(4, _), (10, _), (17, _), (19, _)] rfl (?_)))))
  have z24 := x24.next
  have x1525 : Ext0 h15 h25 := ((((x1518.trans x1822).trans x23).trans x24)).then x25 fun i q => .inr (by omega)
  have gx := gx.ext x1525
  have gr := gr.ext x1525
  have I25 := I15.ext x1525
  have oa25 := oa15.ext x1525
  clear T1 T3 hsub
  -- handle and name
  refine K_join (fun e h' => ∃ b, e = [(4, ptr h.next), (10, ptr h5.next), (17, .int .i64 3), (19, .int .i64 2), (20, .bool b)] ∧ h25 = h' ∧ ((normQ r).han = r.han → (normQ r).name = r.name → b = true)) ?_ ?_
  · refine K_last (Wops_run rfl rfl (Wops_ld (v := .int .u64 ((normQ r).han : Int)) rfl gx rfl (Wops_run rfl rfl (Wops_ld (v := .int .u64 (r.han : Int)) rfl gr rfl ?_))))
    by_cases e1 : (normQ r).han = r.han
    case neg =>
      refine Wops_as (w := .bool false) rfl rfl (by simp; omega) ?_
      (repeat (first | refine Wops_skip rfl ?_ | refine Wops_run rfl rfl ?_))
      exact K_finL [(4, _), (10, _), (17, _), (19, _), (20, _)] rfl ⟨_, rfl, rfl, fun w => absurd w e1⟩
    refine Wops_as (w := .bool true) rfl rfl (by simp; omega) (Wops_run rfl rfl (Wops_go rfl (Wops_run rfl rfl (Wops_go rfl (Wops_ld (v := .string (strOf (normQ r).name)) rfl gx rfl (Wops_go rfl (Wops_run rfl rfl (Wops_go rfl (Wops_ld (v := .string (strOf r.name)) rfl gr rfl (Wops_go rfl (Wops_streq (v := decide ((normQ r).name = r.name)) rfl rfl (str_eq (norm_name r k.nb) k.nb) (Wops_run rfl rfl (Wops_run rfl rfl (K_finL [(4, _), (10, _), (17, _), (19, _), (20, _)] rfl (?_)))))))))))))))
    exact ⟨_, rfl, rfl, fun _ w => decide_eq_true w⟩
  rintro _ _ ⟨b, rfl, rfl, hb⟩
  refine K_ss (K_reg (Wops_run rfl rfl (Wops_ld (v := .int .i64 (r.kind : Int)) rfl gr rfl (K_fin [(4, _), (10, _), (17, _), (19, _), (20, _), (130, _)] rfl (?_)))))
  have key : ∀ l : Env, l = [(17, .int .i64 3), (19, .int .i64 2), (20, .bool true)] ∨ (∃ a b', l = [(4, a), (10, b'), (17, .int .i64 3), (19, .int .i64 2), (20, .bool true), (162, .bool false)]) →
      ∀ (hh : Heap) (kx : Nat → Env → Heap → Prop), W Try.prog (.seq (.region [⟨some 169, none, .mov (.t 20)⟩, ⟨some 170, none, .mov (.t 169)⟩, ⟨some 171, some (170, true), .mov (.t 17)⟩, ⟨some 172, some (170, true), .bin .eql (.t 171) (.c (.int .i64 3))⟩, ⟨some 173, none, .pick (.t 170) (.t 172) (.c (.bool false))⟩, ⟨some 174, none, .mov (.t 173)⟩, ⟨some 175, some (174, true), .mov (.t 19)⟩, ⟨some 176, some (174, true), .bin .eql (.t 175) (.c (.int .i64 2))⟩, ⟨some 177, none, .pick (.t 174) (.t 176) (.c (.bool false))⟩, ⟨some 8, none, .mov (.t 177)⟩] [8]) .ret) l hh (K3 (Told F4.res fun v _ => v = .bool true) kx (Told F4.res fun v _ => v = .bool true)) := by
    intro l hl hh kx
    rcases hl with rfl | ⟨_, _, rfl⟩
    · refine K_reg (Wops_run rfl rfl (Wops_run rfl rfl (Wops_go rfl (Wops_run rfl rfl (Wops_go rfl (Wops_as (w := .bool true) rfl rfl (by simp) (Wops_run rfl rfl (Wops_run rfl rfl (Wops_go rfl (Wops_run rfl rfl (Wops_go rfl (Wops_as (w := .bool true) rfl rfl (by simp) (Wops_run rfl rfl (Wops_run rfl rfl (K_fin [(8, _)] rfl (?_))))))))))))))))
      exact K_ret (Told.mk _ rfl rfl)
    · refine K_reg (Wops_run rfl rfl (Wops_run rfl rfl (Wops_go rfl (Wops_run rfl rfl (Wops_go rfl (Wops_as (w := .bool true) rfl rfl (by simp) (Wops_run rfl rfl (Wops_run rfl rfl (Wops_go rfl (Wops_run rfl rfl (Wops_go rfl (Wops_as (w := .bool true) rfl rfl (by simp) (Wops_run rfl rfl (Wops_run rfl rfl (K_fin [(8, _)] rfl (?_))))))))))))))))
      exact K_ret (Told.mk _ rfl rfl)
  refine K_jblock (fun e h' => e = [(17, .int .i64 3), (19, .int .i64 2), (20, .bool true)] ∨ (∃ a b', e = [(4, a), (10, b'), (17, .int .i64 3), (19, .int .i64 2), (20, .bool true), (162, .bool false)])) ?_ (fun e h' he => key e he h' _)
  have kk1 := k.k1
  have kk6 := k.k6
  have ka := k.a
  have han : r.args.length = an := by simpa using I25.s2.len
  have hh : r.kind = 2 ∨ r.kind = 3 ∨ r.kind = 4 ∨ r.kind = 5 ∨ r.kind = 6 := by omega
  rcases hh with hk | hk | hk | hk | hk
  · have hN : normQ r = ⟨2, r.tok, r.han, r.name, [], [], 0, 0⟩ := by unfold normQ; rw [hk]; rfl
    refine K_reg (Wops_as (w := .bool false) rfl rfl (by rw [hk]; rfl) (Wops_run rfl rfl (K_fin [(4, _), (10, _), (17, _), (19, _), (20, _), (130, _), (131, _)] rfl (?_))))
    refine K_cond rfl (fun hc => by cases hc) (fun _ => ?_)
    refine K_reg (Wops_as (w := .bool false) rfl rfl (by rw [hk]; rfl) (Wops_run rfl rfl (K_fin [(4, _), (10, _), (17, _), (19, _), (20, _), (130, _), (138, _)] rfl (?_))))
    refine K_cond rfl (fun hc => by cases hc) (fun _ => ?_)
    refine K_reg (Wops_as (w := .bool false) rfl rfl (by rw [hk]; rfl) (Wops_run rfl rfl (K_fin [(4, _), (10, _), (17, _), (19, _), (20, _), (130, _), (155, _)] rfl (?_))))
    refine K_cond rfl (fun hc => by cases hc) (fun _ => ?_)
    refine K_reg (Wops_as (w := .bool false) rfl rfl (by rw [hk]; rfl) (Wops_run rfl rfl (K_fin [(4, _), (10, _), (17, _), (19, _), (20, _), (162, _)] rfl (?_))))
    refine K_cond rfl (fun hc => by cases hc) (fun _ => ?_)
    have hbt : b = true := hb (by rw [hN]) (by rw [hN])
    subst hbt
    exact K_skip (.inr ⟨_, _, rfl⟩)
  · have hN : normQ r = ⟨3, r.tok, 0, r.name, [], [], 0, 0⟩ := by unfold normQ; rw [hk]; rfl
    refine K_reg (Wops_as (w := .bool true) rfl rfl (by rw [hk]; rfl) (Wops_run rfl rfl (K_fin [(4, _), (10, _), (17, _), (19, _), (20, _), (130, _), (131, _)] rfl (?_))))
    refine K_cond rfl (fun _ => ?_) (fun hc => by cases hc)
    have hE : (normQ r).name = r.name := by rw [hN]
    refine K_last (Wops_run rfl rfl (Wops_ld (v := .string (strOf (normQ r).name)) rfl gx rfl (Wops_run rfl rfl (Wops_ld (v := .string (strOf r.name)) rfl gr rfl (Wops_streq (v := true) rfl rfl (by rw [hE]; simp) (Wops_run rfl rfl (K_finL [(17, _), (19, _), (20, _)] rfl (?_))))))))
    exact .inl rfl
  · have hN : normQ r = ⟨4, r.tok, r.han, r.name, [], r.args, r.tic, 0⟩ := by unfold normQ; rw [hk]; rfl
    refine K_reg (Wops_as (w := .bool false) rfl rfl (by rw [hk]; rfl) (Wops_run rfl rfl (K_fin [(4, _), (10, _), (17, _), (19, _), (20, _), (130, _), (131, _)] rfl (?_))))
    refine K_cond rfl (fun hc => by cases hc) (fun _ => ?_)
    refine K_reg (Wops_as (w := .bool true) rfl rfl (by rw [hk]; rfl) (Wops_run rfl rfl (K_fin [(4, _), (10, _), (17, _), (19, _), (20, _), (130, _), (138, _)] rfl (?_))))
    refine K_cond rfl (fun _ => ?_) (fun hc => by cases hc)
    have hbt : b = true := hb (by rw [hN]) (by rw [hN])
    subst hbt
    have hA : (normQ r).args = r.args := by rw [hN]
    have hT : (normQ r).tic = r.tic := by rw [hN]
    have hAl : (normQ r).args.length ≤ 8 := by rw [hA]; exact ka
    refine K_last (Wops_run rfl rfl (Wops_run rfl rfl (Wops_go rfl (Wops_run rfl rfl (Wops_go rfl (Wops_ld (v := .slice aa5 (normQ r).args.length ac5) rfl gx rfl (Wops_go rfl (Wops_run rfl rfl (Wops_go rfl (Wops_ld (v := .slice aa an ac) rfl gr rfl (Wops_go rfl (Wops_call rfl (C23 oa25.sl I25.s2 (by omega)) ?_))))))))))))
    rintro _ _ ⟨rfl, rfl⟩
    rw [decide_eq_true hA]
    refine Wops_run rfl rfl (Wops_run rfl rfl (Wops_go rfl (Wops_run rfl rfl (Wops_go rfl (Wops_ld (v := .int .u64 ((normQ r).tic : Int)) rfl gx rfl (Wops_go rfl (Wops_run rfl rfl (Wops_go rfl (Wops_ld (v := .int .u64 (r.tic : Int)) rfl gr rfl (Wops_go rfl (Wops_as (w := .bool true) rfl rfl (by rw [hT]; simp) (Wops_run rfl rfl (Wops_run rfl rfl (K_finL [(17, _), (19, _), (20, _)] rfl (?_)))))))))))))))
    exact .inl rfl
  · have hN : normQ r = ⟨5, r.tok, r.han, [], [], [], 0, 0⟩ := by unfold normQ; rw [hk]; rfl
    refine K_reg (Wops_as (w := .bool false) rfl rfl (by rw [hk]; rfl) (Wops_run rfl rfl (K_fin [(4, _), (10, _), (17, _), (19, _), (20, _), (130, _), (131, _)] rfl (?_))))
    refine K_cond rfl (fun hc => by cases hc) (fun _ => ?_)
    refine K_reg (Wops_as (w := .bool false) rfl rfl (by rw [hk]; rfl) (Wops_run rfl rfl (K_fin [(4, _), (10, _), (17, _), (19, _), (20, _), (130, _), (138, _)] rfl (?_))))
    refine K_cond rfl (fun hc => by cases hc) (fun _ => ?_)
    refine K_reg (Wops_as (w := .bool true) rfl rfl (by rw [hk]; rfl) (Wops_run rfl rfl (K_fin [(4, _), (10, _), (17, _), (19, _), (20, _), (130, _), (155, _)] rfl (?_))))
    refine K_cond rfl (fun _ => ?_) (fun hc => by cases hc)
    have hE : (normQ r).han = r.han := by rw [hN]
    refine K_last (Wops_run rfl rfl (Wops_ld (v := .int .u64 ((normQ r).han : Int)) rfl gx rfl (Wops_run rfl rfl (Wops_ld (v := .int .u64 (r.han : Int)) rfl gr rfl (Wops_as (w := .bool true) rfl rfl (by rw [hE]; simp) (Wops_run rfl rfl (K_finL [(17, _), (19, _), (20, _)] rfl (?_))))))))
    exact .inl rfl
  · have hN : normQ r = ⟨6, r.tok, 0, [], [], [], 0, r.oth⟩ := by unfold normQ; rw [hk]; rfl
    refine K_reg (Wops_as (w := .bool false) rfl rfl (by rw [hk]; rfl) (Wops_run rfl rfl (K_fin [(4, _), (10, _), (17, _), (19, _), (20, _), (130, _), (131, _)] rfl (?_))))
    refine K_cond rfl (fun hc => by cases hc) (fun _ => ?_)
    refine K_reg (Wops_as (w := .bool false) rfl rfl (by rw [hk]; rfl) (Wops_run rfl rfl (K_fin [(4, _), (10, _), (17, _), (19, _), (20, _), (130, _), (138, _)] rfl (?_))))
    refine K_cond rfl (fun hc => by cases hc) (fun _ => ?_)
    refine K_reg (Wops_as (w := .bool false) rfl rfl (by rw [hk]; rfl) (Wops_run rfl rfl (K_fin [(4, _), (10, _), (17, _), (19, _), (20, _), (130, _), (155, _)] rfl (?_))))
    refine K_cond rfl (fun hc => by cases hc) (fun _ => ?_)
    refine K_reg (Wops_as (w := .bool true) rfl rfl (by rw [hk]; rfl) (Wops_run rfl rfl (K_fin [(4, _), (10, _), (17, _), (19, _), (20, _), (162, _)] rfl (?_))))
    refine K_cond rfl (fun _ => ?_) (fun hc => by cases hc)
    have hE : (normQ r).oth = r.oth := by rw [hN]
    refine K_last (Wops_run rfl rfl (Wops_ld (v := .int .u64 ((normQ r).oth : Int)) rfl gx rfl (Wops_run rfl rfl (Wops_ld (v := .int .u64 (r.oth : Int)) rfl gr rfl (Wops_as (w := .bool true) rfl rfl (by rw [hE]; simp) (Wops_run rfl rfl (K_finL [(17, _), (19, _), (20, _)] rfl (?_))))))))
    exact .inl rfl

set_option maxRecDepth 100000 in
theorem reqBack_fn {b : Base} {N : Nat} {vs : List Value} (h0 : 0 < N) (hd : ∀ id l, b id = some l → id < N) (hb : b 0 = none) (hG : ArgsG Try.prog b 4 [26, 3, 5, 23] vs) : Fn Try.prog 4 vs (heapIn b N) fun v _ => v = .bool true := by
  obtain ⟨v, r, rfl, g, hr⟩ := ArgsG_cons hG
  obtain ⟨v2, r2, rfl, g2, hr2⟩ := ArgsG_cons hr
  obtain ⟨v3, r3, rfl, g3, hr3⟩ := ArgsG_cons hr2
  obtain ⟨v4, r4, rfl, g4, hr4⟩ := ArgsG_cons hr3
  obtain rfl := ArgsG_nil hr4
  obtain ⟨kd, r, ba, bn, bc, aa, an, ac, rfl, I, _⟩ := open_req h0 hd hb g
  obtain ⟨ci, hci, _⟩ := GV_int Try.underlying3 (GA_int Try.underlying3 g2)
  obtain rfl : v2 = .int .i64 ci := by simpa using hci
  obtain ⟨mo, hmo, hmw⟩ := GV_int Try.underlying5 (GA_int Try.underlying5 g3)
  obtain rfl : v3 = .int .u8 mo := by simpa using hmo
  obtain ⟨xb, xn, xc, xs, hv4, sx, hxn, hxs⟩ := GV_ints h0 hd hb Try.underlying23 Try.underlying5 cells5 (GA_slice Try.underlying23 g4)
  obtain rfl : v4 = .slice xb xn xc := by simpa using hv4
  have w3 := wf_u8 hmw
  obtain ⟨m, rfl⟩ : ∃ m : Nat, mo = m := ⟨mo.toNat, by omega⟩
  have s1 := sx.sl
  rw [ints_nat fun x hx => (wf_u8 (hxs x hx)).1] at s1
  have hbb : ∀ v ∈ xs.map Int.toNat, v < 256 := by
    intro v hv
    obtain ⟨x, hx, rfl⟩ := List.mem_map.1 hv
    have := wf_u8 (hxs x hx); omega
  exact C4 I (by omega) s1 hbb sx.lt
end Go.Dx.SYtkppbmhpcjjceaa
