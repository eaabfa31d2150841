/- Instances with one table: Copy. -/
import Derived.Test.YtpogcjdenefhlaaIn4
namespace Go.Dx.SYtpogcjdenefhlaa
open Go.Proofs
set_option linter.unusedVariables false
set_option linter.unusedSimpArgs false

/-- An instance's parts lie apart. -/
structure Dist (p : Nat) (d : ID) : Prop where
  m : ∀ i, Blk d.ma i → i ≠ p ∧ ¬ Blk d.ta i ∧ ¬ Blk d.t1 i ∧ ¬ Blk d.ga i ∧ ¬ Blk d.ea i ∧ ¬ Blk d.da i
  t : ∀ i, Blk d.ta i → i ≠ p ∧ ¬ Blk d.t1 i ∧ ¬ Blk d.ga i ∧ ¬ Blk d.ea i ∧ ¬ Blk d.da i
  o : ∀ i, Blk d.t1 i → i ≠ p ∧ ¬ Blk d.ga i ∧ ¬ Blk d.ea i ∧ ¬ Blk d.da i
  g : ∀ i, Blk d.ga i → i ≠ p ∧ ¬ Blk d.ea i ∧ ¬ Blk d.da i
  e : ∀ i, Blk d.ea i → i ≠ p ∧ ¬ Blk d.da i
  d : ∀ i, Blk d.da i → i ≠ p

set_option maxHeartbeats 4000000 in
/-- inst.Copy -/
theorem C16t {h : Heap} {p : Nat} {d : ID} (i : InP h p d) : Fn Try.prog 16 [ptr p] h fun v h' => ∃ q ma mc ta tc t1 t1c ga gc ea ec da dc, v = ptr q ∧ Ext0 h h' ∧
    InP h' q ⟨d.mod, d.bl, ma, mc, d.bs, ta, tc, t1, t1c, d.tt, ga, gc, d.gs, ea, ec, d.es, da, dc, d.ds⟩ ∧ Dist q ⟨d.mod, d.bl, ma, mc, d.bs, ta, tc, t1, t1c, d.tt, ga, gc, d.gs, ea, ec, d.es, da, dc, d.ds⟩ ∧
    ∀ i, Own q ⟨d.mod, d.bl, ma, mc, d.bs, ta, tc, t1, t1c, d.tt, ga, gc, d.gs, ea, ec, d.es, da, dc, d.ds⟩ i → h.next ≤ i := by
  obtain ⟨⟨tl, g⟩, s1, st, st1, s2, s3, s4, ml, mcl, blc, bb, tb, gb, eb, db⟩ := i
  unfold ID.cs at g
  obtain ⟨mod, bl, ma, mc, bs, ta, tc, t1, t1c, tt, ga, gc, gs, ea, ec, es, da, dc, ds⟩ := d
  simp only at g s1 st st1 s2 s3 s4 ml mcl blc bb tb gb eb db ⊢
  obtain ⟨a0, a1, a2, a3, a4, a5, a6, a7, a8, a9, a10, a11, a12, rfl⟩ := thirteen ml
  have gl := g.lt
  refine fnK F16.fok rfl ?_
  refine K_reg (Wops_run rfl rfl (K_fin [(0, _)] rfl (?_)))
  refine K_ss (K_reg (Wops_run rfl rfl (Wops_run rfl rfl (K_fin [(0, _), (6, _)] rfl (?_)))))
  refine K_scond rfl (fun hc => by cases hc) (fun _ => ?_)
  have hcell : ∀ (m t gg e d : Value), isCell m = true → isCell t = true → isCell gg = true → isCell e = true → isCell d = true → ([a0, a1, a2, a3, a4, a5, a6, a7, a8, a9, a10, a11, a12] ++ [bl, m, t, gg, e, d]).all isCell = true := by
    intro m t gg e d h1 h2 h3 h4 h5
    rw [List.all_append, mcl]
    simp [blc, h1, h2, h3, h4, h5]
  refine K_sskip (K_reg (Wops_run rfl rfl (Wops_run rfl rfl (Wops_ldA rfl g (by simp) rfl (Wops_new fun h1 n1 x1 g1 => ?_)))))
  refine Wops_st (l := [a0, a1, a2, a3, a4, a5, a6, a7, a8, a9, a10, a11, a12, bl, .slice ma bs.length mc, .slice ta 1 tc, .slice ga gs.length gc, .slice ea es.length ec, .slice da ds.length dc]) rfl rfl rfl rfl g1 (by simp) (hcell _ _ _ _ _ rfl rfl rfl rfl rfl) fun h2 n2 x2 g2 => ?_
  refine K_fin [(0, _), (3, _)] rfl (?_)
  replace g2 : At h2 h.next (.cells [a0, a1, a2, a3, a4, a5, a6, a7, a8, a9, a10, a11, a12, bl, .slice ma bs.length mc, .slice ta 1 tc, .slice ga gs.length gc, .slice ea es.length ec, .slice da ds.length dc] 0 false) := g2
  have x02 : Ext0 h h2 := x1.then x2 fun j r => .inr (by omega)
  have gi := g.ext x02
  refine K_reg (Wops_run rfl rfl (Wops_run rfl rfl (Wops_run rfl rfl (Wops_ld (v := .slice ma bs.length mc) rfl gi rfl (Wops_run rfl rfl (Wops_run rfl rfl (Wops_run rfl rfl (Wops_ld (v := .slice ga gs.length gc) rfl gi rfl ?_))))))))
  refine Wops_run rfl rfl (Wops_run rfl rfl (Wops_run rfl rfl (Wops_ld (v := .slice ea es.length ec) rfl gi rfl (Wops_run rfl rfl (Wops_run rfl rfl (Wops_run rfl rfl (Wops_ld (v := .slice da ds.length dc) rfl gi rfl ?_)))))))
  refine Wops_call rfl (C30 (s1.sl.ext x02) (ints_cell _ _) bb) ?_
  rintro _ h3 ⟨a3', c3, rfl, o3, x3, b3⟩
  have gi3 := gi.ext x3
  refine Wops_chk rfl rfl gi3 (v := .slice ga gs.length gc) rfl s2.sl.same (Wops_chk rfl rfl gi3 (v := .slice ea es.length ec) rfl s3.sl.same (Wops_chk rfl rfl gi3 (v := .slice da ds.length dc) rfl s4.sl.same ?_))
  refine Wops_call rfl (C31 ((s2.sl.ext x02).ext x3) (ints_cell _ _) (by omega)) ?_
  rintro _ h4 ⟨a4', c4, rfl, o4, x4, b4⟩
  have gi4 := gi3.ext x4
  refine Wops_chk rfl rfl gi4 (v := .slice ea es.length ec) rfl s3.sl.same (Wops_chk rfl rfl gi4 (v := .slice da ds.length dc) rfl s4.sl.same ?_)
  refine Wops_call rfl (C32 (((s3.sl.ext x02).ext x3).ext x4) (bools_cell _) (by omega)) ?_
  rintro _ h5 ⟨a5', c5, rfl, o5, x5, b5⟩
  have gi5 := gi4.ext x5
  refine Wops_chk rfl rfl gi5 (v := .slice da ds.length dc) rfl s4.sl.same ?_
  refine Wops_call rfl (C32 ((((s4.sl.ext x02).ext x3).ext x4).ext x5) (bools_cell _) (by omega)) ?_
  rintro _ h6 ⟨a6', c6, rfl, o6, x6, b6⟩
  have z1 := x1.next
  have z2 := x2.next
  have z3 := x3.next
  have z4 := x4.next
  have z5 := x5.next
  have z6 := x6.next
  have gn := (((g2.ext x3).ext x4).ext x5).ext x6
  refine Wops_run rfl rfl (Wops_st (l := [.slice a3' bs.length c3]) rfl rfl rfl rfl gn (by simp) rfl fun h7 n7 x7 g7 => ?_)
  refine Wops_run rfl rfl (Wops_st (l := [.slice a4' gs.length c4]) rfl rfl rfl rfl g7 (by simp [putL]) rfl fun h8 n8 x8 g8 => ?_)
  refine Wops_run rfl rfl (Wops_st (l := [.slice a5' es.length c5]) rfl rfl rfl rfl g8 (by simp [putL]) rfl fun h9 n9 x9 g9 => ?_)
  refine Wops_run rfl rfl (Wops_st (l := [.slice a6' ds.length c6]) rfl rfl rfl rfl g9 (by simp [putL]) rfl fun h10 n10 x10 g10 => ?_)
  refine K_fin [(0, _), (3, _)] rfl (?_)
  replace g10 : At h10 h.next (.cells [a0, a1, a2, a3, a4, a5, a6, a7, a8, a9, a10, a11, a12, bl, .slice a3' bs.length c3, .slice ta 1 tc, .slice a4' gs.length c4, .slice a5' es.length c5, .slice a6' ds.length c6] 0 false) := g10
  have x610 := ((x7.trans x8).trans x9).trans x10
  have x06 : Ext0 h h6 := (((x02.trans x3).trans x4).trans x5).trans x6
  have x010 : Ext0 h h10 := x06.then x610 fun j r => .inr (by omega)
  have gi10 := g.ext x010
  refine K_reg (Wops_run rfl rfl (Wops_run rfl rfl (Wops_run rfl rfl (Wops_ld (v := .slice ta 1 tc) rfl gi10 rfl (Wops_call rfl (C33 (st.sl.ext x010) rfl (by omega)) ?_)))))
  rintro _ h11 ⟨a11', c11, rfl, o11, x11, b11⟩
  refine Wops_run rfl rfl (Wops_st (l := [.slice a11' 1 c11]) rfl rfl rfl rfl (g10.ext x11) (by simp) rfl fun h12 n12 x12 g12 => ?_)
  replace g12 : At h12 h.next (.cells [a0, a1, a2, a3, a4, a5, a6, a7, a8, a9, a10, a11, a12, bl, .slice a3' bs.length c3, .slice a11' 1 c11, .slice a4' gs.length c4, .slice a5' es.length c5, .slice a6' ds.length c6] 0 false) := g12
  have z11 := x11.next
  have z610 := x610.next
  have o12 := o11.ext x12 fun j r e => by have := b11 j r; omega
  have x012 : Ext0 h h12 := (x010.trans x11).then x12 fun j r => .inr (by omega)
  refine K_fin [(0, _), (3, _)] rfl (?_)
  refine K_ss (K_reg (Wops_run rfl rfl (Wops_ld (v := .slice a11' 1 c11) rfl g12 rfl (Wops_run rfl rfl (Wops_run rfl rfl (K_fin [(0, _), (3, _), (42, _), (43, _)] rfl (?_)))))))
  refine K_sblock ?_
  refine K_loop (fun k e h' => (k = 1 ∧ e = [(0, ptr p), (3, ptr h.next), (42, .int .i64 1), (43, .int .i64 0)] ∧ h' = h12) ∨ (k = 0 ∧ e = [(0, ptr p), (3, ptr h.next), (42, .int .i64 1), (43, .int .i64 1)] ∧ ∃ a13 c13, Ext (Blk a11') h12 h' ∧ OwS h' 1 a11' 1 c11 [.slice a13 tt.length c13] ∧ OwS h' 1 a13 tt.length c13 (ints .u64 tt) ∧ ∀ i, Blk a13 i → h12.next ≤ i)) ?_ (k := 1) (.inl ⟨rfl, rfl, rfl⟩)
  rintro k e h' (⟨rfl, rfl, rfl⟩ | ⟨rfl, rfl, a13, c13, x14, o14, o13, b13⟩)
  · refine K_reg (Wops_run rfl rfl (K_fin [(0, _), (3, _), (42, _), (43, _), (44, _)] rfl (?_)))
    refine K_scond rfl (fun _ => ?_) (fun hc => by cases hc)
    refine K_sskip (K_sblock ?_)
    refine K_reg (Wops_run rfl rfl (Wops_run rfl rfl (K_fin [(0, _), (3, _), (4, _), (42, _), (43, _)] rfl (?_))))
    refine K_last (Wops_run rfl rfl ((Wops_ld (v := .slice a11' 1 c11) rfl g12 rfl ?_)))
    refine Wops_run rfl rfl (Wops_run rfl rfl (Wops_run rfl rfl (Wops_run rfl rfl ((Wops_ld (v := .slice ta 1 tc) rfl (g.ext x012) rfl ?_)))))
    refine Wops_run rfl rfl ((Wops_idx (u := .slice t1 tt.length t1c) rfl rfl (st.sl.ext x012) ⟨by omega, by omega⟩ rfl fun p => ?_))
    refine (Wops_call rfl (C31 (st1.sl.ext x012) (ints_cell _ _) (by omega)) ?_)
    rintro _ h13 ⟨a13, c13, rfl, o13, x13, b13⟩
    refine Wops_chk rfl rfl (g12.ext x13) (v := .slice a11' 1 c11) rfl o12.sl.same ?_
    refine Wops_put1 rfl rfl (o12.ext x13) ⟨by omega, by omega⟩ (fun _ => rfl) rfl rfl fun p h14 n14 x14 o14 => ?_
    refine K_finL [(0, _), (3, _), (42, _), (43, _)] rfl (?_)
    refine K_last (Wops_run rfl rfl (Wops_run rfl rfl (K_finL [(0, _), (3, _), (42, _), (43, _)] rfl (?_))))
    exact ⟨0, by omega, .inr ⟨rfl, rfl, a13, c13, (x13.of0).then x14 fun j r => .inl r, o14, o13.ext x14 fun j r e => by have := b13 j r; have := o12.lt e; omega, b13⟩⟩
  refine K_reg (Wops_run rfl rfl (K_fin [(0, _), (3, _), (42, _), (43, _), (44, _)] rfl (?_)))
  refine K_scond rfl (fun hc => by cases hc) (fun _ => ?_)
  refine K_sexit (bx_same ?_)
  refine K_reg (Wops_run rfl rfl (K_fin [(2, _)] rfl (?_)))
  have nb : ∀ {a : Option Addr} {k : Nat}, (∀ j, Blk a j → k ≤ j) → h2.next ≤ k → ∀ j, Blk a j → ¬ j = h.next := fun hb hk j r e => by have := hb j r; omega
  have e3 := (((((((o3.ext x4).ext x5).ext x6).ext x610 (nb b3 (by omega))).ext x11).ext x12 (nb b3 (by omega))).ext x14 fun j r e => by have := b11 j e; have := o3.lt r; omega)
  have e4 := ((((((o4.ext x5).ext x6).ext x610 (nb b4 (by omega))).ext x11).ext x12 (nb b4 (by omega))).ext x14 fun j r e => by have := b11 j e; have := o4.lt r; omega)
  have e5 := (((((o5.ext x6).ext x610 (nb b5 (by omega))).ext x11).ext x12 (nb b5 (by omega))).ext x14 fun j r e => by have := b11 j e; have := o5.lt r; omega)
  have e6 := ((((o6.ext x610 (nb b6 (by omega))).ext x11).ext x12 (nb b6 (by omega))).ext x14 fun j r e => by have := b11 j e; have := o6.lt r; omega)
  have gf := g12.ext x14 fun e => by have := b11 _ e; omega
  have u3 : ∀ i, Blk a3' i → h2.next ≤ i ∧ i < h3.next := fun i r => ⟨b3 i r, o3.lt r⟩
  have u4 : ∀ i, Blk a4' i → h3.next ≤ i ∧ i < h4.next := fun i r => ⟨b4 i r, o4.lt r⟩
  have u5 : ∀ i, Blk a5' i → h4.next ≤ i ∧ i < h5.next := fun i r => ⟨b5 i r, o5.lt r⟩
  have u6 : ∀ i, Blk a6' i → h5.next ≤ i ∧ i < h6.next := fun i r => ⟨b6 i r, o6.lt r⟩
  have u11 : ∀ i, Blk a11' i → h10.next ≤ i ∧ i < h11.next := fun i r => ⟨b11 i r, o11.lt r⟩
  refine K_ret (Told.mk _ rfl ⟨h.next, a3', c3, a11', c11, a13, c13, a4', c4, a5', c5, a6', c6, rfl, x012.then x14 fun j r => .inr (by have := u11 j r; omega), ⟨⟨[], gf⟩, e3, o14, o13, e4, e5, e6, rfl, mcl, blc, bb, tb, gb, eb, db⟩, ⟨?_, ?_, ?_, ?_, ?_, ?_⟩, ?_⟩)
  · exact fun i r => ⟨by have := u3 i r; omega, fun e => by have := u3 i r; have := u11 i e; omega, fun e => by have := u3 i r; have := b13 i e; omega, fun e => by have := u3 i r; have := u4 i e; omega, fun e => by have := u3 i r; have := u5 i e; omega, fun e => by have := u3 i r; have := u6 i e; omega⟩
  · exact fun i r => ⟨by have := u11 i r; omega, fun e => by have := u11 i r; have := b13 i e; omega, fun e => by have := u11 i r; have := u4 i e; omega, fun e => by have := u11 i r; have := u5 i e; omega, fun e => by have := u11 i r; have := u6 i e; omega⟩
  · exact fun i r => ⟨by have := b13 i r; omega, fun e => by have := b13 i r; have := u4 i e; omega, fun e => by have := b13 i r; have := u5 i e; omega, fun e => by have := b13 i r; have := u6 i e; omega⟩
  · exact fun i r => ⟨by have := u4 i r; omega, fun e => by have := u4 i r; have := u5 i e; omega, fun e => by have := u4 i r; have := u6 i e; omega⟩
  · exact fun i r => ⟨by have := u5 i r; omega, fun e => by have := u5 i r; have := u6 i e; omega⟩
  · exact fun i r => by have := u6 i r; omega
  · rintro i (r | r | r | r | r | r | r)
    · omega
    · have := u3 i r; omega
    · have := u11 i r; omega
    · have := b13 i r; omega
    · have := u4 i r; omega
    · have := u5 i r; omega
    · have := u6 i r; omega
/-- Copy of none -/
theorem C16nil {h : Heap} : Fn Try.prog 16 [.pointer none] h fun v h' => v = .pointer none ∧ h = h' := by
  refine fnK F16.fok rfl ?_
  refine K_reg (Wops_run rfl rfl (K_fin [(0, _)] rfl (?_)))
  refine K_ss (K_reg (Wops_run rfl rfl (Wops_run rfl rfl (K_fin [(0, _), (6, _)] rfl (?_)))))
  refine K_scond rfl (fun _ => ?_) (fun hc => by cases hc)
  refine K_ss (K_reg (Wops_run rfl rfl (K_fin [(2, _)] rfl (?_))))
  exact K_sret (Told.mk _ rfl ⟨rfl, rfl⟩)
theorem C17nn {h : Heap} : Fn Try.prog 17 [.pointer none, .pointer none] h fun v h' => v = .bool true ∧ h = h' := by
  refine fnK F17.fok rfl ?_
  refine K_reg (Wops_run rfl rfl (K_fin [(0, _), (1, _)] rfl (?_)))
  refine K_ss (K_reg (Wops_run rfl rfl (Wops_run rfl rfl (Wops_run rfl rfl (Wops_skip rfl (Wops_skip rfl (Wops_run rfl rfl (K_fin [(0, _), (1, _), (10, _)] rfl (?_)))))))))
  refine K_scond rfl (fun _ => ?_) (fun hc => by cases hc)
  refine K_ss (K_reg (Wops_run rfl rfl (Wops_run rfl rfl (Wops_run rfl rfl (Wops_run rfl rfl (K_fin [(4, _)] rfl (?_)))))))
  exact K_sret (Told.mk _ rfl ⟨rfl, rfl⟩)
end Go.Dx.SYtpogcjdenefhlaa
