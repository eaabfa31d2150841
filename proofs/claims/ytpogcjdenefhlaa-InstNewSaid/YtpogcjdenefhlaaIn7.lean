/- Instances of made modules: New; what is turned in one. -/
import Derived.Test.YtpogcjdenefhlaaIn6
namespace Go.Dx.SYtpogcjdenefhlaa
open Go.Proofs
set_option linter.unusedVariables false
set_option linter.unusedSimpArgs false

theorem gl_win {h : Heap} {d : LD} (q : Lay h d) : ∀ i : Nat, i < 2 → ∃ (ty : Int) (ii : Nat) (op vv : Int), ((glC d.i0 d.i1).drop (0 + (i : Int).toNat * 3)).take 3 = [.int .u8 ty, .bool true, .slice (some ⟨ii, 0, none⟩) 2 1] ∧ At h ii (.cells (inC op vv) 6 false) ∧ (op = 65 ∨ op = 66) ∧ [d.v0, d.v1].take (i + 1) = [d.v0, d.v1].take i ++ [vv]
  | 0, _ => ⟨_, _, _, _, rfl, q.g0, .inl rfl, rfl⟩
  | 1, _ => ⟨_, _, _, _, rfl, q.g1, .inr rfl, rfl⟩
abbrev LD.ins (d : LD) (aa : Option Addr) (ac : Nat) (ma : Option Addr) (mc : Nat) (ta : Option Addr) (tc : Nat) (t1 : Option Addr) (t1c : Nat) (ga : Option Addr) (gc : Nat) (ea : Option Addr) (ec : Nat) (da : Option Addr) (dc : Nat) : ID :=
  ⟨d.mc, .slice aa d.fs.length ac, ma, mc, List.replicate d.N 0, ta, tc, t1, t1c, [0, 0, 0, 0], ga, gc, [d.v0, d.v1], ea, ec, [false, false], da, dc, [false, false]⟩
set_option maxHeartbeats 4000000 in
/-- inst.New -/
theorem C9 {h : Heap} {d : LD} {ws : Nat → List Int} (q : Lay h d) (hw : ∀ i, i < d.fs.length → CdW h d i (ws i)) : Fn Try.prog 9 [.agg ⟨d.mc⟩] h fun v h' => ∃ p aa ac L ma mc ta tc t1 t1c ga gc ea ec da dc, v = .tuple ⟨[ptr p, .int .i64 0]⟩ ∧ Ext0 h h' ∧
    InP h' p (d.ins aa ac ma mc ta tc t1 t1c ga gc ea ec da dc) ∧ OwS h' 1 aa d.fs.length ac L ∧ BlL h' L d.fs.length ws := by
  refine fnK F9.fok rfl ?_
  refine K_reg (Wops_box (cs := d.mc) rfl rfl fun h1 n1 x1 g1 => Wops_run rfl rfl (Wops_run rfl rfl (K_fin [(1, _)] rfl (?_))))
  replace g1 : At h1 h.next (.cells d.mc 0 false) := g1
  refine K_reg (Wops_ldA (l := d.mc) rfl g1 (by simp) rfl (Wops_run rfl rfl (Wops_ld (v := .slice d.qa 2 d.qc) rfl g1 rfl (Wops_run rfl rfl (Wops_mkSl (k := 2) rfl rfl ⟨by decide, by decide⟩ fun h2 c2 n2 x2 g2 => ?_)))))
  refine Wops_run rfl rfl (Wops_ld (v := .slice d.da 2 d.dc) rfl (g1.ext x2) rfl (Wops_run rfl rfl (Wops_mkSl (k := 2) rfl rfl ⟨by decide, by decide⟩ fun h3 c3 n3 x3 g3 => ?_)))
  refine Wops_run rfl rfl (Wops_run rfl rfl (Wops_box (cs := d.kC nilS nilS nilS nilS (.slice (some ⟨h1.next, 0, none⟩) 2 c2) (.slice (some ⟨h2.next, 0, none⟩) 2 c3) er0) rfl rfl fun h4 n4 x4 g4 => Wops_run rfl rfl (K_fin [(1, _), (4, _)] rfl (?_))))
  replace g4 : At h4 h3.next (.cells (d.kC nilS nilS nilS nilS (.slice (some ⟨h1.next, 0, none⟩) 2 c2) (.slice (some ⟨h2.next, 0, none⟩) 2 c3) er0) 0 false) := g4
  have x04 : Ext0 h h4 := ((x1.trans x2).trans x3).trans x4
  have oe4 : OwS h4 1 (some ⟨h1.next, 0, none⟩) 2 c2 (bools [false, false]) := (OwS.new (n := 2) (c := c2) g2 rfl).ext (x3.trans x4)
  have od4 : OwS h4 1 (some ⟨h2.next, 0, none⟩) 2 c3 (bools [false, false]) := (OwS.new (n := 2) (c := c3) g3 rfl).ext x4
  have z04 := x04.next
  refine K_reg (Wops_run rfl rfl (Wops_call rfl (C23 q x04 g4 (by omega)) ?_))
  rintro v5 h5 ⟨ma, mc, ta, tc, t1, t1c, g5, om, ot, o1, b5, x5⟩
  refine K_fin [(1, _), (4, _)] rfl (?_)
  have x05 : Ext0 h h5 := x04.then x5 fun i r => .inr (by omega)
  have z5 := x5.next
  refine K_reg (Wops_run rfl rfl (Wops_call rfl (C24 q hw x05 g5 (by omega)) ?_))
  rintro v6 h6 ⟨aa, ac, L, g6, oa, bl, b6, x6⟩
  refine K_fin [(1, _), (4, _)] rfl (?_)
  have x06 : Ext0 h h6 := x05.then x6 fun i r => .inr (by omega)
  have x46 : Ext (· = h3.next) h4 h6 := x5.trans x6
  have z6 := x6.next
  have g16 := ((g1.ext (x2.trans x3)).ext x4).ext x46 fun r => by omega
  refine K_ss (K_reg (Wops_run rfl rfl (Wops_run rfl rfl (Wops_run rfl rfl (Wops_ld (v := er0) rfl g6 rfl (Wops_as (w := .bool false) rfl rfl rfl (K_fin [(1, _), (4, _), (27, _)] rfl (?_))))))))
  refine K_scond rfl (fun hc => by cases hc) (fun _ => ?_)
  refine K_sskip (K_ss (K_reg (Wops_run rfl rfl (Wops_ld (v := .slice (some ⟨d.bg, 0, none⟩) 2 1) rfl g16 rfl (Wops_run rfl rfl (Wops_run rfl rfl (K_fin [(4, _), (33, _), (34, _), (35, _)] rfl (?_))))))))
  refine K_sblock ?_
  refine K_loop (fun k e' h' => ∃ (i : Nat) (ga : Option Addr) (gc : Nat), e' = [(4, ptr h3.next), (33, .slice (some ⟨d.bg, 0, none⟩) 2 1), (34, .int .i64 2), (35, .int .i64 (i : Int))] ∧ i ≤ 2 ∧ k = 2 - i ∧
    At h' h3.next (.cells (d.kC (.slice aa d.fs.length ac) (.slice ma d.N mc) (.slice ta 1 tc) (.slice ga i gc) (.slice (some ⟨h1.next, 0, none⟩) 2 c2) (.slice (some ⟨h2.next, 0, none⟩) 2 c3) er0) 0 false) ∧
    OwS h' 1 ga i gc (ints .u64 ([d.v0, d.v1].take i)) ∧ (∀ j, Blk ga j → h6.next ≤ j) ∧ Ext (· = h3.next) h6 h') ?_ (k := 2) ⟨0, none, 0, rfl, by omega, rfl, g6, OwS.none, fun j r => absurd r Blk.none, Ext.refl _ _⟩
  rintro k e' h7 ⟨i, ga, gc, rfl, hi, rfl, g7, og, b7, x7⟩
  have z7 := x7.next
  have x07 : Ext0 h h7 := x06.then x7 fun i r => .inr (by omega)
  refine K_reg (Wops_run rfl rfl (K_fin [(4, _), (33, _), (34, _), (35, _), (36, _)] rfl (?_)))
  refine K_scond rfl (fun hc => ?_) (fun hc => ?_)
  · have hi2 : i < 2 := by have := of_decide_eq_true hc; omega
    obtain ⟨ty, ii, op, vv, hwin, gii, hop, htk⟩ := gl_win q i hi2
    refine K_sskip (K_sblock ?_)
    refine K_reg (Wops_iaV rfl rfl ⟨by omega, by omega⟩ (Wops_ldA rfl (q.gg.ext x07) (by rw [Int.toNat_natCast]; simp; omega) hwin (Wops_new fun h8 n8 x8 g8 => ?_)))
    refine Wops_st (l := [.int .u8 ty, .bool true, .slice (some ⟨ii, 0, none⟩) 2 1]) rfl rfl rfl rfl g8 (by simp) rfl fun h9 n9 x9 g9 => ?_
    replace g9 : At h9 h7.next (.cells [.int .u8 ty, .bool true, .slice (some ⟨ii, 0, none⟩) 2 1] 0 false) := g9
    have x79 : Ext0 h7 h9 := x8.then x9 fun i r => .inr (by omega)
    refine K_fin [(4, _), (6, _), (33, _), (34, _), (35, _)] rfl (?_)
    have g79 := g7.ext x79
    refine K_last (Wops_run rfl rfl (Wops_run rfl rfl (Wops_run rfl rfl (Wops_run rfl rfl (Wops_run rfl rfl (Wops_ld (v := .slice ga i gc) rfl g79 rfl ?_))))))
    refine Wops_run rfl rfl (Wops_ld (v := .slice (some ⟨ii, 0, none⟩) 2 1) rfl g9 rfl (Wops_call rfl (C25 (gii.ext (x07.trans x79)) hop) ?_))
    rintro _ _ ⟨rfl, rfl⟩
    refine Wops_chk rfl rfl g79 (v := .slice ga i gc) rfl og.sl.same (Wops_bslice (l := ints .u64 [vv]) rfl rfl fun h10 n10 x10 g10 => ?_)
    have z79 := x79.next
    have og10 := (og.ext x79).ext x10
    refine Wops_app (m := 1) rfl rfl og10 rfl (OwS.new (n := 1) (c := 1) g10 rfl).sl.first ⟨by omega, by omega⟩ rfl rfl (by decide) fun h11 ga' gc' x11 og11 bg11 => ?_
    have g711 := (g79.ext x10).ext x11 fun r => by have := b7 _ r; omega
    refine Wops_run rfl rfl (Wops_run rfl rfl (Wops_run rfl rfl (Wops_st (l := [.slice ga' (i + 1) gc']) rfl rfl rfl rfl g711 (by simp) rfl fun h12 n12 x12 g12 => ?_)))
    refine K_finL [(4, _), (33, _), (34, _), (35, _)] rfl (?_)
    refine K_last (Wops_run rfl rfl (Wops_run rfl rfl (K_finL [(4, _), (33, _), (34, _), (35, _)] rfl (?_))))
    have bgn : ∀ j, Blk ga' j → h6.next ≤ j := fun j r => (bg11 j r).elim (b7 j) fun r => by omega
    refine ⟨2 - (i + 1), by omega, i + 1, ga', gc', by rw [w64s (by omega)], by omega, rfl, g12, ?_, bgn, (((x7.then0 x79).then0 x10).then x11 fun j r => .inr (b7 j r)).then x12 fun j r => .inl r⟩
    rw [htk, ints, List.map_append]
    exact og11.ext x12 fun j r e => by have := bgn j r; omega
  obtain rfl : i = 2 := by have := of_decide_eq_false hc; omega
  refine K_sexit (bx_same ?_)
  refine K_reg (Wops_run rfl rfl (Wops_run rfl rfl (Wops_run rfl rfl (Wops_run rfl rfl (Wops_run rfl rfl (K_fin [(2, _), (3, _)] rfl (?_)))))))
  have x47 : Ext (· = h3.next) h4 h7 := x46.trans x7
  have x57 : Ext (· = h3.next) h5 h7 := x6.trans x7
  refine K_ret (Told.mk _ rfl ⟨h3.next, aa, ac, L, ma, mc, ta, tc, t1, t1c, ga, gc, _, c2, _, c3, rfl, x07, ⟨⟨[er0], ?_⟩, ?_, ot.ext x57 fun i r e => by have := b5 i (.inr (.inl r)); omega, o1.ext x57 fun i r e => by have := b5 i (.inr (.inr r)); omega, og, oe4.ext x47 fun i r e => by rw [Blk.at] at r; omega, od4.ext x47 fun i r e => by rw [Blk.at] at r; omega, rfl, rfl, rfl, ?_, by simp, by simp, by simp, by simp⟩, oa.ext x7 fun i r e => by have := b6 i r; omega, bl.ext x7 fun m o gg => map_ne g6 gg⟩)
  · show At h7 h3.next (.cells (d.mc ++ [.slice aa d.fs.length ac, .slice ma (List.replicate d.N (0 : Int)).length mc, .slice ta 1 tc, .slice ga 2 gc, .slice (some ⟨h1.next, 0, none⟩) 2 c2, .slice (some ⟨h2.next, 0, none⟩) 2 c3, er0]) 0 false)
    rw [List.length_replicate]; exact g7
  · show OwS h7 1 ma (List.replicate d.N (0 : Int)).length mc (ints .u8 (List.replicate d.N 0))
    rw [List.length_replicate]; exact om.ext x57 fun i r e => by have := b5 i (.inl r); omega
  · show (List.replicate d.N (0 : Int)).length ≤ 1073741824
    have : d.N ≤ 65536 := (mvN q.mv).2
    rw [List.length_replicate]; omega

/-- What is turned in one part: all else is as it was. -/
theorem InP.setM {h h2 : Heap} {p : Nat} {d : ID} {j : Nat} {x : Int} (q : InP h p d) (k : Dist p d) (y : Ext (Blk d.ma) h h2) (o : OwS h2 1 d.ma d.bs.length d.mc ((ints .u8 d.bs).set j (.int .u8 x))) : InP h2 p { d with bs := d.bs.set j x } := by
  obtain ⟨tl, g⟩ := q.g
  have hl : (d.bs.set j x).length = d.bs.length := List.length_set
  have o' : OwS h2 1 d.ma (d.bs.set j x).length d.mc (ints .u8 (d.bs.set j x)) := by rw [hl, ints, List.map_set]; exact o
  refine ⟨⟨tl, ?_⟩, o', q.ot.ext y fun i r e => (k.m i e).2.1 r, q.o1.ext y fun i r e => (k.m i e).2.2.1 r, q.og.ext y fun i r e => (k.m i e).2.2.2.1 r, q.oe.ext y fun i r e => (k.m i e).2.2.2.2.1 r, q.od.ext y fun i r e => (k.m i e).2.2.2.2.2 r, q.ml, q.mcl, q.blc, by show (d.bs.set j x).length ≤ _; rw [hl]; exact q.bb, q.tb, q.gb, q.eb, q.db⟩
  show At h2 p (.cells (d.mod ++ (d.bl :: .slice d.ma (d.bs.set j x).length d.mc :: _)) 0 false)
  rw [hl]; exact g.ext y fun e => (k.m p e).1 rfl
theorem InP.setG {h h2 : Heap} {p : Nat} {d : ID} {j : Nat} {x : Int} (q : InP h p d) (k : Dist p d) (y : Ext (Blk d.ga) h h2) (o : OwS h2 1 d.ga d.gs.length d.gc ((ints .u64 d.gs).set j (.int .u64 x))) : InP h2 p { d with gs := d.gs.set j x } := by
  obtain ⟨tl, g⟩ := q.g
  have hl : (d.gs.set j x).length = d.gs.length := List.length_set
  have o' : OwS h2 1 d.ga (d.gs.set j x).length d.gc (ints .u64 (d.gs.set j x)) := by rw [hl, ints, List.map_set]; exact o
  refine ⟨⟨tl, ?_⟩, q.om.ext y fun i r e => (k.m i r).2.2.2.1 e, q.ot.ext y fun i r e => (k.t i r).2.2.1 e, q.o1.ext y fun i r e => (k.o i r).2.1 e, o', q.oe.ext y fun i r e => (k.g i e).2.1 r, q.od.ext y fun i r e => (k.g i e).2.2 r, q.ml, q.mcl, q.blc, q.bb, q.tb, by show (d.gs.set j x).length ≤ _; rw [hl]; exact q.gb, q.eb, q.db⟩
  show At h2 p (.cells (d.mod ++ (d.bl :: _ :: _ :: .slice d.ga (d.gs.set j x).length d.gc :: _)) 0 false)
  rw [hl]; exact g.ext y fun e => (k.g p e).1 rfl
theorem InP.setT {h h2 : Heap} {p : Nat} {d : ID} {j : Nat} {x : Int} (q : InP h p d) (k : Dist p d) (y : Ext (Blk d.t1) h h2) (o : OwS h2 1 d.t1 d.tt.length d.t1c ((ints .u64 d.tt).set j (.int .u64 x))) : InP h2 p { d with tt := d.tt.set j x } := by
  obtain ⟨tl, g⟩ := q.g
  have hl : (d.tt.set j x).length = d.tt.length := List.length_set
  have o' : OwS h2 1 d.t1 (d.tt.set j x).length d.t1c (ints .u64 (d.tt.set j x)) := by rw [hl, ints, List.map_set]; exact o
  refine ⟨⟨tl, g.ext y fun e => (k.o p e).1 rfl⟩, q.om.ext y fun i r e => (k.m i r).2.2.1 e, ?_, o', q.og.ext y fun i r e => (k.o i e).2.1 r, q.oe.ext y fun i r e => (k.o i e).2.2.1 r, q.od.ext y fun i r e => (k.o i e).2.2.2 r, q.ml, q.mcl, q.blc, q.bb, by show (d.tt.set j x).length ≤ _; rw [hl]; exact q.tb, q.gb, q.eb, q.db⟩
  show OwS h2 1 d.ta 1 d.tc [.slice d.t1 (d.tt.set j x).length d.t1c]
  rw [hl]; exact q.ot.ext y fun i r e => (k.t i r).2.1 e
theorem InP.setE {h h2 : Heap} {p : Nat} {d : ID} {j : Nat} {x : Bool} (q : InP h p d) (k : Dist p d) (y : Ext (Blk d.ea) h h2) (o : OwS h2 1 d.ea d.es.length d.ec ((bools d.es).set j (.bool x))) : InP h2 p { d with es := d.es.set j x } := by
  obtain ⟨tl, g⟩ := q.g
  have hl : (d.es.set j x).length = d.es.length := List.length_set
  have o' : OwS h2 1 d.ea (d.es.set j x).length d.ec (bools (d.es.set j x)) := by rw [hl, bools, List.map_set]; exact o
  refine ⟨⟨tl, ?_⟩, q.om.ext y fun i r e => (k.m i r).2.2.2.2.1 e, q.ot.ext y fun i r e => (k.t i r).2.2.2.1 e, q.o1.ext y fun i r e => (k.o i r).2.2.1 e, q.og.ext y fun i r e => (k.g i r).2.1 e, o', q.od.ext y fun i r e => (k.e i e).2 r, q.ml, q.mcl, q.blc, q.bb, q.tb, q.gb, by show (d.es.set j x).length ≤ _; rw [hl]; exact q.eb, q.db⟩
  show At h2 p (.cells (d.mod ++ (d.bl :: _ :: _ :: _ :: .slice d.ea (d.es.set j x).length d.ec :: _)) 0 false)
  rw [hl]; exact g.ext y fun e => (k.e p e).1 rfl
theorem InP.setD {h h2 : Heap} {p : Nat} {d : ID} {j : Nat} {x : Bool} (q : InP h p d) (k : Dist p d) (y : Ext (Blk d.da) h h2) (o : OwS h2 1 d.da d.ds.length d.dc ((bools d.ds).set j (.bool x))) : InP h2 p { d with ds := d.ds.set j x } := by
  obtain ⟨tl, g⟩ := q.g
  have hl : (d.ds.set j x).length = d.ds.length := List.length_set
  have o' : OwS h2 1 d.da (d.ds.set j x).length d.dc (bools (d.ds.set j x)) := by rw [hl, bools, List.map_set]; exact o
  refine ⟨⟨tl, ?_⟩, q.om.ext y fun i r e => (k.m i r).2.2.2.2.2 e, q.ot.ext y fun i r e => (k.t i r).2.2.2.2 e, q.o1.ext y fun i r e => (k.o i r).2.2.2 e, q.og.ext y fun i r e => (k.g i r).2.2 e, q.oe.ext y fun i r e => (k.e i r).2 e, o', q.ml, q.mcl, q.blc, q.bb, q.tb, q.gb, q.eb, by show (d.ds.set j x).length ≤ _; rw [hl]; exact q.db⟩
  show At h2 p (.cells (d.mod ++ (d.bl :: _ :: _ :: _ :: _ :: .slice d.da (d.ds.set j x).length d.dc :: _)) 0 false)
  rw [hl]; exact g.ext y fun e => k.d p e rfl
end Go.Dx.SYtpogcjdenefhlaa
