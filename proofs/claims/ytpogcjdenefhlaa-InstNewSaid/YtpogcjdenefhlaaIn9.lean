/- The document's instances: Worth, New. -/
import Derived.Test.YtpogcjdenefhlaaIn7
namespace Go.Dx.SYtpogcjdenefhlaa
open Go.Proofs
set_option linter.unusedVariables false
set_option linter.unusedSimpArgs false

/-- Worth, of a number -/
theorem C27 {h : Heap} {i0 : Nat} {op v : Int} (g : At h i0 (.cells (inC op v) 6 false)) (ho : op = 65 ∨ op = 66) : Fn Try.prog 27 [.slice (some ⟨i0, 0, none⟩) 2 1] h fun x h' => x = .int .u64 v ∧ h = h' := by
  refine fnK F27.fok rfl ?_
  refine K_reg (Wops_run rfl rfl (K_fin [(0, _)] rfl (?_)))
  refine K_ss (K_reg (Wops_run rfl rfl (Wops_run rfl rfl (Wops_run rfl rfl (K_fin [(0, _), (5, _)] rfl (?_))))))
  refine K_scond rfl (fun hc => by cases hc) (fun _ => ?_)
  refine K_sskip (K_ss (K_reg (Wops_run rfl rfl (Wops_iaV rfl rfl ⟨by decide, by decide⟩ (Wops_run rfl rfl (Wops_ld (v := .int .i64 op) rfl g rfl ?_))))))
  refine K_fin [(0, _), (9, _)] rfl (?_)
  refine K_sblock ?_
  rcases ho with rfl | rfl
  · refine K_ss (K_reg (Wops_run rfl rfl (Wops_run rfl rfl (K_fin [(0, _), (9, _), (10, _)] rfl (?_)))))
    refine K_scond rfl (fun _ => ?_) (fun hc => by cases hc)
    refine K_sskip (K_cond rfl (fun _ => ?_) (fun hc => by cases hc))
    refine K_reg (Wops_run rfl rfl (Wops_iaV rfl rfl ⟨by decide, by decide⟩ (Wops_run rfl rfl (Wops_ld (v := .int .u64 v) rfl g rfl ?_))))
    refine Wops_run rfl rfl (K_fin [(2, _)] rfl (?_))
    exact K_ret (Told.mk _ rfl ⟨rfl, rfl⟩)
  · refine K_ss (K_reg (Wops_run rfl rfl (Wops_run rfl rfl (K_fin [(0, _), (9, _), (10, _)] rfl (?_)))))
    refine K_scond rfl (fun hc => by cases hc) (fun _ => ?_)
    refine K_reg (Wops_run rfl rfl (Wops_run rfl rfl (K_fin [(0, _), (9, _), (10, _)] rfl (?_))))
    refine K_cond rfl (fun _ => ?_) (fun hc => by cases hc)
    refine K_reg (Wops_run rfl rfl (Wops_iaV rfl rfl ⟨by decide, by decide⟩ (Wops_run rfl rfl (Wops_ld (v := .int .u64 v) rfl g rfl ?_))))
    refine Wops_run rfl rfl (K_fin [(2, _)] rfl (?_))
    exact K_ret (Told.mk _ rfl ⟨rfl, rfl⟩)

abbrev LD.rC (d : LD) (b m t g e dd : Value) : List Value := d.mc ++ [b, m, t, g, e, dd]
theorem code_cell {vs cl : List Value} {off i cn : Nat} {a b : Value} (hg : ∀ j, j < cn * 2 → vs[off + j]? = cl[j]?) (hi : i < cn) (ht : (cl.drop (i * 2)).take 2 = [a, b]) : vs[off + (i : Int).toNat * 2 + 1]? = some b := by
  rw [Int.toNat_natCast, Nat.add_assoc, hg _ (by omega)]
  have h1 : ((cl.drop (i * 2)).take 2)[1]? = some b := by rw [ht]; rfl
  rw [List.getElem?_take_of_lt (by decide), List.getElem?_drop] at h1
  exact h1
theorem gl_cell {h : Heap} {d : LD} (q : Lay h d) : ∀ i : Nat, i < 2 → ∃ (ii : Nat) (op vv : Int), (glC d.i0 d.i1)[0 + (i : Int).toNat * 3 + 2]? = some (.slice (some ⟨ii, 0, none⟩) 2 1) ∧ At h ii (.cells (inC op vv) 6 false) ∧ (op = 65 ∨ op = 66) ∧ [d.v0, d.v1].take (i + 1) = [d.v0, d.v1].take i ++ [vv]
  | 0, _ => ⟨_, _, _, rfl, q.g0, .inl rfl, rfl⟩
  | 1, _ => ⟨_, _, _, rfl, q.g1, .inr rfl, rfl⟩
set_option maxHeartbeats 8000000 in
/-- ref13.New -/
theorem C10 {h : Heap} {d : LD} {ws : Nat → List Int} (q : Lay h d) (hw : ∀ i, i < d.fs.length → CdW h d i (ws i)) : Fn Try.prog 10 [.agg ⟨d.mc⟩] h fun v h' => ∃ p aa ac L ma mc ta tc t1 t1c ga gc ea ec da dc, v = .tuple ⟨[ptr p, .int .i64 0]⟩ ∧ Ext0 h h' ∧
    InP h' p (d.ins aa ac ma mc ta tc t1 t1c ga gc ea ec da dc) ∧ OwS h' 1 aa d.fs.length ac L ∧ BlL h' L d.fs.length ws := by
  obtain ⟨hN, hN2⟩ := mvN q.mv
  replace hN2 : d.N ≤ 65536 := hN2
  have hmv : 0 ≤ d.mv ∧ d.mv ≤ 1 := by rcases q.mv with r | r <;> omega
  have c3 := q.f3
  obtain ⟨idc, offc, vsc, ezc, roc, hca, gc, hlc, _, hgc⟩ := q.sc.at q.f0
  have hcc : d.mc[11]? = some (.slice (some ⟨idc, offc, none⟩) d.fs.length d.cc) := by rw [← hca]; rfl
  refine fnK F10.fok rfl ?_
  refine K_reg (Wops_box (cs := d.mc) rfl rfl fun h1 n1 x1 g1 => Wops_run rfl rfl (Wops_run rfl rfl (K_fin [(1, _)] rfl (?_))))
  replace g1 : At h1 h.next (.cells d.mc 0 false) := g1
  refine K_reg (Wops_ldA (l := d.mc) rfl g1 (by simp) rfl (Wops_run rfl rfl (Wops_box (cs := d.rC nilS nilS nilS nilS nilS nilS) rfl rfl fun h2 n2 x2 g2 => Wops_run rfl rfl (K_fin [(1, _), (4, _)] rfl (?_)))))
  replace g2 : At h2 h1.next (.cells (d.rC nilS nilS nilS nilS nilS nilS) 0 false) := g2
  have x02 : Ext0 h h2 := x1.trans x2
  have z02 := x02.next
  have gm2 := g1.ext x2
  -- memory
  refine K_ss (K_reg (Wops_run rfl rfl (Wops_ld (v := .slice (some ⟨d.bm, 0, none⟩) 1 1) rfl gm2 rfl (Wops_run rfl rfl (Wops_run rfl rfl (K_fin [(1, _), (4, _), (16, _)] rfl (?_)))))))
  refine K_scond rfl (fun _ => ?_) (fun hc => by cases hc)
  have gb2 := q.gm.ext x02
  refine K_ss (K_ss (K_reg (Wops_run rfl rfl (Wops_ld (v := .slice (some ⟨d.bm, 0, none⟩) 1 1) rfl gm2 rfl (Wops_iaV rfl rfl ⟨by decide, by decide⟩ (Wops_run rfl rfl (Wops_ld (v := .int .u32 d.mv) rfl gb2 rfl ?_)))))))
  refine Wops_as (w := .bool false) rfl rfl (by simp; omega) (K_fin [(1, _), (4, _), (22, _)] rfl (?_))
  refine K_scond rfl (fun hc => by cases hc) (fun _ => ?_)
  refine K_sskip (K_reg (Wops_run rfl rfl (Wops_run rfl rfl (Wops_ld (v := .slice (some ⟨d.bm, 0, none⟩) 1 1) rfl gm2 rfl (Wops_iaV rfl rfl ⟨by decide, by decide⟩ (Wops_run rfl rfl (Wops_ld (v := .int .u32 d.mv) rfl gb2 rfl ?_)))))))
  refine Wops_as (w := .int .i64 d.mv) rfl rfl (by rw [w64 (by omega)]) (Wops_as (w := .int .i64 (d.N : Int)) rfl rfl (by rw [hN, w64 (by omega)]) (Wops_mkSl (k := d.N) rfl rfl ⟨by omega, by omega⟩ fun h3 cm n3 x3 g3 => ?_))
  refine Wops_run rfl rfl (Wops_run rfl rfl (Wops_st (l := [.slice (some ⟨h2.next, 0, none⟩) d.N cm]) rfl rfl rfl rfl (g2.ext x3) (by simp) rfl fun h4 n4 x4 g4 => ?_))
  refine K_fin [(1, _), (4, _)] rfl (?_)
  replace g4 : At h4 h1.next (.cells (d.rC nilS (.slice (some ⟨h2.next, 0, none⟩) d.N cm) nilS nilS nilS nilS) 0 false) := g4
  have om4 : OwS h4 1 (some ⟨h2.next, 0, none⟩) d.N cm (ints .u8 (List.replicate d.N 0)) := by
    rw [← zeros_ints]
    exact (OwS.new (n := d.N) (c := cm) g3 (by rw [zeros_length]; simp)).ext x4 fun i r e => by rw [Blk.at] at r; omega
  have y24 : Ext (· = h1.next) h2 h4 := (x3.of0).then x4 fun i r => .inl r
  -- tables
  refine K_ss (K_reg (Wops_run rfl rfl (K_fin [(1, _), (4, _), (5, _)] rfl (?_))))
  refine K_sblock ?_
  refine K_loop (fun k e' h' => (k = 1 ∧ e' = [(1, ptr h.next), (4, ptr h1.next), (5, .int .i64 0)] ∧ h' = h4) ∨
    (k = 0 ∧ e' = [(1, ptr h.next), (4, ptr h1.next), (5, .int .i64 1)] ∧ ∃ ta tc t1 t1c, At h' h1.next (.cells (d.rC nilS (.slice (some ⟨h2.next, 0, none⟩) d.N cm) (.slice ta 1 tc) nilS nilS nilS) 0 false) ∧ OwS h' 1 ta 1 tc [.slice t1 4 t1c] ∧ OwS h' 1 t1 4 t1c (ints .u64 [0, 0, 0, 0]) ∧ (∀ i, Blk ta i ∨ Blk t1 i → h4.next ≤ i) ∧ Ext (· = h1.next) h4 h')) ?_ (k := 1) (.inl ⟨rfl, rfl, rfl⟩)
  rintro k e' h5 (⟨rfl, rfl, rfl⟩ | ⟨rfl, rfl, ta, tc, t1, t1c, g5, ot, o1, b5, y45⟩)
  · have x05 : Ext0 h h5 := x02.then y24 fun i r => .inr (by omega)
    have gm5 := gm2.ext y24 fun r => by omega
    have gt5 := q.gt.ext x05
    have z25 := y24.next
    refine K_ss (K_reg (Wops_run rfl rfl (Wops_run rfl rfl (Wops_ld (v := .slice (some ⟨d.bt, 0, none⟩) 1 1) rfl gm5 rfl (Wops_run rfl rfl (Wops_run rfl rfl (K_fin [(1, _), (4, _), (5, _), (38, _)] rfl (?_))))))))
    refine K_scond rfl (fun _ => ?_) (fun hc => by cases hc)
    refine K_sskip (K_sblock ?_)
    refine K_ss (K_reg (Wops_run rfl rfl (Wops_ld (v := .slice (some ⟨d.bt, 0, none⟩) 1 1) rfl gm5 rfl (Wops_run rfl rfl (Wops_iaV rfl rfl ⟨by decide, by decide⟩ (Wops_run rfl rfl (Wops_run rfl rfl (Wops_ld (v := .int .u32 4) rfl gt5 rfl (Wops_run rfl rfl (K_fin [(1, _), (4, _), (5, _), (48, _)] rfl (?_)))))))))))
    refine K_scond rfl (fun hc => by cases hc) (fun _ => ?_)
    refine K_sskip (K_last (Wops_run rfl rfl (Wops_run rfl rfl (Wops_run rfl rfl (Wops_run rfl rfl (Wops_ld (v := nilS) rfl g4 rfl ?_))))))
    refine Wops_run rfl rfl (Wops_ld (v := .slice (some ⟨d.bt, 0, none⟩) 1 1) rfl gm5 rfl (Wops_run rfl rfl (Wops_iaV rfl rfl ⟨by decide, by decide⟩ (Wops_run rfl rfl (Wops_run rfl rfl (Wops_ld (v := .int .u32 4) rfl gt5 rfl ?_))))))
    refine Wops_mkU (k := 4) rfl rfl ⟨by decide, by decide⟩ fun h6 cc n6 x6 g6 => ?_
    refine Wops_bslice (l := [.slice (some ⟨h5.next, 0, none⟩) 4 cc]) rfl rfl fun h7 n7 x7 g7 => ?_
    refine Wops_app (m := 1) rfl rfl OwS.none rfl (OwS.new (n := 1) (c := 1) g7 rfl).sl.first ⟨by omega, by omega⟩ rfl rfl (by decide) fun h8 ta tc x8 ot bt => ?_
    have x58 : Ext0 h5 h8 := (x6.trans x7).then x8 fun i r => absurd r Blk.none
    refine Wops_run rfl rfl (Wops_run rfl rfl (Wops_st (l := [.slice ta 1 tc]) rfl rfl rfl rfl (g4.ext x58) (by simp) rfl fun h9 n9 x9 g9 => ?_))
    refine K_finL [(1, _), (4, _), (5, _)] rfl (?_)
    refine K_last (Wops_run rfl rfl (Wops_run rfl rfl (Wops_run rfl rfl (K_finL [(1, _), (4, _), (5, _)] rfl (?_)))))
    have btn : ∀ i, Blk ta i → h7.next ≤ i := fun i r => (bt i r).elim (fun r => absurd r Blk.none) id
    refine ⟨0, by omega, .inr ⟨rfl, rfl, ta, tc, some ⟨h5.next, 0, none⟩, cc, g9, ot.ext x9 fun i r e => by have := btn i r; omega, ?_, ?_, (x58.of0).then x9 fun i r => .inl r⟩⟩
    · exact (((OwS.new (n := 4) (c := cc) g6 rfl).ext x7).ext x8 fun i _ r => absurd r Blk.none).ext x9 fun i r e => by rw [Blk.at] at r; omega
    · rintro i (r | r)
      · have := btn i r; omega
      · rw [Blk.at] at r; omega
  have y25 : Ext (· = h1.next) h2 h5 := y24.trans y45
  have gm5 := gm2.ext y25 fun r => by omega
  refine K_ss (K_reg (Wops_run rfl rfl (Wops_run rfl rfl (Wops_ld (v := .slice (some ⟨d.bt, 0, none⟩) 1 1) rfl gm5 rfl (Wops_run rfl rfl (Wops_run rfl rfl (K_fin [(1, _), (4, _), (5, _), (38, _)] rfl (?_))))))))
  refine K_scond rfl (fun hc => by cases hc) (fun _ => ?_)
  refine K_sexit (bx_same ?_)
  have z25 := y25.next
  -- blocks
  refine K_ss (K_reg (Wops_run rfl rfl (K_fin [(1, _), (4, _), (6, _)] rfl (?_))))
  refine K_sblock ?_
  refine K_loop (fun k e' h' => ∃ i aa ac L, e' = [(1, ptr h.next), (4, ptr h1.next), (6, .int .i64 ((i : Nat) : Int))] ∧ i ≤ d.fs.length ∧ k = d.fs.length - i ∧
    At h' h1.next (.cells (d.rC (.slice aa i ac) (.slice (some ⟨h2.next, 0, none⟩) d.N cm) (.slice ta 1 tc) nilS nilS nilS) 0 false) ∧ OwS h' 1 aa i ac L ∧ BlL h' L i ws ∧ (∀ i, Blk aa i → h5.next ≤ i) ∧ Ext (· = h1.next) h5 h') ?_ (k := d.fs.length) ⟨0, none, 0, [], rfl, Nat.zero_le _, rfl, g5, OwS.none, ⟨rfl, fun i hi => by omega⟩, fun i r => absurd r Blk.none, Ext.refl _ _⟩
  rintro k e' h6 ⟨i, aa, ac, L, rfl, hi, rfl, g6, oa, bl, b6, y56⟩
  have y26 := y25.trans y56
  have x06 : Ext0 h h6 := x02.then y26 fun i r => .inr (by omega)
  have gm6 := gm2.ext y26 fun r => by omega
  have z56 := y56.next
  refine K_ss (K_reg (Wops_run rfl rfl (Wops_run rfl rfl (Wops_ld (v := .slice (some ⟨idc, offc, none⟩) d.fs.length d.cc) rfl gm6 hcc (Wops_run rfl rfl (Wops_run rfl rfl (K_fin [(1, _), (4, _), (6, _), (70, _)] rfl (?_))))))))
  refine K_scond rfl (fun hc => ?_) (fun hc => ?_)
  · have hin : i < d.fs.length := by have := of_decide_eq_true hc; omega
    obtain ⟨ls, ba, bn, bc, l, ht, I, ow⟩ := hw i hin
    obtain ⟨es, hr, -, -, -⟩ := body_run ow
    refine K_sskip (K_sblock ?_)
    refine K_reg (Wops_run rfl rfl (Wops_ld (v := .slice (some ⟨idc, offc, none⟩) d.fs.length d.cc) rfl gm6 hcc (Wops_run rfl rfl (Wops_iaV rfl rfl ⟨by omega, by omega⟩ (Wops_run rfl rfl (Wops_ld rfl (gc.ext x06) (code_cell hgc hin ht) (Wops_call rfl (C26 (I.ext x06)) ?_)))))))
    rintro v1 h7 ⟨x7, hv1⟩
    obtain ⟨mm, rfl, gmm⟩ : ∃ m, v1 = .tuple ⟨[.map (some m), .bool true]⟩ ∧ At h7 m (.map (mapC es)) := by
      rcases hv1 with ⟨e, _⟩ | ⟨es', m, e, e2, g⟩
      · rw [hr] at e; cases e
      · rw [hr] at e; cases e; exact ⟨m, e2, g⟩
    refine Wops_run rfl rfl (Wops_run rfl rfl (Wops_run rfl rfl (Wops_run rfl rfl (Wops_run rfl rfl (K_fin [(1, _), (4, _), (6, _), (7, _), (8, _)] rfl (?_))))))
    refine K_ss (K_reg (Wops_run rfl rfl (Wops_run rfl rfl (K_fin [(1, _), (4, _), (6, _), (7, _), (84, _)] rfl (?_)))))
    refine K_scond rfl (fun hc => by cases hc) (fun _ => ?_)
    refine K_sskip (K_last (Wops_run rfl rfl (Wops_run rfl rfl (Wops_run rfl rfl (Wops_run rfl rfl (Wops_ld (v := .slice aa i ac) rfl (g6.ext x7) rfl ?_))))))
    refine Wops_run rfl rfl (Wops_bslice (l := [.map (some mm)]) rfl rfl fun h8 n8 x8 g8 => ?_)
    have x68 := x7.trans x8
    have z68 := x68.next
    refine Wops_app (m := 1) rfl rfl (oa.ext x68) rfl (OwS.new (n := 1) (c := 1) g8 rfl).sl.first ⟨by omega, by omega⟩ rfl rfl (by decide) fun h9 aa' ac' x9 oa' ba' => ?_
    have g69 := (g6.ext x68).ext x9 fun r => by have := b6 _ r; omega
    have bl8 : BlL h8 (L ++ [.map (some mm)]) (i + 1) ws := (bl.ext x68 fun _ _ _ r => r).snoc hr (gmm.ext x8)
    have bl9 := bl8.ext x9 fun m o gg => map_own (oa.ext x68) gg
    refine Wops_run rfl rfl (Wops_run rfl rfl (Wops_st (l := [.slice aa' (i + 1) ac']) rfl rfl rfl rfl g69 (by simp) rfl fun h10 n10 x10 g10 => ?_))
    refine K_finL [(1, _), (4, _), (6, _)] rfl (?_)
    refine K_last (Wops_run rfl rfl (Wops_run rfl rfl (Wops_run rfl rfl (K_finL [(1, _), (4, _), (6, _)] rfl (?_)))))
    have ban : ∀ i, Blk aa' i → h5.next ≤ i := fun i r => (ba' i r).elim (b6 i) fun r => by omega
    exact ⟨d.fs.length - (i + 1), by omega, i + 1, aa', ac', _, by rw [w64s (by omega)], by omega, rfl, g10, oa'.ext x10 fun i r e => by have := ban i r; omega, bl9.ext x10 fun m o gg => map_ne g69 gg, ban, ((y56.then0 x68).then x9 fun i r => .inr (b6 i r)).then x10 fun i r => .inl r⟩
  obtain rfl : i = d.fs.length := by have := of_decide_eq_false hc; omega
  refine K_sexit (bx_same ?_)
  -- globals
  refine K_ss (K_reg (Wops_run rfl rfl (K_fin [(1, _), (4, _), (9, _)] rfl (?_))))
  refine K_sblock ?_
  refine K_loop (fun k e' h' => ∃ (i : Nat) (ga : Option Addr) (gc : Nat), e' = [(1, ptr h.next), (4, ptr h1.next), (9, .int .i64 (i : Int))] ∧ i ≤ 2 ∧ k = 2 - i ∧
    At h' h1.next (.cells (d.rC (.slice aa d.fs.length ac) (.slice (some ⟨h2.next, 0, none⟩) d.N cm) (.slice ta 1 tc) (.slice ga i gc) nilS nilS) 0 false) ∧ OwS h' 1 ga i gc (ints .u64 ([d.v0, d.v1].take i)) ∧ (∀ j, Blk ga j → h6.next ≤ j) ∧ Ext (· = h1.next) h6 h') ?_ (k := 2) ⟨0, none, 0, rfl, by omega, rfl, g6, OwS.none, fun j r => absurd r Blk.none, Ext.refl _ _⟩
  rintro k e' h7 ⟨i, ga, gc', rfl, hi2, rfl, g7, og, b7, y67⟩
  have z67 := y67.next
  have y27 := y26.trans y67
  have x07 : Ext0 h h7 := x02.then y27 fun i r => .inr (by omega)
  have gm7 := gm2.ext y27 fun r => by omega
  refine K_ss (K_reg (Wops_run rfl rfl (Wops_run rfl rfl (Wops_ld (v := .slice (some ⟨d.bg, 0, none⟩) 2 1) rfl gm7 rfl (Wops_run rfl rfl (Wops_run rfl rfl (K_fin [(1, _), (4, _), (9, _), (99, _)] rfl (?_))))))))
  refine K_scond rfl (fun hc => ?_) (fun hc => ?_)
  · have hi3 : i < 2 := by have := of_decide_eq_true hc; omega
    obtain ⟨ii, op, vv, hcell, gii, hop, htk⟩ := gl_cell q i hi3
    refine K_sskip (K_sblock ?_)
    refine K_last (Wops_run rfl rfl (Wops_run rfl rfl (Wops_run rfl rfl (Wops_run rfl rfl (Wops_ld (v := .slice ga i gc') rfl g7 rfl ?_)))))
    refine Wops_run rfl rfl (Wops_ld (v := .slice (some ⟨d.bg, 0, none⟩) 2 1) rfl gm7 rfl (Wops_run rfl rfl (Wops_iaV rfl rfl ⟨by omega, by omega⟩ (Wops_run rfl rfl (Wops_ld rfl (q.gg.ext x07) hcell (Wops_call rfl (C27 (gii.ext x07) hop) ?_))))))
    rintro _ _ ⟨rfl, rfl⟩
    refine Wops_chk rfl rfl g7 (v := .slice ga i gc') rfl og.sl.same (Wops_bslice (l := ints .u64 [vv]) rfl rfl fun h8 n8 x8 g8 => ?_)
    refine Wops_app (m := 1) rfl rfl (og.ext x8) rfl (OwS.new (n := 1) (c := 1) g8 rfl).sl.first ⟨by omega, by omega⟩ rfl rfl (by decide) fun h9 ga' gc2 x9 og9 bg9 => ?_
    have g79 := (g7.ext x8).ext x9 fun r => by have := b7 _ r; omega
    refine Wops_run rfl rfl (Wops_run rfl rfl (Wops_st (l := [.slice ga' (i + 1) gc2]) rfl rfl rfl rfl g79 (by simp) rfl fun h10 n10 x10 g10 => ?_))
    refine K_finL [(1, _), (4, _), (9, _)] rfl (?_)
    refine K_last (Wops_run rfl rfl (Wops_run rfl rfl (Wops_run rfl rfl (K_finL [(1, _), (4, _), (9, _)] rfl (?_)))))
    have bgn : ∀ j, Blk ga' j → h6.next ≤ j := fun j r => (bg9 j r).elim (b7 j) fun r => by omega
    refine ⟨2 - (i + 1), by omega, i + 1, ga', gc2, by rw [w64s (by omega)], by omega, rfl, g10, ?_, bgn, ((y67.then0 x8).then x9 fun j r => .inr (b7 j r)).then x10 fun j r => .inl r⟩
    rw [htk, ints, List.map_append]
    exact og9.ext x10 fun j r e => by have := bgn j r; omega
  obtain rfl : i = 2 := by have := of_decide_eq_false hc; omega
  refine K_sexit (bx_same ?_)
  -- elements, data
  refine K_reg (Wops_run rfl rfl (Wops_run rfl rfl (Wops_run rfl rfl (Wops_ld (v := .slice d.qa 2 d.qc) rfl gm7 rfl (Wops_run rfl rfl (Wops_mkSl (k := 2) rfl rfl ⟨by decide, by decide⟩ fun h8 ce n8 x8 g8 => ?_))))))
  have gm8 := gm7.ext x8
  refine Wops_run rfl rfl (Wops_ld (v := .slice d.da 2 d.dc) rfl gm8 rfl (Wops_run rfl rfl (Wops_mkSl (k := 2) rfl rfl ⟨by decide, by decide⟩ fun h9 cd n9 x9 g9 => ?_)))
  have x79 := x8.trans x9
  have g79 := g7.ext x79
  refine Wops_run rfl rfl (Wops_run rfl rfl (Wops_st (l := [.slice (some ⟨h7.next, 0, none⟩) 2 ce]) rfl rfl rfl rfl g79 (by simp) rfl fun h10 n10 x10 g10 => ?_))
  have gm10 := (gm8.ext x9).ext x10 fun r => by omega
  refine Wops_chk rfl rfl gm10 (v := .slice d.da 2 d.dc) rfl q.ds ?_
  refine Wops_run rfl rfl (Wops_run rfl rfl (Wops_st (l := [.slice (some ⟨h8.next, 0, none⟩) 2 cd]) rfl rfl rfl rfl g10 (by simp [putL]) rfl fun h11 n11 x11 g11 => ?_))
  refine K_fin [(4, _)] rfl (?_)
  refine K_reg (Wops_run rfl rfl (Wops_run rfl rfl (Wops_run rfl rfl (K_fin [(2, _), (3, _)] rfl (?_)))))
  replace g11 : At h11 h1.next (.cells (d.rC (.slice aa d.fs.length ac) (.slice (some ⟨h2.next, 0, none⟩) d.N cm) (.slice ta 1 tc) (.slice ga 2 gc') (.slice (some ⟨h7.next, 0, none⟩) 2 ce) (.slice (some ⟨h8.next, 0, none⟩) 2 cd)) 0 false) := g11
  have y911 := x10.trans x11
  have y711 : Ext (· = h1.next) h7 h11 := (x79.of0).then y911 fun i r => .inl r
  have y611 := y67.trans y711
  have y511 := y56.trans y611
  have y411 := y45.trans y511
  have z4 := y24.next
  have z711 := y711.next
  have oe : OwS h11 1 (some ⟨h7.next, 0, none⟩) 2 ce (bools [false, false]) := ((OwS.new (n := 2) (c := ce) g8 rfl).ext x9).ext y911 fun i r e => by rw [Blk.at] at r; omega
  have od : OwS h11 1 (some ⟨h8.next, 0, none⟩) 2 cd (bools [false, false]) := (OwS.new (n := 2) (c := cd) g9 rfl).ext y911 fun i r e => by rw [Blk.at] at r; omega
  refine K_ret (Told.mk _ rfl ⟨h1.next, aa, ac, L, some ⟨h2.next, 0, none⟩, cm, ta, tc, t1, t1c, ga, gc', some ⟨h7.next, 0, none⟩, ce, some ⟨h8.next, 0, none⟩, cd, rfl, x07.then y711 fun i r => .inr (by omega), ⟨⟨[], ?_⟩, ?_, ot.ext y511 fun i r e => by have := b5 i (.inl r); omega, o1.ext y511 fun i r e => by have := b5 i (.inr r); omega, og.ext y711 fun i r e => by have := b7 i r; omega, oe, od, rfl, rfl, rfl, ?_, by simp, by simp, by simp, by simp⟩, oa.ext y611 fun i r e => by have := b6 i r; omega, bl.ext y611 fun m o gg => map_ne g6 gg⟩)
  · show At h11 h1.next (.cells (d.mc ++ [.slice aa d.fs.length ac, .slice (some ⟨h2.next, 0, none⟩) (List.replicate d.N (0 : Int)).length cm, .slice ta 1 tc, .slice ga 2 gc', .slice (some ⟨h7.next, 0, none⟩) 2 ce, .slice (some ⟨h8.next, 0, none⟩) 2 cd]) 0 false)
    rw [List.length_replicate]; exact g11
  · show OwS h11 1 (some ⟨h2.next, 0, none⟩) (List.replicate d.N (0 : Int)).length cm (ints .u8 (List.replicate d.N 0))
    rw [List.length_replicate]; exact om4.ext y411 fun i r e => by rw [Blk.at] at r; omega
  · show (List.replicate d.N (0 : Int)).length ≤ 1073741824
    rw [List.length_replicate]; omega
end Go.Dx.SYtpogcjdenefhlaa
