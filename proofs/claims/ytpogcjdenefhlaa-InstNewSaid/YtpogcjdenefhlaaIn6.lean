/- Instances of made modules: Value, room, blocks, New. -/
import Derived.Test.YtpogcjdenefhlaaIn5
namespace Go.Dx.SYtpogcjdenefhlaa
open Go.Proofs
set_option linter.unusedVariables false
set_option linter.unusedSimpArgs false

section
variable {d : Option Nat} {r : List SOp} {e : Env} {h : Heap} {Q : Env → Heap → Prop}
theorem Wops_mkU {size bytes : Nat} {z : List Value} {l c : Arg} {k : Nat} {u : IntKind} (hl : l.ev e = some (.int u k)) (hc : c.ev e = some (.int u k)) (h0 : k ≤ 1099511627776 ∧ k * bytes ≤ 1099511627776)
    (hq : ∀ h' cc, h'.next = h.next + 1 → Ext0 h h' → At h' h.next (.cells (zeros z k) size false) → Wops Try.prog r (e.put d (.slice (some ⟨h.next, 0, none⟩) k cc)) h' Q) : Wops Try.prog (⟨d, none, .mkSl size bytes z l c⟩ :: r) e h Q := by
  refine Wops_run (v := .slice (some ⟨h.next, 0, none⟩) k (bif k.beq 0 then 0 else 1)) (h' := h.add (.cells (zeros z k) size false)) rfl ?_ (hq _ _ rfl (Ext.add _ _) (add_get _ _))
  simp only [SO.run, hl, hc]
  rw [if_pos ⟨by omega, by omega, by omega, by omega⟩]
  simp
end
/-- inst.Value, of a number -/
theorem C25 {h : Heap} {i0 : Nat} {op v : Int} (g : At h i0 (.cells (inC op v) 6 false)) (ho : op = 65 ∨ op = 66) : Fn Try.prog 25 [.slice (some ⟨i0, 0, none⟩) 2 1] h fun x h' => x = .int .u64 v ∧ h = h' := by
  refine Fn.gc (Q := fun x h' => x = .int .u64 v ∧ Ext0 h h') (R := fun x => x = .int .u64 v) ?_ fun x h' q => ⟨q.2, by rw [q.1]; rfl, q.1⟩
  refine fnK F25.fok rfl ?_
  refine K_reg (Wops_run rfl rfl (K_fin [(0, _)] rfl (?_)))
  refine K_ss (K_reg (Wops_run rfl rfl (Wops_run rfl rfl (Wops_run rfl rfl (K_fin [(0, _), (6, _)] rfl (?_))))))
  refine K_scond rfl (fun hc => by cases hc) (fun _ => ?_)
  refine K_sskip (K_ss (K_reg (Wops_run rfl rfl (Wops_iaV rfl rfl ⟨by decide, by decide⟩ (Wops_ldA (l := [.int .i64 op, .int .u32 0, .int .u32 0, .int .u64 v, nilS, .int .i64 0]) rfl g (by simp) rfl (Wops_new fun h1 n1 x1 g1 => ?_))))))
  refine Wops_st (l := [.int .i64 op, .int .u32 0, .int .u32 0, .int .u64 v, nilS, .int .i64 0]) rfl rfl rfl rfl g1 (by simp) rfl fun h2 n2 x2 g2 => ?_
  refine K_fin [(3, _)] rfl (?_)
  replace g2 : At h2 h.next (.cells [.int .i64 op, .int .u32 0, .int .u32 0, .int .u64 v, nilS, .int .i64 0] 0 false) := g2
  have x02 : Ext0 h h2 := x1.then x2 fun j r => .inr (by omega)
  refine K_ss (K_reg (Wops_run rfl rfl ((Wops_ld (v := .int .i64 op) rfl g2 rfl ?_))))
  refine K_fin [(3, _), (11, _)] rfl (?_)
  refine K_sblock ?_
  rcases ho with rfl | rfl
  · refine K_ss (K_reg (Wops_run rfl rfl (Wops_run rfl rfl (K_fin [(3, _), (11, _), (12, _)] rfl (?_)))))
    refine K_scond rfl (fun _ => ?_) (fun hc => by cases hc)
    refine K_sskip (K_cond rfl (fun _ => ?_) (fun hc => by cases hc))
    refine K_reg (Wops_run rfl rfl ((Wops_ld (v := .int .u64 v) rfl g2 rfl ?_)))
    refine Wops_run rfl rfl (K_fin [(2, _)] rfl (?_))
    exact K_ret (Told.mk _ rfl ⟨rfl, x02⟩)
  · refine K_ss (K_reg (Wops_run rfl rfl (Wops_run rfl rfl (K_fin [(3, _), (11, _), (12, _)] rfl (?_)))))
    refine K_scond rfl (fun hc => by cases hc) (fun _ => ?_)
    refine K_reg (Wops_run rfl rfl (Wops_run rfl rfl (K_fin [(3, _), (11, _), (12, _)] rfl (?_))))
    refine K_cond rfl (fun _ => ?_) (fun hc => by cases hc)
    refine K_reg (Wops_run rfl rfl ((Wops_ld (v := .int .u64 v) rfl g2 rfl ?_)))
    refine Wops_run rfl rfl (K_fin [(2, _)] rfl (?_))
    exact K_ret (Told.mk _ rfl ⟨rfl, x02⟩)

abbrev LD.kC (d : LD) (b m t g e dd er : Value) : List Value := d.mc ++ [b, m, t, g, e, dd, er]
abbrev er0 : Value := .int .i64 0
/-- A memory's bytes at first. -/
abbrev LD.N (d : LD) : Nat := 65536 * d.mv.toNat
theorem mvN {mv : Int} (h : mv = 0 ∨ mv = 1) : mv * 65536 = ((65536 * mv.toNat : Nat) : Int) ∧ 65536 * mv.toNat ≤ 65536 := by
  rcases h with rfl | rfl <;> decide
set_option maxHeartbeats 2000000 in
/-- maker.room -/
theorem C23 {h0 h : Heap} {p : Nat} {d : LD} {b g e dd : Value} (q : Lay h0 d) (x0 : Ext0 h0 h) (gk : At h p (.cells (d.kC b nilS nilS g e dd er0) 0 false)) (hp : h0.next ≤ p) :
    Fn Try.prog 23 [ptr p] h fun v h' => ∃ ma mc ta tc t1 t1c, At h' p (.cells (d.kC b (.slice ma d.N mc) (.slice ta 1 tc) g e dd er0) 0 false) ∧ OwS h' 1 ma d.N mc (ints .u8 (List.replicate d.N 0)) ∧ OwS h' 1 ta 1 tc [.slice t1 4 t1c] ∧ OwS h' 1 t1 4 t1c (ints .u64 [0, 0, 0, 0]) ∧
      (∀ i, Blk ma i ∨ Blk ta i ∨ Blk t1 i → h.next ≤ i) ∧ Ext (· = p) h h' := by
  have gl := gk.lt
  have gm := q.gm.ext x0
  have gt := q.gt.ext x0
  have hml := (q.gm).lt
  have htl := (q.gt).lt
  obtain ⟨hN, hN2⟩ := mvN q.mv
  replace hN2 : d.N ≤ 65536 := hN2
  have hmv : 0 ≤ d.mv ∧ d.mv ≤ 1 := by rcases q.mv with r | r <;> omega
  refine fnK F23.fok rfl ?_
  refine K_join (fun e' h' => e' = [(0, ptr p)] ∧ ∃ ma mc, At h' p (.cells (d.kC b (.slice ma d.N mc) nilS g e dd er0) 0 false) ∧ OwS h' 1 ma d.N mc (ints .u8 (List.replicate d.N 0)) ∧ (∀ i, Blk ma i → h.next ≤ i) ∧ Ext (· = p) h h') ?_ ?_
  · refine K_reg (Wops_run rfl rfl (Wops_run rfl rfl (Wops_run rfl rfl (Wops_run rfl rfl (Wops_run rfl rfl ((Wops_ld (v := .slice (some ⟨d.bm, 0, none⟩) 1 1) rfl gk rfl ?_)))))))
    refine Wops_run rfl rfl (K_fin [(0, _), (2, _)] rfl (?_))
    refine K_reg (Wops_run rfl rfl (Wops_run rfl rfl (Wops_run rfl rfl (Wops_run rfl rfl (Wops_go rfl (?_))))))
    refine Wops_run rfl rfl (Wops_go rfl (Wops_iaV rfl rfl ⟨by decide, by decide⟩ (Wops_go rfl (Wops_run rfl rfl (Wops_go rfl (Wops_ld (v := .int .u32 d.mv) rfl gm rfl (Wops_go rfl ?_)))))))
    refine Wops_as (w := .bool false) rfl rfl (by simp; omega) (Wops_run rfl rfl (K_fin [(0, _), (2, _), (20, _)] rfl (?_)))
    refine K_cond rfl (fun hc => by cases hc) (fun _ => ?_)
    refine K_reg (Wops_run rfl rfl (Wops_run rfl rfl (Wops_run rfl rfl (K_fin [(0, _), (2, _), (26, _)] rfl (?_)))))
    refine K_cond rfl (fun _ => ?_) (fun hc => by cases hc)
    refine K_last (Wops_run rfl rfl (Wops_run rfl rfl (Wops_iaV rfl rfl ⟨by decide, by decide⟩ (Wops_run rfl rfl (Wops_ld (v := .int .u32 d.mv) rfl gm rfl ?_)))))
    refine Wops_as (w := .int .i64 d.mv) rfl rfl (by rw [w64 (by omega)]) (Wops_as (w := .int .i64 (d.N : Int)) rfl rfl (by rw [hN, w64 (by omega)]) (Wops_mkSl (k := d.N) rfl rfl ⟨by omega, by omega⟩ fun h1 cc n1 x1 g1 => ?_))
    refine Wops_run rfl rfl (Wops_run rfl rfl (Wops_run rfl rfl (Wops_st (l := [.slice (some ⟨h.next, 0, none⟩) d.N cc]) rfl rfl rfl rfl (gk.ext x1) (by simp) rfl fun h2 n2 x2 g2 => ?_)))
    refine K_finL [(0, _)] rfl ⟨rfl, some ⟨h.next, 0, none⟩, cc, g2, ?_, fun i r => by rw [Blk.at] at r; omega, (x1.of0).then x2 fun i r => .inl r⟩
    rw [← zeros_ints]
    exact (OwS.new (n := d.N) (c := cc) g1 (by rw [zeros_length]; simp)).ext x2 fun i r e => by rw [Blk.at] at r; omega
  rintro e' h1 ⟨rfl, ma, mc, gk1, om, bm, x1⟩
  have x01 : Ext0 h0 h1 := x0.then x1 fun i r => .inr (by omega)
  have z1 := x1.next
  refine K_reg (Wops_run rfl rfl (Wops_run rfl rfl (Wops_run rfl rfl (Wops_run rfl rfl (Wops_run rfl rfl ((Wops_ld (v := .slice (some ⟨d.bt, 0, none⟩) 1 1) rfl gk1 rfl ?_)))))))
  refine Wops_run rfl rfl (Wops_run rfl rfl (K_fin [(0, _), (43, _), (44, _), (45, _)] rfl (?_)))
  refine K_block ?_
  refine K_loop (fun k e' h' => (k = 1 ∧ e' = [(0, ptr p), (43, .slice (some ⟨d.bt, 0, none⟩) 1 1), (44, .int .i64 1), (45, .int .i64 0)] ∧ h' = h1) ∨
    (k = 0 ∧ e' = [(0, ptr p), (43, .slice (some ⟨d.bt, 0, none⟩) 1 1), (44, .int .i64 1), (45, .int .i64 1)] ∧ ∃ ta tc t1 t1c, At h' p (.cells (d.kC b (.slice ma d.N mc) (.slice ta 1 tc) g e dd er0) 0 false) ∧ OwS h' 1 ta 1 tc [.slice t1 4 t1c] ∧ OwS h' 1 t1 4 t1c (ints .u64 [0, 0, 0, 0]) ∧ (∀ i, Blk ta i ∨ Blk t1 i → h1.next ≤ i) ∧ Ext (· = p) h1 h')) ?_ (k := 1) (.inl ⟨rfl, rfl, rfl⟩)
  rintro k e' h2 (⟨rfl, rfl, rfl⟩ | ⟨rfl, rfl, ta, tc, t1, t1c, gk2, ot, o1, b2, x2⟩)
  · refine K_reg (Wops_run rfl rfl (K_fin [(0, _), (43, _), (44, _), (45, _), (46, _)] rfl (?_)))
    refine K_scond rfl (fun _ => ?_) (fun hc => by cases hc)
    refine K_sskip (K_sblock ?_)
    have gt1 := q.gt.ext x01
    refine K_reg (Wops_iaV rfl rfl ⟨by decide, by decide⟩ (Wops_ldA (l := tbC d.tx d.th) rfl gt1 (by simp) rfl (Wops_new fun h3 n3 x3 g3 => ?_)))
    refine Wops_st (l := tbC d.tx d.th) rfl rfl rfl rfl g3 (by simp) rfl fun h4 n4 x4 g4 => ?_
    replace g4 : At h4 h2.next (.cells (tbC d.tx d.th) 0 false) := g4
    refine K_fin [(0, _), (4, _), (43, _), (44, _), (45, _)] rfl (?_)
    refine K_ss (K_reg (Wops_run rfl rfl (Wops_run rfl rfl (Wops_ld (v := .int .u32 4) rfl g4 rfl ?_))))
    refine Wops_run rfl rfl (K_fin [(0, _), (4, _), (43, _), (44, _), (45, _), (52, _)] rfl (?_))
    refine K_scond rfl (fun hc => by cases hc) (fun _ => ?_)
    have x24 : Ext0 h2 h4 := x3.then x4 fun i r => .inr (by omega)
    have gk4 := gk1.ext x24
    refine K_sskip (K_last (Wops_run rfl rfl (Wops_run rfl rfl (Wops_run rfl rfl (Wops_run rfl rfl (Wops_run rfl rfl (Wops_ld (v := nilS) rfl gk4 rfl ?_)))))))
    refine Wops_run rfl rfl (Wops_run rfl rfl (Wops_ld (v := .int .u32 4) rfl g4 rfl ?_))
    refine Wops_mkU (k := 4) rfl rfl ⟨by decide, by decide⟩ fun h5 cc n5 x5 g5 => ?_
    refine Wops_bslice (l := [.slice (some ⟨h4.next, 0, none⟩) 4 cc]) rfl rfl fun h6 n6 x6 g6 => ?_
    have z24 := x24.next
    refine Wops_app (m := 1) rfl rfl OwS.none rfl (OwS.new (n := 1) (c := 1) g6 rfl).sl.first ⟨by omega, by omega⟩ rfl rfl (by decide) fun h7 ta tc x7 ot bt => ?_
    have x27 : Ext0 h2 h7 := ((x24.trans x5).trans x6).then x7 fun i r => absurd r Blk.none
    have gk7 := gk1.ext x27
    refine Wops_run rfl rfl (Wops_run rfl rfl (Wops_run rfl rfl (Wops_st (l := [.slice ta 1 tc]) rfl rfl rfl rfl gk7 (by simp) rfl fun h8 n8 x8 g8 => ?_)))
    refine K_finL [(0, _), (43, _), (44, _), (45, _)] rfl (?_)
    refine K_last (Wops_run rfl rfl (Wops_run rfl rfl (K_finL [(0, _), (43, _), (44, _), (45, _)] rfl (?_))))
    have btn : ∀ i, Blk ta i → h6.next ≤ i := fun i r => (bt i r).elim (fun r => absurd r Blk.none) id
    refine ⟨0, by omega, .inr ⟨rfl, rfl, ta, tc, some ⟨h4.next, 0, none⟩, cc, g8, ot.ext x8 fun i r e => by have := btn i r; omega, ?_, ?_, (x27.of0).then x8 fun i r => .inl r⟩⟩
    · exact (((OwS.new (n := 4) (c := cc) g5 rfl).ext x6).ext x7 fun i _ r => absurd r Blk.none).ext x8 fun i r e => by rw [Blk.at] at r; omega
    · rintro i (r | r)
      · have := btn i r; omega
      · rw [Blk.at] at r; omega
  refine K_reg (Wops_run rfl rfl (K_fin [(0, _), (43, _), (44, _), (45, _), (46, _)] rfl (?_)))
  refine K_scond rfl (fun hc => by cases hc) (fun _ => ?_)
  refine K_sexit (bx_same ?_)
  exact Told.mk [] rfl ⟨ma, mc, ta, tc, t1, t1c, gk2, om.ext x2 fun i r e => by have := bm i r; omega, ot, o1, fun i r => by
    rcases r with r | r
    · exact bm i r
    · have := b2 i r; omega, x1.trans x2⟩
/-- A body of a module's. -/
def CdW (h : Heap) (d : LD) (i : Nat) (w : List Int) : Prop := ∃ (ls : Option Addr × Nat × Nat) (ba : Option Addr) (bn bc : Nat) (l : List Value), (d.cl.drop (i * 2)).take 2 = [.slice ls.1 ls.2.1 ls.2.2, .slice ba bn bc] ∧ Ins h ba bn bc l (w ++ [11]) ∧ Opn [] w
theorem Lay.ws {h : Heap} {d : LD} (q : Lay h d) : ∃ ws : Nat → List Int, ∀ i, i < d.fs.length → CdW h d i (ws i) := by
  have : ∀ i, ∃ w, i < d.fs.length → CdW h d i w := fun i => by
    by_cases hi : i < d.fs.length
    · obtain ⟨ls, ba, bn, bc, l, w, a, b, c⟩ := q.cd i hi
      exact ⟨w, fun _ => ⟨ls, ba, bn, bc, l, a, b, c⟩⟩
    · exact ⟨[], fun r => absurd r hi⟩
  exact ⟨fun i => (this i).choose, fun i hi => (this i).choose_spec hi⟩
/-- Blocks of so many bodies. -/
def BlL (h : Heap) (L : List Value) (n : Nat) (ws : Nat → List Int) : Prop := L.length = n ∧ ∀ i, i < n → ∃ m, L[i]? = some (.map (some m)) ∧ At h m (.map (mapC ((refB (ws i ++ [11])).getD [])))
theorem BlL.ext {T : Nat → Prop} {h h' : Heap} {L : List Value} {n : Nat} {ws : Nat → List Int} (b : BlL h L n ws) (x : Ext T h h') (d : ∀ m o, At h m (.map o) → ¬ T m) : BlL h' L n ws :=
  ⟨b.1, fun i hi => by obtain ⟨m, h1, h2⟩ := b.2 i hi; exact ⟨m, h1, h2.ext x (d m _ h2)⟩⟩
theorem BlL.snoc {h : Heap} {L : List Value} {n m : Nat} {ws : Nat → List Int} {es : Bl} (b : BlL h L n ws) (he : refB (ws n ++ [11]) = some es) (g : At h m (.map (mapC es))) : BlL h (L ++ [.map (some m)]) (n + 1) ws := by
  refine ⟨by simp [b.1], fun i hi => ?_⟩
  by_cases hin : i < n
  · obtain ⟨m', h1, h2⟩ := b.2 i hin
    exact ⟨m', by rw [List.getElem?_append_left (by rw [b.1]; exact hin)]; exact h1, h2⟩
  · obtain rfl : i = n := by omega
    exact ⟨m, by rw [List.getElem?_append_right (by rw [b.1]; exact Nat.le_refl _), b.1, Nat.sub_self]; rfl, by rw [he]; exact g⟩
theorem map_own {h : Heap} {a : Option Addr} {sz n c m : Nat} {l : List Value} {o : List (Value × Value)} (s : OwS h sz a n c l) (g : At h m (.map o)) : ¬ Blk a m := fun r => by
  rcases s.ex with ⟨rfl, -, -⟩ | ⟨id, off, vs, rfl, h2, -, -⟩
  · exact absurd r Blk.none
  · rw [Blk.some] at r; subst r
    have e : some _ = some _ := h2.symm.trans g
    cases e
theorem map_ne {h : Heap} {p m ez : Nat} {cs : List Value} {ro : Bool} {o : List (Value × Value)} (g0 : At h p (.cells cs ez ro)) (g : At h m (.map o)) : m ≠ p := fun r => by
  subst r
  have e : some _ = some _ := g0.symm.trans g
  cases e
theorem code_win {vs cl : List Value} {off i n : Nat} {a b : Value} (hg : ∀ j, j < n * 2 → vs[off + j]? = cl[j]?) (hi : i < n) (ht : (cl.drop (i * 2)).take 2 = [a, b]) : (vs.drop (off + (i : Int).toNat * 2)).take 2 = [a, b] := by
  rw [Int.toNat_natCast, ← ht]
  apply List.ext_getElem?
  intro q
  by_cases hq : q < 2
  · rw [List.getElem?_take_of_lt hq, List.getElem?_drop, List.getElem?_take_of_lt hq, List.getElem?_drop, Nat.add_assoc, hg _ (by omega)]
  · rw [List.getElem?_eq_none (by simp; omega), List.getElem?_eq_none (by simp; omega)]
set_option maxHeartbeats 2000000 in
/-- maker.blocks -/
theorem C24 {h0 h : Heap} {p : Nat} {d : LD} {m t g e dd : Value} {ws : Nat → List Int} (q : Lay h0 d) (hw : ∀ i, i < d.fs.length → CdW h0 d i (ws i)) (x0 : Ext0 h0 h) (gk : At h p (.cells (d.kC nilS m t g e dd er0) 0 false)) (hp : h0.next ≤ p) :
    Fn Try.prog 24 [ptr p] h fun v h' => ∃ aa ac L, At h' p (.cells (d.kC (.slice aa d.fs.length ac) m t g e dd er0) 0 false) ∧ OwS h' 1 aa d.fs.length ac L ∧ BlL h' L d.fs.length ws ∧ (∀ i, Blk aa i → h.next ≤ i) ∧ Ext (· = p) h h' := by
  have gl := gk.lt
  have c3 := q.f3
  obtain ⟨idc, offc, vsc, ezc, roc, hca, gc, hlc, _, hgc⟩ := q.sc.at q.f0
  have hcl := gc.lt
  refine fnK F24.fok rfl ?_
  refine K_reg (Wops_run rfl rfl (Wops_run rfl rfl (Wops_run rfl rfl (Wops_run rfl rfl (Wops_run rfl rfl ((Wops_ld (v := .slice (some ⟨idc, offc, none⟩) d.fs.length d.cc) rfl gk (by rw [← hca]; rfl) ?_)))))))
  refine Wops_run rfl rfl (Wops_run rfl rfl (K_fin [(0, _), (11, _), (12, _), (13, _)] rfl (?_)))
  refine K_block ?_
  refine K_loop (fun k e' h' => ∃ i aa ac L, e' = [(0, ptr p), (11, .slice (some ⟨idc, offc, none⟩) d.fs.length d.cc), (12, .int .i64 (d.fs.length : Int)), (13, .int .i64 ((i : Nat) : Int))] ∧ i ≤ d.fs.length ∧ k = d.fs.length - i ∧
    At h' p (.cells (d.kC (.slice aa i ac) m t g e dd er0) 0 false) ∧ OwS h' 1 aa i ac L ∧ BlL h' L i ws ∧ (∀ i, Blk aa i → h.next ≤ i) ∧ Ext (· = p) h h') ?_ (k := d.fs.length) ⟨0, none, 0, [], rfl, Nat.zero_le _, rfl, gk, OwS.none, ⟨rfl, fun i hi => by omega⟩, fun i r => absurd r Blk.none, Ext.refl _ _⟩
  rintro k e' h1 ⟨i, aa, ac, L, rfl, hi, rfl, gk1, oa, bl, ba1, x1⟩
  have x01 : Ext0 h0 h1 := x0.then x1 fun i r => .inr (by omega)
  have z1 := x1.next
  have z0 := x0.next
  refine K_reg (Wops_run rfl rfl (K_fin [(0, _), (11, _), (12, _), (13, _), (14, _)] rfl (?_)))
  refine K_scond rfl (fun hc => ?_) (fun hc => ?_)
  · have hin : i < d.fs.length := by have := of_decide_eq_true hc; omega
    obtain ⟨ls, ba, bn, bc, l, ht, I, ow⟩ := hw i hin
    obtain ⟨es, hr, -, -, -⟩ := body_run ow
    obtain ⟨dep, hwk, -⟩ := ctrl_some hr
    refine K_sskip (K_sblock ?_)
    refine K_reg (Wops_iaV rfl rfl ⟨by omega, by omega⟩ (Wops_ldA rfl (gc.ext x01) (by rw [Int.toNat_natCast]; omega) (code_win hgc hin ht) (Wops_new fun h2 n2 x2 g2 => ?_)))
    refine Wops_st (l := [.slice ls.1 ls.2.1 ls.2.2, .slice ba bn bc]) rfl rfl rfl rfl g2 (by simp) rfl fun h3 n3 x3 g3 => ?_
    replace g3 : At h3 h1.next (.cells [.slice ls.1 ls.2.1 ls.2.2, .slice ba bn bc] 0 false) := g3
    have x13 : Ext0 h1 h3 := x2.then x3 fun i r => .inr (by omega)
    refine K_fin [(0, _), (3, _), (11, _), (12, _), (13, _)] rfl (?_)
    refine K_reg (Wops_run rfl rfl (Wops_ld (v := .slice ba bn bc) rfl g3 rfl (Wops_call rfl (C48 (I.ext (x01.trans x13))) ?_)))
    rintro v1 h4 ⟨x4, hv1⟩
    obtain ⟨mm, rfl, gm⟩ : ∃ m, v1 = .tuple ⟨[.map (some m), .bool true]⟩ ∧ At h4 m (.map (mapC es)) := by
      rcases hv1 with ⟨e, _⟩ | ⟨es', dep', m, e, e2, g⟩
      · exact absurd hwk (e es dep)
      · rw [hwk] at e; cases e; exact ⟨m, e2, g⟩
    have x14 := x13.trans x4
    have gk4 := gk1.ext x14
    refine Wops_run rfl rfl (Wops_run rfl rfl (Wops_run rfl rfl (Wops_run rfl rfl (Wops_run rfl rfl (K_fin [(0, _), (4, _), (5, _), (11, _), (12, _), (13, _)] rfl (?_))))))
    refine K_ss (K_reg (Wops_run rfl rfl (Wops_run rfl rfl (Wops_run rfl rfl (Wops_skip rfl (Wops_skip rfl (Wops_skip rfl (Wops_skip rfl (Wops_skip rfl (Wops_run rfl rfl (K_fin [(0, _), (4, _), (11, _), (12, _), (13, _), (31, _)] rfl (?_))))))))))))
    refine K_scond rfl (fun hc => by cases hc) (fun _ => ?_)
    refine K_sskip (K_last (Wops_run rfl rfl (Wops_run rfl rfl (Wops_run rfl rfl (Wops_run rfl rfl (Wops_run rfl rfl (Wops_ld (v := .slice aa i ac) rfl gk4 rfl ?_)))))))
    refine Wops_run rfl rfl (Wops_bslice (l := [.map (some mm)]) rfl rfl fun h5 n5 x5 g5 => ?_)
    have x15 := x14.trans x5
    have z15 := x15.next
    refine Wops_app (m := 1) rfl rfl (oa.ext x15) rfl (OwS.new (n := 1) (c := 1) g5 rfl).sl.first ⟨by omega, by omega⟩ rfl rfl (by decide) fun h6 aa' ac' x6 oa' ba' => ?_
    have gk5 := gk1.ext x15
    have gk6 := gk5.ext x6 fun r => by have := ba1 _ r; omega
    have bl5 : BlL h5 (L ++ [.map (some mm)]) (i + 1) ws := (bl.ext x15 fun _ _ _ r => r).snoc hr (gm.ext x5)
    have bl6 := bl5.ext x6 fun m o gg => map_own (oa.ext x15) gg
    refine Wops_run rfl rfl (Wops_run rfl rfl (Wops_run rfl rfl (Wops_st (l := [.slice aa' (i + 1) ac']) rfl rfl rfl rfl gk6 (by simp) rfl fun h7 n7 x7 g7 => ?_)))
    refine K_finL [(0, _), (11, _), (12, _), (13, _)] rfl (?_)
    refine K_last (Wops_run rfl rfl (Wops_run rfl rfl (K_finL [(0, _), (11, _), (12, _), (13, _)] rfl (?_))))
    have ban : ∀ i, Blk aa' i → h.next ≤ i := fun i r => (ba' i r).elim (ba1 i) fun r => by omega
    exact ⟨d.fs.length - (i + 1), by omega, i + 1, aa', ac', _, by rw [w64s (by omega)], by omega, rfl, g7, oa'.ext x7 fun i r e => by have := ban i r; omega, bl6.ext x7 fun m o gg => map_ne gk6 gg, ban, ((x1.then0 x15).then x6 fun i r => .inr (ba1 i r)).then x7 fun i r => .inl r⟩
  · obtain rfl : i = d.fs.length := by have := of_decide_eq_false hc; omega
    refine K_sexit (bx_same ?_)
    exact Told.mk [] rfl ⟨aa, ac, L, gk1, oa, bl, ba1, x1⟩
end Go.Dx.SYtpogcjdenefhlaa
