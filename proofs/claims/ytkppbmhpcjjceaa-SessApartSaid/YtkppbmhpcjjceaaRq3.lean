/- Contracts of req's reader. -/
import Derived.Test.YtkppbmhpcjjceaaRq2
namespace Go.Dx.SYtkppbmhpcjjceaa
open Go.Proofs
set_option linter.unusedVariables false
set_option linter.unusedSimpArgs false

/-- A reader lies in memory. -/
def Cu (h : Heap) (p B : Nat) (s : Rd) (rest : List Value) : Prop :=
  (∀ x ∈ s.1, x < 256) ∧ ∃ a c, At h p (.cells (.slice a s.1.length c :: .int .i64 s.2 :: rest) 0 false) ∧ SlA h 1 a s.1.length c (bys s.1) ∧ s.1.length ≤ 100000 ∧ B ≤ p ∧ ∀ i, Blk a i → i < B
theorem Cu.ext0 {h h' : Heap} {p B : Nat} {s : Rd} {rest : List Value} (q : Cu h p B s rest) (x : Ext0 h h') : Cu h' p B s rest := by
  obtain ⟨hx, a, c, g, sl, hb, hd⟩ := q
  exact ⟨hx, a, c, g.ext x, sl.ext x, hb, hd⟩
theorem Cu.ext {S : Nat → Prop} {h h' : Heap} {p B : Nat} {s : Rd} {rest : List Value} (q : Cu h p B s rest) (x : Ext S h h') (hp : ¬ S p) (hB : ∀ i, S i → B ≤ i) : Cu h' p B s rest := by
  obtain ⟨hx, a, c, g, sl, hb, hd⟩ := q
  exact ⟨hx, a, c, g.ext x hp, sl.ext x fun i r z => (by have := hd.2 i r; have := hB i z; omega), hb, hd⟩
theorem Cu.lt {h : Heap} {p B : Nat} {s : Rd} {rest : List Value} (q : Cu h p B s rest) : p < h.next := by
  obtain ⟨hx, a, c, g, sl, hb, hd⟩ := q
  exact g.lt
theorem bys_sub {xs : List Nat} {i j : Nat} : ((bys xs).drop (i * 1)).take ((j - i) * 1) = bys ((xs.drop i).take (j - i)) := by simp [bys, List.map_drop, List.map_take]

/-- cursor.fails -/
theorem C63 {h : Heap} {p B : Nat} {s : Rd} {rest : List Value} {b : Bool} {e : Int} (q : Cu h p B s rest) :
    Fn Try.prog 63 [ptr p, .bool b, .int .i64 e] h fun v h' => Cu h' p B (failS b e s) rest ∧ Ext (· = p) h h' := by
  obtain ⟨hx, a, c, g, sl, hb, hd⟩ := id q
  refine fnK F63.fok rfl ?_
  cases b with
  | false =>
    refine K_reg (Wops_run rfl rfl (Wops_run rfl rfl (Wops_skip rfl (Wops_skip rfl (Wops_skip rfl (Wops_skip rfl (Wops_skip rfl (Wops_run rfl rfl (K_fin [(0, _), (2, _), (13, _)] rfl (?_))))))))))
    refine K_cond rfl (fun hc => by cases hc) (fun _ => K_skip (Told.mk [] rfl ⟨?_, Ext.refl _ _⟩))
    simpa [failS] using q
  | true =>
    refine K_reg (Wops_run rfl rfl (Wops_run rfl rfl (Wops_go rfl (Wops_run rfl rfl (Wops_go rfl (Wops_run rfl rfl (Wops_go rfl (Wops_run rfl rfl (Wops_go rfl (Wops_ld (v := .int .i64 s.2) rfl g rfl (Wops_go rfl ?_)))))))))))
    by_cases h0 : s.2 = 0
    · refine Wops_as (w := .bool true) rfl rfl (by simp [h0]) (Wops_run rfl rfl (K_fin [(0, _), (2, _), (13, _)] rfl (?_)))
      refine K_cond rfl (fun _ => ?_) (fun hc => by cases hc)
      refine K_last (Wops_run rfl rfl (Wops_run rfl rfl (Wops_run rfl rfl (Wops_run rfl rfl (Wops_st (l := [.int .i64 e]) rfl rfl rfl rfl g (by simp) rfl fun h1 n1 x1 g1 => K_finL [] rfl (?_))))))
      refine Told.mk [] rfl ⟨?_, x1⟩
      have hf : failS true e s = (s.1, e) := by simp [failS, h0]
      rw [hf]
      exact ⟨hx, a, c, g1, sl.ext x1 fun i r z => by have := hd.1; have := hd.2 i r; omega, hb, hd⟩
    · refine Wops_as (w := .bool false) rfl rfl (by simp [h0]) (Wops_run rfl rfl (K_fin [(0, _), (2, _), (13, _)] rfl (?_)))
      refine K_cond rfl (fun hc => by cases hc) (fun _ => K_skip (Told.mk [] rfl ⟨?_, Ext.refl _ _⟩))
      have hf : failS true e s = s := by simp [failS, h0]
      rw [hf]; exact q

theorem failS_ok {b : Bool} {e : Int} {s : Rd} (he : e ≠ 0) (h : (failS b e s).2 = 0) : b = false ∧ failS b e s = s := by
  unfold failS at h ⊢
  by_cases hc : b = true ∧ s.2 = 0
  · rw [if_pos hc] at h; exact absurd h he
  · rw [if_neg hc] at h
    refine ⟨?_, if_neg hc⟩
    cases b with
    | false => rfl
    | true => exact absurd ⟨rfl, h⟩ hc

/-- cursor.bytes -/
theorem C83 {h : Heap} {p B n : Nat} {s : Rd} {rest : List Value} (q : Cu h p B s rest) (hn : n < 18446744073709551616) :
    Fn Try.prog 83 [ptr p, .int .u64 (n : Int)] h fun v h' => Cu h' p B (bytesS n s).2 rest ∧ Ext (· = p) h h' ∧ ∃ a' c', v = .slice a' (bytesS n s).1.length c' ∧ OwS h' 1 a' (bytesS n s).1.length c' (bys (bytesS n s).1) ∧ ∀ i, Blk a' i → h.next ≤ i := by
  obtain ⟨hx, a, c, g, sl, hb, hd⟩ := id q
  refine fnK F83.fok rfl ?_
  refine K_reg (Wops_run rfl rfl (K_fin [(0, _), (1, _)] rfl (?_)))
  refine K_reg (Wops_run rfl rfl (Wops_run rfl rfl (Wops_run rfl rfl (Wops_run rfl rfl (Wops_run rfl rfl (Wops_ld rfl g rfl (Wops_run rfl rfl (Wops_as (w := .int .u64 (s.1.length : Int)) rfl rfl (by rw [wr64m, Nat.mod_eq_of_lt (by omega)]) (Wops_as (w := .bool (decide (s.1.length < n))) rfl rfl (by congr 1; exact decide_eq_decide.2 (by omega)) (Wops_call rfl (C63 q) ?_))))))))))
  rintro _ h1 ⟨q1, x1⟩
  have hbs : bytesS n s = if (failS (decide (s.1.length < n)) 3 s).2 ≠ 0 then ([], failS (decide (s.1.length < n)) 3 s) else (s.1.take n, s.1.drop n, 0) := rfl
  refine K_fin [(0, _), (1, _)] rfl (?_)
  obtain ⟨hx1, a1, c1, g1, sl1, hb1, hd1⟩ := id q1
  refine K_ss (K_reg (Wops_run rfl rfl (Wops_run rfl rfl (Wops_run rfl rfl (Wops_ld (v := .int .i64 (failS (decide (s.1.length < n)) 3 s).2) rfl g1 rfl ?_)))))
  by_cases h0 : (failS (decide (s.1.length < n)) 3 s).2 = 0
  · obtain ⟨hd0, hs1⟩ := failS_ok (by decide) h0
    have hle : n ≤ s.1.length := by have := of_decide_eq_false hd0; omega
    rw [if_neg (fun w => w h0)] at hbs
    rw [hbs]
    rw [hs1] at g1 sl1 hb1 q1
    have hs0 : s.2 = 0 := by rw [hs1] at h0; exact h0
    refine Wops_as (w := .bool false) rfl rfl (by simp [h0]) (K_fin [(0, _), (1, _), (20, _)] rfl (?_))
    refine K_scond rfl (fun hc => by cases hc) (fun _ => ?_)
    have hsub := sl1.sub (i := 0) (j := n) (Nat.zero_le _) hle
    rw [bys_sub] at hsub
    have hlen : (s.1.take n).length = n := by rw [List.length_take]; omega
    refine K_sskip (K_reg (Wops_run rfl rfl (Wops_run rfl rfl (Wops_run rfl rfl (Wops_ld rfl g1 rfl (Wops_run rfl rfl (Wops_slV (lov := none) (hiv := some (.int .u64 (n : Int))) rfl rfl rfl sl1.ok (bounds_hi hle) (Wops_call rfl (C72 hsub (by omega)) ?_))))))))
    rintro _ h2 ⟨a2, c2, rfl, o2, x2, b2⟩
    refine Wops_run rfl rfl (K_fin [(0, _), (1, _), (5, _)] rfl (?_))
    have g2 := g1.ext x2
    have sl2 := sl1.ext x2
    have hsub2 := sl2.sub (i := n) (j := s.1.length) hle (Nat.le_refl _)
    rw [bys_sub] at hsub2
    have z1 := x1.next
    have hp := g.lt
    have htk : (s.1.drop n).take (s.1.length - n) = s.1.drop n := List.take_of_length_le (by simp)
    have hdl : (s.1.drop n).length = s.1.length - n := by simp
    rw [htk] at hsub2
    refine K_reg (Wops_run rfl rfl (Wops_run rfl rfl (Wops_run rfl rfl (Wops_run rfl rfl (Wops_ld rfl g2 rfl (Wops_run rfl rfl (Wops_slV (lov := some (.int .u64 (n : Int))) (hiv := none) rfl rfl rfl sl2.ok (bounds_lo hle) (Wops_run rfl rfl (Wops_run rfl rfl (Wops_st (l := [.slice (shift a1 (n * 1)) (s.1.length - n) c1]) rfl rfl rfl rfl g2 (by simp) rfl fun h3 n3 x3 g3 => K_fin [(5, _)] rfl (?_)))))))))))
    refine K_reg (Wops_run rfl rfl (Wops_run rfl rfl (K_fin [(4, _)] rfl (?_))))
    have hne : ∀ i, Blk a2 i → ¬ i = p := fun i r => by have := b2 i r; omega
    refine K_ret (Told.mk _ rfl ⟨⟨fun x hxm => hx x (List.mem_of_mem_drop hxm), shift a1 (n * 1), c1, ?_, ?_, ?_, ?_⟩, (x1.then0 x2).trans x3, a2, c2, ?_, ?_, fun i r => by have := b2 i r; omega⟩)
    · rw [hdl, ← hs0]; exact g3
    · rw [hdl]; exact hsub2.ext x3 fun i r z => by have := hd1.1; have := hd1.2 i (shift_blk.1 r); omega
    · rw [hdl]; omega
    · exact ⟨hd1.1, fun i r => hd1.2 i (shift_blk.1 r)⟩
    · rw [hlen]; rfl
    · rw [hlen]
      have := o2.ext x3 hne
      simpa using this
  · rw [if_pos h0] at hbs
    rw [hbs]
    refine Wops_as (w := .bool true) rfl rfl (by simp [h0]) (K_fin [(0, _), (1, _), (20, _)] rfl (?_))
    refine K_scond rfl (fun _ => ?_) (fun hc => by cases hc)
    refine K_ss (K_reg (Wops_run rfl rfl (K_fin [(4, _)] rfl (?_))))
    exact K_sret (Told.mk _ rfl ⟨q1, x1, none, 0, rfl, OwS.none, fun i r => absurd r Blk.none⟩)

theorem dec_lt (xs : List Nat) : dec xs < 18446744073709551616 := by
  rcases List.eq_nil_or_concat xs with rfl | ⟨l, x, rfl⟩
  · decide
  · unfold dec; rw [List.concat_eq_append, List.foldl_append]; exact Nat.mod_lt _ (by decide)
theorem dec_snoc (xs : List Nat) (x : Nat) : dec (xs ++ [x]) = (dec xs * 256 + x) % 18446744073709551616 := by unfold dec; rw [List.foldl_append]; rfl
theorem shl8 {v : Nat} {kk : IntKind} : binV .shl (.int .u64 (v : Int)) (.int kk 8) = some (.int .u64 ((v * 256 % 18446744073709551616 : Nat) : Int)) := by
  show some (Value.int .u64 (IntKind.wrap .u64 ((v : Int) * 256))) = _
  have : (v : Int) * 256 = ((v * 256 : Nat) : Int) := by simp
  rw [this, wr64m]

/-- cursor.fixed -/
theorem C62 {h : Heap} {p B n : Nat} {s : Rd} {rest : List Value} (q : Cu h p B s rest) (hn : n < 18446744073709551616) :
    Fn Try.prog 62 [ptr p, .int .u64 (n : Int)] h fun v h' => Cu h' p B (fixedS n s).2 rest ∧ Ext (· = p) h h' ∧ v = .int .u64 ((fixedS n s).1 : Int) := by
  refine fnK F62.fok rfl ?_
  refine K_reg (Wops_run rfl rfl (K_fin [(0, _), (1, _), (4, _)] rfl (?_)))
  refine K_ss (K_reg (Wops_run rfl rfl (Wops_run rfl rfl (Wops_call rfl (C83 q hn) ?_))))
  rintro _ h1 ⟨q1, x1, a', c', rfl, o, b'⟩
  refine Wops_run rfl rfl (Wops_run rfl rfl (K_fin [(4, _), (9, _), (10, _), (11, _)] rfl (?_)))
  have hxs : ∀ x ∈ (bytesS n s).1, x < 256 := by
    unfold bytesS
    split
    · intro x hx; cases hx
    · exact fun x hx => q.1 x (List.mem_of_mem_take hx)
  have hlen : (bytesS n s).1.length ≤ 100000 := by
    obtain ⟨hx, a, c, g, sl, hb, hd⟩ := q
    unfold bytesS
    split
    · exact Nat.zero_le _
    · show (s.1.take n).length ≤ _
      rw [List.length_take]; omega
  show W _ _ _ _ (K3 (Told _ fun v h' => Cu h' p B (bytesS n s).2 rest ∧ Ext (· = p) h h' ∧ v = .int .u64 ((dec (bytesS n s).1 : Nat) : Int)) _ (Told _ fun v h' => Cu h' p B (bytesS n s).2 rest ∧ Ext (· = p) h h' ∧ v = .int .u64 ((dec (bytesS n s).1 : Nat) : Int)))
  generalize hr : (bytesS n s).1 = r at o hxs hlen ⊢
  refine K_sblock ?_
  refine K_loop (fun k e h' => ∃ i : Nat, e = [(4, .int .u64 ((dec (r.take i) : Nat) : Int)), (9, .slice a' r.length c'), (10, .int .i64 (r.length : Int)), (11, .int .i64 (i : Int))] ∧ h1 = h' ∧ i ≤ r.length ∧ k = r.length - i) ?_ (k := r.length) ⟨0, rfl, rfl, by omega, rfl⟩
  rintro k e h' ⟨i, rfl, rfl, hi, rfl⟩
  refine K_reg (Wops_run rfl rfl (K_fin [(4, _), (9, _), (10, _), (11, _), (12, _)] rfl (?_)))
  refine K_scond rfl (fun hc => ?_) (fun hc => ?_)
  · have hlt : i < r.length := by have := of_decide_eq_true hc; omega
    have hxi : r[i] < 256 := hxs _ (List.getElem_mem _)
    have htk : r.take (i + 1) = r.take i ++ [r[i]] := by rw [List.take_add_one, List.getElem?_eq_getElem hlt, Option.toList_some]
    have hdl := dec_lt (r.take i)
    generalize hxd : r[i] = x at hxi htk
    refine K_sskip (K_sblock ?_)
    refine K_reg (Wops_idx (u := .int .u8 (x : Int)) rfl rfl o.sl ⟨by omega, by omega⟩ (by simp [bys, hlt, hxd]) fun _ => ?_)
    refine Wops_run rfl rfl (K_fin [(4, _), (6, _), (9, _), (10, _), (11, _)] rfl (?_))
    refine K_last (Wops_run rfl rfl (Wops_as (w := .int .u64 ((dec (r.take i) * 256 % 18446744073709551616 : Nat) : Int)) rfl rfl (Option.some.inj (shl8 (kk := .u64))) (Wops_run rfl rfl (Wops_as (w := .int .u64 (x : Int)) rfl rfl (by rw [wr64m, Nat.mod_eq_of_lt (by omega)]) (Wops_as (w := .int .u64 ((dec (r.take (i + 1)) : Nat) : Int)) rfl rfl ?_ (Wops_run rfl rfl (K_finL [(4, _), (9, _), (10, _), (11, _)] rfl (?_))))))))
    · refine (Option.some.inj (orN (Nat.mod_lt _ (by decide)) (by omega))).trans ?_
      congr 2
      have e1 : dec (r.take i) * 256 % 18446744073709551616 = (dec (r.take i) % 72057594037927936) * 2 ^ 8 := by omega
      rw [e1, Nat.or_comm, orAdd (by show x < 256; exact hxi), htk, dec_snoc]
      omega
    refine K_last (Wops_run rfl rfl (Wops_run rfl rfl (K_finL [(4, _), (9, _), (10, _), (11, _)] rfl (?_))))
    exact ⟨r.length - (i + 1), by omega, i + 1, by rw [w64s (by omega)], rfl, by omega, rfl⟩
  · have hin : i = r.length := by have := of_decide_eq_false hc; omega
    refine K_sexit (bx_same ?_)
    refine K_reg (Wops_run rfl rfl (Wops_run rfl rfl (K_fin [(4, _)] rfl (?_))))
    refine K_ret (Told.mk _ rfl ⟨q1, x1, ?_⟩)
    rw [List.take_of_length_le (by omega)]; rfl

/-- cursor.number -/
theorem C64 {h : Heap} {p B : Nat} {s : Rd} {rest : List Value} (q : Cu h p B s rest) :
    Fn Try.prog 64 [ptr p] h fun v h' => Cu h' p B (numberS s).2 rest ∧ Ext (· = p) h h' ∧ v = .int .u64 ((numberS s).1 : Int) := by
  obtain ⟨hx, a, c, g, sl, hb, hd⟩ := id q
  refine fnK F64.fok rfl ?_
  refine K_reg (Wops_run rfl rfl (K_fin [(0, _)] rfl (?_)))
  refine K_ss (K_reg (Wops_run rfl rfl (Wops_run rfl rfl (Wops_run rfl rfl (Wops_ld (v := .int .i64 s.2) rfl g rfl ?_)))))
  by_cases h0 : s.2 = 0
  · have hns : numberS s = ((rdL 64 0 0 s.1).1, s.1.drop (rdL 64 0 0 s.1).2.1, (rdL 64 0 0 s.1).2.2) := by unfold numberS; rw [if_neg (fun w => w h0)]
    rw [hns]
    have hle : (rdL 64 0 0 s.1).2.1 ≤ s.1.length := by have := rdL_len (size := 64) s.1 0 0; omega
    refine Wops_as (w := .bool false) rfl rfl (by simp [h0]) (K_fin [(0, _), (10, _)] rfl (?_))
    refine K_scond rfl (fun hc => by cases hc) (fun _ => ?_)
    refine K_sskip (K_reg (Wops_run rfl rfl (Wops_run rfl rfl (Wops_run rfl rfl (Wops_ld rfl g rfl (Wops_call rfl (C87 sl hb hx) ?_))))))
    rintro _ _ ⟨rfl, rfl⟩
    generalize rdL 64 0 0 s.1 = r at hle ⊢
    obtain ⟨v, n, er⟩ := r
    have hle' : n ≤ s.1.length := hle
    refine Wops_run rfl rfl (Wops_run rfl rfl (Wops_run rfl rfl (Wops_run rfl rfl (Wops_run rfl rfl (Wops_run rfl rfl (Wops_run rfl rfl (K_fin [(0, _), (3, _), (4, _), (5, _)] rfl (?_))))))))
    have hsub2 := sl.sub (i := n) (j := s.1.length) hle' (Nat.le_refl _)
    rw [bys_sub] at hsub2
    have htk : (s.1.drop n).take (s.1.length - n) = s.1.drop n := List.take_of_length_le (by simp)
    have hdl : (s.1.drop n).length = s.1.length - n := by simp
    rw [htk] at hsub2
    refine K_reg (Wops_run rfl rfl (Wops_run rfl rfl (Wops_run rfl rfl (Wops_run rfl rfl (Wops_run rfl rfl (Wops_ld rfl g rfl (Wops_run rfl rfl (Wops_slV (lov := some (.int .i64 (n : Int))) (hiv := none) rfl rfl rfl sl.ok (bounds_lo hle') (Wops_run rfl rfl (Wops_run rfl rfl (Wops_run rfl rfl (Wops_st (l := [.slice (shift a (n * 1)) (s.1.length - n) c]) rfl rfl rfl rfl g (by simp) rfl fun h3 n3 x3 g3 => ?_))))))))))))
    refine Wops_run rfl rfl (Wops_run rfl rfl (Wops_st (l := [.int .i64 er]) rfl rfl rfl rfl g3 (by simp [putL]) rfl fun h4 n4 x4 g4 => K_fin [(3, _)] rfl (?_)))
    refine K_reg (Wops_run rfl rfl (Wops_run rfl rfl (K_fin [(2, _)] rfl (?_))))
    refine K_ret (Told.mk _ rfl ⟨⟨fun x hxm => hx x (List.mem_of_mem_drop hxm), shift a (n * 1), c, ?_, ?_, ?_, ?_⟩, x3.trans x4, rfl⟩)
    · show At h4 p (.cells (.slice _ (s.1.drop n).length c :: .int .i64 er :: rest) 0 false)
      rw [hdl]; exact g4
    · show SlA h4 1 _ (s.1.drop n).length c (bys (s.1.drop n))
      rw [hdl]; exact hsub2.ext (x3.trans x4) fun i r z => by have := hd.1; have := hd.2 i (shift_blk.1 r); omega
    · show (s.1.drop n).length ≤ _
      rw [hdl]; omega
    · exact ⟨hd.1, fun i r => hd.2 i (shift_blk.1 r)⟩
  · have hns : numberS s = (0, s) := by unfold numberS; rw [if_pos h0]
    rw [hns]
    refine Wops_as (w := .bool true) rfl rfl (by simp [h0]) (K_fin [(0, _), (10, _)] rfl (?_))
    refine K_scond rfl (fun _ => ?_) (fun hc => by cases hc)
    refine K_ss (K_reg (Wops_run rfl rfl (K_fin [(2, _)] rfl (?_))))
    exact K_sret (Told.mk _ rfl ⟨q, Ext.refl _ _, rfl⟩)

/-- cursor.count -/
theorem C88 {h : Heap} {p B most : Nat} {s : Rd} {rest : List Value} (q : Cu h p B s rest) :
    Fn Try.prog 88 [ptr p, .int .u32 (most : Int)] h fun v h' => Cu h' p B (countS most s).2 rest ∧ Ext (· = p) h h' ∧ v = .int .u64 ((countS most s).1 : Int) := by
  obtain ⟨hx, a, c, g, sl, hb, hd⟩ := id q
  refine fnK F88.fok rfl ?_
  refine K_reg (Wops_run rfl rfl (K_fin [(0, _), (1, _)] rfl (?_)))
  refine K_ss (K_reg (Wops_run rfl rfl (Wops_run rfl rfl (Wops_run rfl rfl (Wops_ld (v := .int .i64 s.2) rfl g rfl ?_)))))
  by_cases h0 : s.2 = 0
  · have hns : countS most s = ((rdL 32 0 0 s.1).1, failS (decide ((rdL 32 0 0 s.1).1 > most)) 4 (s.1.drop (rdL 32 0 0 s.1).2.1, (rdL 32 0 0 s.1).2.2)) := by unfold countS; rw [if_neg (fun w => w h0)]
    rw [hns]
    have hle : (rdL 32 0 0 s.1).2.1 ≤ s.1.length := by have := rdL_len (size := 32) s.1 0 0; omega
    have hlt := rdL_lt (size := 32) s.1 0 0 (by decide) (by decide) hx
    refine Wops_as (w := .bool false) rfl rfl (by simp [h0]) (K_fin [(0, _), (1, _), (12, _)] rfl (?_))
    refine K_scond rfl (fun hc => by cases hc) (fun _ => ?_)
    refine K_sskip (K_reg (Wops_run rfl rfl (Wops_run rfl rfl (Wops_run rfl rfl (Wops_ld rfl g rfl (Wops_call rfl (C97 sl hb hx) ?_))))))
    rintro _ _ ⟨rfl, rfl⟩
    generalize rdL 32 0 0 s.1 = r at hle hlt ⊢
    obtain ⟨v, n, er⟩ := r
    have hle' : n ≤ s.1.length := hle
    have hlt' : v < 4294967296 := hlt
    refine Wops_run rfl rfl (Wops_run rfl rfl (Wops_run rfl rfl (Wops_run rfl rfl (Wops_run rfl rfl (Wops_run rfl rfl (Wops_run rfl rfl (K_fin [(0, _), (1, _), (5, _), (6, _), (7, _)] rfl (?_))))))))
    have hsub2 := sl.sub (i := n) (j := s.1.length) hle' (Nat.le_refl _)
    rw [bys_sub] at hsub2
    have htk : (s.1.drop n).take (s.1.length - n) = s.1.drop n := List.take_of_length_le (by simp)
    have hdl : (s.1.drop n).length = s.1.length - n := by simp
    rw [htk] at hsub2
    refine K_reg (Wops_run rfl rfl (Wops_run rfl rfl (Wops_run rfl rfl (Wops_run rfl rfl (Wops_run rfl rfl (Wops_ld rfl g rfl (Wops_run rfl rfl (Wops_slV (lov := some (.int .i64 (n : Int))) (hiv := none) rfl rfl rfl sl.ok (bounds_lo hle') (Wops_run rfl rfl (Wops_run rfl rfl (Wops_run rfl rfl (Wops_st (l := [.slice (shift a (n * 1)) (s.1.length - n) c]) rfl rfl rfl rfl g (by simp) rfl fun h3 n3 x3 g3 => ?_))))))))))))
    refine Wops_run rfl rfl (Wops_run rfl rfl (Wops_st (l := [.int .i64 er]) rfl rfl rfl rfl g3 (by simp [putL]) rfl fun h4 n4 x4 g4 => K_fin [(0, _), (1, _), (5, _)] rfl (?_)))
    have q4 : Cu h4 p B (s.1.drop n, er) rest := by
      refine ⟨fun x hxm => hx x (List.mem_of_mem_drop hxm), shift a (n * 1), c, ?_, ?_, ?_, ?_⟩
      · show At h4 p (.cells (.slice _ (s.1.drop n).length c :: .int .i64 er :: rest) 0 false)
        rw [hdl]; exact g4
      · show SlA h4 1 _ (s.1.drop n).length c (bys (s.1.drop n))
        rw [hdl]; exact hsub2.ext (x3.trans x4) fun i r z => by have := hd.1; have := hd.2 i (shift_blk.1 r); omega
      · show (s.1.drop n).length ≤ _
        rw [hdl]; omega
      · exact ⟨hd.1, fun i r => hd.2 i (shift_blk.1 r)⟩
    refine K_reg (Wops_run rfl rfl (Wops_run rfl rfl (Wops_run rfl rfl (Wops_as (w := .bool (decide (v > most))) rfl rfl (by congr 1; exact decide_eq_decide.2 (by omega)) (Wops_call rfl (C63 q4) ?_)))))
    rintro _ h5 ⟨q5, x5⟩
    refine K_fin [(5, _)] rfl (?_)
    refine K_reg (Wops_run rfl rfl (Wops_as (w := .int .u64 (v : Int)) rfl rfl (by rw [wr64m, Nat.mod_eq_of_lt (by omega)]) (Wops_run rfl rfl (K_fin [(4, _)] rfl (?_)))))
    exact K_ret (Told.mk _ rfl ⟨q5, (x3.trans x4).trans x5, rfl⟩)
  · have hns : countS most s = (0, s) := by unfold countS; rw [if_pos h0]
    rw [hns]
    refine Wops_as (w := .bool true) rfl rfl (by simp [h0]) (K_fin [(0, _), (1, _), (12, _)] rfl (?_))
    refine K_scond rfl (fun _ => ?_) (fun hc => by cases hc)
    refine K_ss (K_reg (Wops_run rfl rfl (K_fin [(4, _)] rfl (?_))))
    exact K_sret (Told.mk _ rfl ⟨q, Ext.refl _ _, rfl⟩)

/-- cursor.end -/
theorem C45 {h : Heap} {p B : Nat} {s : Rd} {rest : List Value} (q : Cu h p B s rest) :
    Fn Try.prog 45 [ptr p] h fun v h' => Cu h' p B (endS s) rest ∧ Ext (· = p) h h' ∧ v = .int .i64 (endS s).2 := by
  obtain ⟨hx, a, c, g, sl, hb, hd⟩ := id q
  refine fnK F45.fok rfl ?_
  refine K_reg (Wops_run rfl rfl (K_fin [(0, _)] rfl (?_)))
  refine K_reg (Wops_run rfl rfl (Wops_run rfl rfl (Wops_run rfl rfl (Wops_run rfl rfl (Wops_ld rfl g rfl (Wops_run rfl rfl (Wops_as (w := .bool (decide (0 < s.1.length))) rfl rfl (by congr 1; exact decide_eq_decide.2 (by omega)) (Wops_call rfl (C63 q) ?_))))))))
  rintro _ h1 ⟨q1, x1⟩
  refine K_fin [(0, _)] rfl (?_)
  obtain ⟨hx1, a1, c1, g1, sl1, hb1, hd1⟩ := id q1
  refine K_reg (Wops_run rfl rfl (Wops_run rfl rfl (Wops_run rfl rfl (Wops_ld (v := .int .i64 (endS s).2) rfl g1 rfl (Wops_run rfl rfl (K_fin [(2, _)] rfl (?_)))))))
  exact K_ret (Told.mk _ rfl ⟨q1, x1, rfl⟩)

theorem countS_ok {most : Nat} {s : Rd} (h : (countS most s).2.2 = 0) : (countS most s).1 ≤ most := by
  by_cases h0 : s.2 = 0
  · have hns : countS most s = ((rdL 32 0 0 s.1).1, failS (decide ((rdL 32 0 0 s.1).1 > most)) 4 (s.1.drop (rdL 32 0 0 s.1).2.1, (rdL 32 0 0 s.1).2.2)) := by unfold countS; rw [if_neg (fun w => w h0)]
    rw [hns] at h ⊢
    have := (failS_ok (by decide) h).1
    have := of_decide_eq_false this
    show (rdL 32 0 0 s.1).1 ≤ most
    omega
  · have hns : countS most s = (0, s) := by unfold countS; rw [if_pos h0]
    rw [hns]; exact Nat.zero_le _

/-- cursor.numbers -/
theorem C65 {h : Heap} {p B : Nat} {s : Rd} {rest : List Value} (q : Cu h p B s rest) :
    Fn Try.prog 65 [ptr p] h fun v h' => Cu h' p B (numbersS s).2 rest ∧ Ext (· = p) h h' ∧ ∃ a' c', v = .slice a' (numbersS s).1.length c' ∧ OwS h' 1 a' (numbersS s).1.length c' (u64s (numbersS s).1) ∧ ∀ i, Blk a' i → h.next ≤ i := by
  have hp := q.lt
  refine fnK F65.fok rfl ?_
  refine K_reg (Wops_run rfl rfl (K_fin [(0, _)] rfl (?_)))
  refine K_reg (Wops_run rfl rfl (K_fin [(0, _), (3, _)] rfl (?_)))
  refine K_ss (K_reg (Wops_run rfl rfl (Wops_call rfl (C88 (most := 8) q) ?_)))
  rintro _ h1 ⟨q1, x1, rfl⟩
  refine Wops_run rfl rfl (K_fin [(0, _), (3, _), (4, _)] rfl (?_))
  have hc8 := countS_ok (most := 8) (s := s)
  have z1 := x1.next
  refine K_sblock ?_
  refine K_loop (fun k e h' => ∃ (l : List Nat) (s' : Rd) (la : Option Addr) (lc : Nat), e = [(0, ptr p), (3, .slice la l.length lc), (4, .int .u64 (k : Int))] ∧ numbersL k l s' = numbersS s ∧ (s'.2 = 0 → k + l.length ≤ 8) ∧ k ≤ (countS 8 s).1 ∧ Cu h' p B s' rest ∧ OwS h' 1 la l.length lc (u64s l) ∧ Ext (· = p) h h' ∧ ∀ i, Blk la i → h.next ≤ i) ?_ (k := (countS 8 s).1)
    ⟨[], (countS 8 s).2, none, 0, rfl, rfl, fun w => hc8 w, Nat.le_refl _, q1, OwS.none, x1, fun i r => absurd r Blk.none⟩
  rintro k e h' ⟨l, s', la, lc, rfl, hl, h8, hk, q', o, x', b'⟩
  have hk32 : k < 4294967296 := by
    refine Nat.lt_of_le_of_lt hk ?_
    by_cases h0 : s.2 = 0
    · have hns : countS 8 s = ((rdL 32 0 0 s.1).1, failS (decide ((rdL 32 0 0 s.1).1 > 8)) 4 (s.1.drop (rdL 32 0 0 s.1).2.1, (rdL 32 0 0 s.1).2.2)) := by unfold countS; rw [if_neg (fun w => w h0)]
      rw [hns]; exact rdL_lt (size := 32) s.1 0 0 (by decide) (by decide) q.1
    · have hns : countS 8 s = (0, s) := by unfold countS; rw [if_pos h0]
      rw [hns]; exact (by decide : 0 < 4294967296)
  have z' := x'.next
  obtain ⟨hx2, a2, c2, g2, sl2, hb2, hd2⟩ := id q'
  refine K_ss (K_reg (Wops_run rfl rfl ?_))
  have fin : (k = 0 ∨ s'.2 ≠ 0) → W Try.prog (.exit 0) [(0, ptr p), (3, .slice la l.length lc), (4, .int .u64 (k : Int))] h' (K3 (fun _ _ => False) (fun i _ _ => i = 0) (fun _ _ => False)) → numbersS s = (l, s') := fun w _ => by
    rw [← hl]
    cases k with
    | zero => rfl
    | succ k => rcases w with w | w
                · cases w
                · unfold numbersL; rw [if_pos w]
  by_cases hk0 : k = 0
  · have hf := fin (.inl hk0) rfl
    refine Wops_as (w := .bool false) rfl rfl (by rw [decide_eq_false (by omega)]) (Wops_run rfl rfl (Wops_skip rfl (Wops_skip rfl (Wops_skip rfl (Wops_skip rfl (Wops_skip rfl (Wops_run rfl rfl (K_fin [(0, _), (3, _), (4, _), (15, _)] rfl (?_)))))))))
    refine K_scond rfl (fun hc => by cases hc) (fun _ => ?_)
    refine K_sexit (bx_same ?_)
    refine K_reg (Wops_run rfl rfl (Wops_run rfl rfl (K_fin [(2, _)] rfl (?_))))
    rw [hf]
    exact K_ret (Told.mk _ rfl ⟨q', x', la, lc, rfl, o, b'⟩)
  refine Wops_as (w := .bool true) rfl rfl (by rw [decide_eq_true (by omega)]) (Wops_run rfl rfl (Wops_go rfl (Wops_run rfl rfl (Wops_go rfl (Wops_run rfl rfl (Wops_go rfl (Wops_run rfl rfl (Wops_go rfl (Wops_ld (v := .int .i64 s'.2) rfl g2 rfl (Wops_go rfl ?_))))))))))
  by_cases h0 : s'.2 = 0
  · refine Wops_as (w := .bool true) rfl rfl (by simp [h0]) (Wops_run rfl rfl (K_fin [(0, _), (3, _), (4, _), (15, _)] rfl (?_)))
    refine K_scond rfl (fun _ => ?_) (fun hc => by cases hc)
    refine K_sskip (K_sblock ?_)
    refine K_last (Wops_run rfl rfl (Wops_run rfl rfl (Wops_call rfl (C64 q') ?_)))
    rintro _ h3 ⟨q3, x3, rfl⟩
    refine Wops_bslice (l := u64s [(numberS s').1]) rfl rfl fun h4 n4 x4 g4 => ?_
    have hk8 := h8 h0
    have o3 := o.ext x3 fun i r z => by have := b' i r; omega
    refine Wops_app rfl rfl (o3.ext x4) rfl (OwS.new (n := 1) (c := 1) g4 rfl).sl.first ⟨by omega, by omega⟩ rfl rfl (by decide) fun h5 a5 c5 x5 o5 b5 => ?_
    refine Wops_run rfl rfl (K_finL [(0, _), (3, _), (4, _)] rfl (?_))
    refine K_last (Wops_run rfl rfl (Wops_as (w := .int .u64 ((k - 1 : Nat) : Int)) rfl rfl (by rw [show (k : Int) - 1 = ((k - 1 : Nat) : Int) by omega, wr64m, Nat.mod_eq_of_lt (by omega)]) (Wops_run rfl rfl (K_finL [(0, _), (3, _), (4, _)] rfl (?_)))))
    have z3 := x3.next
    have z4 := x4.next
    have hll : (l ++ [(numberS s').1]).length = l.length + 1 := by simp
    have hd5 : ¬ Blk la p := fun r => by have := b' p r; omega
    have q5 : Cu h5 p B (numberS s').2 rest := by
      obtain ⟨y1, y2, y3, y4, y5, y6, y7⟩ := q3.ext0 x4
      exact ⟨y1, y2, y3, y4.ext x5 hd5, y5.ext x5 fun i r1 r2 => (by have := y7.1; have := y7.2 i r1; have := b' i r2; omega), y6, y7⟩
    refine ⟨k - 1, by omega, l ++ [(numberS s').1], (numberS s').2, a5, c5, by rw [hll], ?_, fun _ => by rw [hll]; omega, by omega, q5, ?_, (x'.trans (x3.then0 x4)).then x5 fun i r => .inr (b' i r), fun i r => (b5 i r).elim (b' i) fun r => by omega⟩
    · rw [← hl]
      obtain ⟨j, rfl⟩ : ∃ j, k = j + 1 := ⟨k - 1, by omega⟩
      show numbersL j _ _ = numbersL (j + 1) l s'
      conv => rhs; unfold numbersL
      rw [if_neg (fun w => w h0)]
    · rw [hll, u64s, List.map_append]; exact o5
  · have hf := fin (.inr h0) rfl
    refine Wops_as (w := .bool false) rfl rfl (by simp [h0]) (Wops_run rfl rfl (K_fin [(0, _), (3, _), (4, _), (15, _)] rfl (?_)))
    refine K_scond rfl (fun hc => by cases hc) (fun _ => ?_)
    refine K_sexit (bx_same ?_)
    refine K_reg (Wops_run rfl rfl (Wops_run rfl rfl (K_fin [(2, _)] rfl (?_))))
    rw [hf]
    exact K_ret (Told.mk _ rfl ⟨q', x', la, lc, rfl, o, b'⟩)
end Go.Dx.SYtkppbmhpcjjceaa
