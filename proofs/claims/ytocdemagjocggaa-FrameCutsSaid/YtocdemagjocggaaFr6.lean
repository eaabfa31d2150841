/- FrameAll: the walk, and its arguments. -/
import Derived.Test.YtocdemagjocggaaFr5
namespace Go.Dx.SYtocdemagjocggaa
open Go.Proofs
set_option linter.unusedVariables false
set_option linter.unusedSimpArgs false

theorem splitF_count : ∀ (k : Nat) (bs : List Int), (splitF k bs).1.length ≤ k
  | 0, bs => Nat.le_refl _
  | k + 1, bs => by
    simp only [splitF]
    cases hx : nextF bs with
    | short => exact Nat.zero_le _
    | long => exact Nat.zero_le _
    | whole f rest => have := splitF_count k rest; simp only [List.length_cons]; omega
theorem addR_count (bs ys : List Int) (bad : Bool) : (addR bs bad ys).1.length ≤ bs.length + ys.length := by
  unfold addR
  split
  · exact Nat.zero_le _
  · have := splitF_count (bs ++ ys).length (bs ++ ys)
    rw [← List.length_append]; exact this

/-- Pieces that came in. -/
def InBys (h : Heap) (l : List Value) (n : Nat) : Prop :=
  ∀ i, i < n → ∃ (a : Option Addr) (m c : Nat) (ys : List Int), l[i]? = some (.slice a m c) ∧ InS h a m c (ints .u8 ys) ∧ Byte ys

structure PP (h h' : Heap) (pa pb : Nat) (bs : List Int) (bad : Bool) : Prop where
  x : Ext0 h h'
  na : h.next ≤ pa ∧ pa < h'.next
  nb : h.next ≤ pb ∧ pb < h'.next
  ne : pa ≠ pb
  qa : Pt (fun i => i = pa ∨ i = pb) h' pa bs bad
  qb : Pt (fun i => i = pa ∨ i = pb) h' pb bs bad
  w : Byte bs
theorem PP.ext {h h' h2 : Heap} {pa pb : Nat} {bs : List Int} {bad : Bool} (t : PP h h' pa pb bs bad) (x : Ext0 h' h2) : PP h h2 pa pb bs bad :=
  ⟨t.x.trans x, ⟨t.na.1, Nat.lt_of_lt_of_le t.na.2 x.next⟩, ⟨t.nb.1, Nat.lt_of_lt_of_le t.nb.2 x.next⟩, t.ne, t.qa.ext0 x, t.qb.ext0 x, t.w⟩

theorem C9 {h : Heap} {a0 : Option Addr} {n0 c0 : Nat} {l0 : List Value} (s0 : SlA h 1 a0 n0 c0 l0) (hin : InBys h l0 n0) : Fn Try.prog 9 [.slice a0 n0 c0] h fun v _ => v = .bool true := by
  refine fnK F9.fok rfl ?_
  refine K_reg (Wops_run rfl rfl (K_fin [(0, _)] rfl (?_)))
  refine K_ss (K_reg (Wops_call rfl C15 ?_))
  rintro _ _ ⟨rfl, rfl⟩
  refine Wops_run rfl rfl (K_fin [(0, _), (15, _)] rfl (?_))
  refine K_scond rfl (fun hc => by cases hc) (fun _ => ?_)
  refine K_sskip (K_ss (K_reg (Wops_run rfl rfl (Wops_run rfl rfl (Wops_run rfl rfl (K_fin [(0, _), (18, _)] rfl (?_)))))))
  refine K_scond rfl (fun hc => ?_) (fun hc => ?_)
  · refine K_ss (K_reg (Wops_run rfl rfl (K_fin [(2, _)] rfl (?_))))
    exact K_sret (Told.mk _ rfl rfl)
  have h20 : n0 ≤ 20 := by have := of_decide_eq_false hc; omega
  refine K_sskip (K_reg (Wops_call rfl C17 ?_))
  rintro _ h1 ⟨pa, rfl, ga, xa, la⟩
  refine Wops_run rfl rfl (Wops_box rfl rfl fun h2 n2 x2 g2 => ?_)
  have hlt := ga.lt
  have hna := xa.next
  have t0 : PP h h2 pa h1.next [] false := ⟨xa.trans x2, ⟨la, by omega⟩, ⟨hna, by omega⟩, by omega, ⟨.inl rfl, none, 0, 0, ga.ext x2, SlA.none, fun i r => absurd r Blk.none⟩, ⟨.inr rfl, none, 0, 0, g2, SlA.none, fun i r => absurd r Blk.none⟩, fun x hx => (by cases hx)⟩
  generalize h1.next = pb at *
  clear ga g2 x2 n2 xa la hlt hna
  refine Wops_run rfl rfl (Wops_run rfl rfl (K_fin [(0, _), (3, _), (4, _)] rfl (?_)))
  refine K_ss (K_reg (Wops_run rfl rfl (K_fin [(0, _), (3, _), (4, _), (5, _)] rfl (?_))))
  refine K_sblock ?_
  refine K_loop (fun k e h' => ∃ (i : Nat) (bs : List Int) (bad : Bool), e = [(0, .slice a0 n0 c0), (3, ptr pa), (4, ptr pb), (5, .int .i64 i)] ∧ i ≤ n0 ∧ k = n0 - i ∧ PP h h' pa pb bs bad ∧ bs.length ≤ i * 60) ?_ (k := n0) ⟨0, [], false, rfl, by omega, rfl, t0, by simp⟩
  clear t0
  rintro k e h' ⟨i, bs, bad, rfl, hi, rfl, t, hbl⟩
  have arg : ∀ {h'}, Ext0 h h' → SlA h' 1 a0 n0 c0 l0 := fun x => s0.ext x
  refine K_ss (K_reg (Wops_run rfl rfl (Wops_run rfl rfl (Wops_run rfl rfl (Wops_run rfl rfl (K_fin [(0, _), (3, _), (4, _), (5, _), (25, _)] rfl (?_)))))))
  refine K_scond rfl (fun hc => ?_) (fun hc => ?_)
  · have hlt : i < n0 := by have := of_decide_eq_true hc; omega
    obtain ⟨a1, m1, c1, ys, u1, s1, w1⟩ := hin i hlt
    have hm1 : ys.length = m1 := by simpa using s1.sl.len
    refine K_sskip (K_sblock ?_)
    refine K_ss (K_reg (Wops_run rfl rfl (Wops_run rfl rfl (Wops_idx (u := .slice a1 m1 c1) rfl rfl (arg t.x) ⟨by omega, by omega⟩ (by simpa using u1) fun _ => ?_))))
    refine Wops_run rfl rfl (Wops_run rfl rfl (K_fin [(0, _), (3, _), (4, _), (5, _), (33, _)] rfl (?_)))
    refine K_scond rfl (fun hc => ?_) (fun hc => ?_)
    · refine K_ss (K_reg (Wops_run rfl rfl (K_fin [(2, _)] rfl (?_))))
      exact K_sret (Told.mk _ rfl rfl)
    have h60 : m1 ≤ 60 := by have := of_decide_eq_false hc; omega
    have hMl : ∀ i, (i = pa ∨ i = pb) → i < h'.next := fun i r => by rcases r with rfl | rfl; exact t.na.2; exact t.nb.2
    refine K_sskip (K_reg (Wops_run rfl rfl (Wops_run rfl rfl (Wops_run rfl rfl (Wops_idx (u := .slice a1 m1 c1) rfl rfl (arg t.x) ⟨by omega, by omega⟩ (by simpa using u1) fun _ => ?_)))))
    refine Wops_call rfl (C18' hMl t.qa t.w (s1.ext0 t.x) w1 (by omega) (by omega)) ?_
    rintro _ h1 ⟨af, nf, cf, vs, rfl, of, bf, df, qa', xa⟩
    have X1 : Ext0 h h1 := t.x.then xa fun i r => .inr (by have := t.na.1; omega)
    have e1 := xa.next
    refine Wops_run rfl rfl (Wops_run rfl rfl (Wops_run rfl rfl (Wops_run rfl rfl (Wops_run rfl rfl (K_fin [(0, _), (3, _), (4, _), (5, _), (6, _), (7, _)] rfl (?_))))))
    refine K_reg (Wops_run rfl rfl (Wops_run rfl rfl (Wops_run rfl rfl (Wops_idx (u := .slice a1 m1 c1) rfl rfl (arg X1) ⟨by omega, by omega⟩ (by simpa using u1) fun _ => ?_))))
    have qb1 := t.qb.ext xa (fun r => t.ne r.symm) (fun i r => .inl r)
    refine Wops_call rfl (C28' (fun i r => Nat.lt_of_lt_of_le (hMl i r) e1) qb1 t.w (s1.ext0 X1) w1 (by omega) (by omega)) ?_
    rintro _ h2 ⟨ag, ng, cg, ws, rfl, og, bg, dg, qb', xb⟩
    have X2 : Ext0 h h2 := X1.then xb fun i r => .inr (by have := t.nb.1; omega)
    have e2 := xb.next
    obtain ⟨hl, hwf, hwr⟩ := addR_facts bad t.w w1
    have hct := addR_count bs ys bad
    generalize addR bs bad ys = w at *
    obtain ⟨fs, bs', bad', er⟩ := w
    simp only at *
    have npb := t.nb.2
    have t' : PP h h2 pa pb bs' bad' := ⟨X2, ⟨t.na.1, by have := t.na.2; omega⟩, ⟨t.nb.1, by omega⟩, t.ne, qa'.ext xb t.ne (fun i r => .inr r), qb', hwr⟩
    have of2 : SlA h2 1 af nf cf vs := of.ext xb fun i r e => by have := (df i r).1; omega
    have bf2 := bf.ext xb fun i r e => by have := r.1; omega
    have hnf : fs.length = nf := by rw [← bf.length]; simpa using of.len
    obtain ⟨_, aq, nq, cq, gq, sq, _⟩ := id t'.qb
    have hnq : bs'.length = nq := by simpa using sq.len
    refine Wops_run rfl rfl (Wops_run rfl rfl (Wops_run rfl rfl (Wops_run rfl rfl (Wops_run rfl rfl (K_fin [(0, _), (3, _), (4, _), (5, _), (6, _), (7, _), (8, _), (9, _)] rfl (?_))))))
    refine K_ss (K_reg (Wops_run rfl rfl (Wops_run rfl rfl (Wops_neq (v := false) rfl rfl (by simp) (Wops_run rfl rfl (Wops_go rfl (Wops_run rfl rfl (Wops_go rfl (Wops_run rfl rfl (Wops_go rfl (Wops_call rfl (C19 of2 og (bf2.mono (T := fun _ => True) fun _ _ => trivial) (bg.mono fun _ _ => trivial) hwf hwf ?_) ?_))))))))))) 
    · omega
    rintro _ _ ⟨rfl, rfl⟩
    rw [decide_eq_true rfl]
    refine Wops_go rfl (Wops_run rfl rfl (Wops_run rfl rfl (Wops_run rfl rfl ?_)))
    refine Wops_go rfl (Wops_run rfl rfl (Wops_go rfl (Wops_run rfl rfl (Wops_go rfl (Wops_run rfl rfl (Wops_go rfl (Wops_run rfl rfl (Wops_go rfl (Wops_ld rfl gq (by rfl) ?_)))))))))
    refine Wops_go rfl (Wops_run rfl rfl (Wops_go rfl (Wops_call rfl (C20 t'.qa) ?_)))
    rintro _ _ ⟨rfl, rfl⟩
    refine Wops_go rfl (Wops_chk rfl rfl gq (by rfl) sq.same (Wops_go rfl (Wops_neq (v := false) rfl rfl (by rw [hnq]; simp) ?_)))
    refine Wops_run rfl rfl (Wops_run rfl rfl (Wops_go rfl (Wops_run rfl rfl (Wops_go rfl (Wops_run rfl rfl (Wops_go rfl (Wops_run rfl rfl (Wops_go rfl (Wops_run rfl rfl (Wops_go rfl (Wops_ld rfl gq (by rfl) ?_)))))))))))
    refine Wops_go rfl (Wops_call rfl (C21 t'.qa) ?_)
    rintro _ _ ⟨rfl, rfl⟩
    refine Wops_go rfl (Wops_chk rfl rfl gq (by rfl) (by cases bad' <;> rfl) (Wops_go rfl (Wops_as (w := .bool false) rfl rfl (by cases bad' <;> rfl) (Wops_run rfl rfl (K_fin [(0, _), (3, _), (4, _), (5, _), (79, _)] rfl (?_))))))
    refine K_scond rfl (fun hc => by cases hc) (fun _ => ?_)
    refine K_sskip (K_reg (Wops_run rfl rfl (Wops_run rfl rfl (Wops_run rfl rfl (Wops_run rfl rfl (Wops_run rfl rfl (K_fin [(0, _), (3, _), (4, _), (5, _), (84, _)] rfl (?_))))))))
    refine K_cond rfl (fun _ => ?_) (fun _ => ?_)
    · refine K_reg (Wops_run rfl rfl (Wops_call rfl (C29 (fun i r => by rcases r with rfl | rfl; exact t'.na.2; exact t'.nb.2) t'.qa (by omega)) ?_))
      rintro _ h3 ⟨pc, rfl, qc, xc, lc⟩
      refine Wops_run rfl rfl (K_fin [(0, _), (3, _), (4, _), (5, _), (10, _)] rfl (?_))
      refine K_last (Wops_run rfl rfl (Wops_bslice (l := ints .u8 [0, 0, 9]) rfl rfl fun h4 n4 x4 g4 => ?_))
      refine Wops_call rfl (C18' (M := (· = pc)) (ys := [0, 0, 9]) (fun i r => by have := x4.next; omega) (qc.ext0 x4) t'.w ⟨(show SlA h4 1 (some ⟨h3.next, 0, none⟩) 3 1 _ from by simpa using SlA.mk' (n := 3) (c := 1) (sz := 1) (off := 0) g4 (by simp) (.inr (.inr rfl))), fun i r => by rw [Blk.at] at r; omega⟩ (by intro x hx; simp at hx; omega) (by omega) (by simp)) ?_
      rintro _ h5 ⟨_, _, _, _, _, _, _, _, _, x5⟩
      refine K_finL [(0, _), (3, _), (4, _), (5, _)] rfl (?_)
      refine K_last (Wops_run rfl rfl (Wops_run rfl rfl (Wops_run rfl rfl (K_finL [(0, _), (3, _), (4, _), (5, _)] rfl (?_)))))
      have X5 : Ext0 h2 h5 := (xc.trans x4).then x5 fun i r => .inr (by have := lc.1; omega)
      exact ⟨n0 - (i + 1), by omega, i + 1, bs', bad', by rw [w64s (by omega)], by omega, rfl, t'.ext X5, by omega⟩
    · refine K_skip (K_last (Wops_run rfl rfl (Wops_run rfl rfl (Wops_run rfl rfl (K_finL [(0, _), (3, _), (4, _), (5, _)] rfl (?_))))))
      exact ⟨n0 - (i + 1), by omega, i + 1, bs', bad', by rw [w64s (by omega)], by omega, rfl, t', by omega⟩
  · refine K_sexit (bx_same ?_)
    refine K_reg (Wops_run rfl rfl (K_fin [(11, _)] rfl (?_)))
    refine K_reg (Wops_run rfl rfl (Wops_bslice (l := [.int .u8 1]) rfl rfl fun h1 n1 x1 g1 => ?_))
    refine Wops_call rfl C18nil ?_
    rintro _ _ ⟨rfl, rfl⟩
    refine Wops_run rfl rfl (Wops_run rfl rfl (Wops_run rfl rfl (Wops_run rfl rfl (Wops_run rfl rfl (K_fin [(11, _), (13, _)] rfl (?_))))))
    refine K_reg (Wops_run rfl rfl (Wops_run rfl rfl (Wops_run rfl rfl (Wops_go rfl (Wops_run rfl rfl (Wops_go rfl (Wops_call rfl C20nil ?_)))))))
    rintro _ _ ⟨rfl, rfl⟩
    refine Wops_go rfl (Wops_run rfl rfl (Wops_run rfl rfl (Wops_run rfl rfl (Wops_go rfl (Wops_run rfl rfl (Wops_go rfl (Wops_call rfl C21nil ?_)))))))
    rintro _ _ ⟨rfl, rfl⟩
    refine Wops_go rfl (Wops_run rfl rfl (Wops_run rfl rfl (Wops_run rfl rfl (Wops_go rfl (Wops_run rfl rfl (Wops_go rfl (Wops_call rfl C29nil ?_)))))))
    rintro _ _ ⟨rfl, rfl⟩
    refine Wops_go rfl (Wops_run rfl rfl (Wops_run rfl rfl (Wops_run rfl rfl (K_fin [(2, _)] rfl (?_)))))
    exact K_ret (Told.mk _ rfl rfl)
theorem cells23 : Try.prog.cellsOf 23 = 1 := by kernel_rfl
theorem cells5 : Try.prog.cellsOf 5 = 1 := by kernel_rfl
set_option maxRecDepth 100000 in
theorem frameAll_fn {b : Base} {N : Nat} {vs : List Value} (h0 : 0 < N) (hd : ∀ id l, b id = some l → id < N) (hb : b 0 = none) (hG : ArgsG Try.prog b 4 [22] vs) : Fn Try.prog 9 vs (heapIn b N) fun v _ => v = .bool true := by
  obtain ⟨v, r, rfl, g, hr⟩ := ArgsG_cons hG
  obtain rfl := ArgsG_nil hr
  obtain ⟨a, n, c, l, hv, s, hR, hn, hl⟩ := GV_slice h0 hd hb Try.underlying22 (GA_slice Try.underlying22 g)
  obtain rfl : v = .slice a n c := by simpa using hv
  rw [cells23] at s hR
  refine C9 s fun i hi => ?_
  obtain ⟨cc, hc1, hc2, hc3⟩ := hR.get i hi
  obtain ⟨a1, n1, c1', xs, rfl, s1, _, hw⟩ := GV_ints h0 hd hb Try.underlying23 Try.underlying5 cells5 hc2
  exact ⟨a1, n1, c1', xs, by have := hc3 0 (by omega); simpa using this, s1, fun x hx => wf_u8 (hw x hx)⟩
end Go.Dx.SYtocdemagjocggaa
