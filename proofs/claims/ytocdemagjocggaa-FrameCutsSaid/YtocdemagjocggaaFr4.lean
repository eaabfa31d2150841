/- Contracts of frame's functions: the document's Add; Put, New, Rest, Bad, Copy. -/
import Derived.Test.YtocdemagjocggaaFr3
namespace Go.Dx.SYtocdemagjocggaa
open Go.Proofs
set_option linter.unusedVariables false
set_option linter.unusedSimpArgs false

theorem FrS.push2 {M : Nat → Prop} {h h' h2 h3 h6 h7 : Heap} {p nf cf k k' n0 n1 c1 c3 n6 c6 : Nat} {cur rest f : List Int} {fs : List (List Int)} {af a1 a3 a6 : Option Addr} {vs : List Value} (hM : ∀ i, M i → i < h.next) (t : FrS M h h' p cur fs af nf cf vs k n0)
    (x2 : Ext0 h' h2) (o1 : OwS h2 1 a1 n1 c1 (ints .u8 f)) (d1 : ∀ i, Blk a1 i → h'.next ≤ i) (x3 : Ext (Blk af) h2 h3) (o3 : OwS h3 1 a3 (nf + 1) c3 (vs ++ [.slice a1 n1 c1])) (b3 : ∀ i, Blk a3 i → Blk af i ∨ h2.next ≤ i)
    (x6 : Ext0 h3 h6) (o6 : SlA h6 1 a6 n6 c6 (ints .u8 rest)) (d6 : ∀ i, Blk a6 i → h3.next ≤ i ∧ i < h6.next) (x7 : Ext (· = p) h6 h7) (g7 : At h7 p (.cells [.slice a6 n6 c6, .bool false] 0 false)) (wr : Byte rest)
    (hk : rest.length ≤ k') (hk2 : k' + 1 ≤ k) : FrS M h h7 p rest (fs ++ [f]) a3 (nf + 1) c3 (vs ++ [.slice a1 n1 c1]) k' n0 := by
  have hp : ¬ Blk af p := fun r => by have := t.nw p r; have := t.pl; omega
  have e1 := t.x.next
  have e2 := x2.next
  have e3 := x3.next
  have e6 := x6.next
  have e7 := x7.next
  have hpl := t.pl
  have l1 : ∀ i, Blk a1 i → i < h2.next := fun i r => o1.lt r
  have laf : ∀ i, Blk af i → i < h'.next := fun i r => t.o.lt r
  have l3 : ∀ i, Blk a3 i → i < h3.next := fun i r => o3.lt r
  have n3 : ∀ i, Blk a3 i → h.next ≤ i := fun i r => (b3 i r).elim (t.nw i) fun r => by omega
  refine ⟨t.pl, ((t.x.trans x2.of0).then x3 fun i r => .inr (t.nw i r)).trans (x6.of0.trans x7), ?_, wr, hk, by have := t.nk; omega, (o3.ext x6).ext x7 (fun i r e => by have := n3 i r; omega), ?_, n3⟩
  · refine ⟨t.q.1.elim .inl fun r => absurd r hp, a6, n6, c6, g7, o6.ext x7 (fun i r e => by have := (d6 i r).1; omega), fun i r => ⟨fun s => ?_, by have := (d6 i r).2; omega⟩⟩
    have := (d6 i r).1
    rcases s with s | s
    · have := hM i s; omega
    · have := l3 i s; omega
  · have hb : Bys h3 .u8 (Fs h h3 a3) (vs ++ [.slice a1 n1 c1]) (fs ++ [f]) := by
      refine Bys.append ?_ (Bys.one ((o1.ext x3 fun i r s => by have := d1 i r; have := laf i s; omega).sl) fun i r => ⟨by have := d1 i r; omega, by have := l1 i r; omega, fun s => ?_⟩)
      · refine ((t.b.ext x2 fun i _ e => e).ext x3 fun i r => r.2.2).mono fun i r => ⟨r.1, by have := r.2.1; omega, fun s => ?_⟩
        exact (b3 i s).elim r.2.2 fun u => by have := r.2.1; omega
      · rcases b3 i s with u | u
        · have := d1 i r; have := laf i u; omega
        · have := l1 i r; omega
    refine ((hb.ext x6 fun i _ e => e).ext x7 fun i r e => ?_).mono fun i r => ⟨r.1, by have := r.2.1; omega, r.2.2⟩
    have := r.1; omega

theorem C28 {M : Nat → Prop} {h : Heap} {p nb cb : Nat} {ab : Option Addr} {bs ys : List Int} {bad : Bool} (hM : ∀ i, M i → i < h.next) (q : Pt M h p bs bad) (hw : Byte bs) (sy : SlA h 1 ab nb cb (ints .u8 ys)) (ly : ∀ i, Blk ab i → i < h.next) (hwy : Byte ys)
    (hb : bs.length ≤ 100000) (hb2 : ys.length ≤ 100000) :
    Fn Try.prog 28 [ptr p, .slice ab nb cb] h fun v h' => if bad = true then v = .tuple ⟨[.slice none 0 0, .int .i64 4]⟩ ∧ h = h' else ∃ af nf cf vs,
      v = .tuple ⟨[.slice af nf cf, .int .i64 (if (splitF (bs ++ ys).length (bs ++ ys)).2.2 = true then 4 else 0)]⟩ ∧ OwS h' 1 af nf cf vs ∧ Bys h' .u8 (Fs h h' af) vs (splitF (bs ++ ys).length (bs ++ ys)).1 ∧ (∀ i, Blk af i → h.next ≤ i) ∧
      Pt M h' p (splitF (bs ++ ys).length (bs ++ ys)).2.1 (splitF (bs ++ ys).length (bs ++ ys)).2.2 ∧ Ext (· = p) h h' := by
  obtain ⟨mp, a, n, c, g, s, ha⟩ := id q
  have hlt := g.lt
  have hbn : bs.length = n := by simpa using s.len
  have hyn : ys.length = nb := by simpa using sy.len
  refine fnK F28.fok rfl ?_
  refine K_reg (Wops_run rfl rfl (Wops_run rfl rfl (K_fin [(0, _), (1, _)] rfl (?_))))
  refine K_ss (K_reg (Wops_run rfl rfl (Wops_run rfl rfl (Wops_run rfl rfl (Wops_ld rfl g (by rfl) ?_)))))
  refine K_fin [(0, _), (1, _), (11, _)] rfl (?_)
  cases bad with
  | true =>
    refine K_scond rfl (fun _ => ?_) (fun hc => by cases hc)
    refine K_ss (K_reg (Wops_run rfl rfl (Wops_run rfl rfl (K_fin [(4, _), (5, _)] rfl (?_)))))
    exact K_sret (Told.mk _ rfl ⟨rfl, rfl⟩)
  | false =>
    refine K_scond rfl (fun hc => by cases hc) (fun _ => ?_)
    refine K_sskip (K_reg (Wops_run rfl rfl (Wops_bslice (l := []) rfl rfl fun h1 n1 x1 g1 => ?_)))
    refine Wops_run rfl rfl (Wops_run rfl rfl (Wops_run rfl rfl (Wops_ld rfl (x1.some0 g) (by rfl) ?_)))
    refine Wops_app rfl rfl (OwS.new (n := 0) g1 rfl) rfl (s.ext x1).first ⟨by omega, by omega⟩ s.len (ints_cell _ _) (by decide) fun h2 a2 c2 x2 o2 b2 => ?_
    have X2 : Ext0 h h2 := x1.then x2 fun i r => .inr (by rw [Blk.at] at r; omega)
    have N2 : ∀ i, Blk a2 i → h.next ≤ i := fun i r => by rcases b2 i r with r | r; (rw [Blk.at] at r; omega); omega
    refine Wops_run rfl rfl (Wops_app rfl rfl o2 rfl (sy.ext X2).first ⟨by omega, by omega⟩ sy.len (ints_cell _ _) (by decide) fun h3 a3 c3 x3 o3 b3 => ?_)
    have X3 : Ext0 h h3 := X2.then x3 fun i r => .inr (N2 i r)
    have N3 : ∀ i, Blk a3 i → h.next ≤ i := fun i r => (b3 i r).elim (N2 i) fun r => Nat.le_trans X2.next r
    refine Wops_run rfl rfl (Wops_run rfl rfl (Wops_st rfl rfl rfl rfl (X3.some0 g) (by simp) rfl fun h4 n4 x4 g4 => ?_))
    refine K_fin [(0, _)] rfl (?_)
    have t0 : FrS M h h4 p (bs ++ ys) [] none 0 0 [] (bs ++ ys).length (bs ++ ys).length := by
      refine ⟨hlt, X3.of0.then x4 fun i r => .inl r, ⟨.inl mp, a3, _, c3, g4, by simpa [ints] using (o3.ext x4 fun i r e => by have := N3 i r; omega).sl, fun i r => ⟨fun t => ?_, ?_⟩⟩, ?_, Nat.le_refl _, by omega, OwS.none, trivial, fun i r => absurd r Blk.none⟩
      · rcases t with t | t
        · have := hM i t; have := N3 i r; omega
        · exact absurd t Blk.none
      · have := o3.lt r; have := x4.next; omega
      · intro x hx; rcases List.mem_append.1 hx with hx | hx; exact hw x hx; exact hwy x hx
    generalize hN : (bs ++ ys).length = N at *
    have hNb : N ≤ 200000 := by simp at hN; omega
    clear g4 x4 n4 o3 o2
    generalize (bs ++ ys) = all at *
    refine K_reg (Wops_run rfl rfl (K_fin [(0, _), (6, _)] rfl (?_)))
    refine K_sblock ?_
    refine K_loop (fun k e h' => ∃ (cur : List Int) (fs : List (List Int)) (af : Option Addr) (nf cf : Nat) (vs : List Value), e = [(0, ptr p), (6, .slice af nf cf)] ∧ splitF N all = (fs ++ (splitF k cur).1, (splitF k cur).2) ∧ FrS M h h' p cur fs af nf cf vs k N) ?_ (k := N) ⟨all, [], none, 0, 0, [], rfl, by simp, t0⟩
    clear t0
    rintro k e h' ⟨cur, fs, af, nf, cf, vs, rfl, hsp, t⟩
    have hkN := t.nk
    have hle := t.le
    have fin : ∀ (kn : Kn) (rest : Env), nextF cur = .short → W Try.prog (.seq (.region [⟨some 86, none, .mov (.t 6)⟩, ⟨some 4, none, .mov (.t 86)⟩, ⟨some 5, none, .mov (.c (.int .i64 0))⟩] [4, 5]) .ret) ((0, ptr p) :: (6, .slice af nf cf) :: rest) h' (K3 kn (fun _ _ _ => False) (Told F28.res fun v h' => if false = true then v = .tuple ⟨[.slice none 0 0, .int .i64 4]⟩ ∧ h = h' else ∃ af nf cf vs,
      v = .tuple ⟨[.slice af nf cf, .int .i64 (if (splitF N all).2.2 = true then 4 else 0)]⟩ ∧ OwS h' 1 af nf cf vs ∧ Bys h' .u8 (Fs h h' af) vs (splitF N all).1 ∧ (∀ i, Blk af i → h.next ≤ i) ∧
      Pt M h' p (splitF N all).2.1 (splitF N all).2.2 ∧ Ext (· = p) h h')) := by
      intro kn rest hx
      rw [splitF_short hx] at hsp
      refine K_reg (Wops_run rfl rfl (Wops_run rfl rfl (Wops_run rfl rfl (K_fin [(4, _), (5, _)] rfl (?_)))))
      refine K_ret (Told.mk _ rfl ?_)
      show if false = true then _ else _
      rw [if_neg (by simp), hsp]
      exact ⟨af, nf, cf, vs, rfl, t.o, by simpa using t.b, t.nw, t.q.swap (fun i r => .inl (.inl r)) mp, t.x⟩
    obtain ⟨_, aq, nq, cq, gq, sq, dq⟩ := id t.q
    have hq : cur.length = nq := by simpa using sq.len
    refine K_ss (K_reg (Wops_run rfl rfl (Wops_run rfl rfl (Wops_run rfl rfl (Wops_ld rfl gq (by rfl) ?_)))))
    refine Wops_run rfl rfl (Wops_run rfl rfl (K_fin [(0, _), (6, _), (28, _)] rfl (?_)))
    refine K_scond rfl (fun hc => ?_) (fun hc => ?_)
    · have h2 : 2 ≤ nq := by have := of_decide_eq_true hc; omega
      obtain ⟨b0, b1, r, rfl⟩ : ∃ b0 b1 r, cur = b0 :: b1 :: r := by
        match cur, hq with
        | [], hq => simp at hq; omega
        | [_], hq => simp at hq; omega
        | b0 :: b1 :: r, _ => exact ⟨b0, b1, r, rfl⟩
      have w0 := t.w b0 (by simp)
      have w1 := t.w b1 (by simp)
      have hr : r.length + 2 = nq := by simpa using hq
      refine K_sskip (K_block ?_)
      refine K_reg (Wops_run rfl rfl (Wops_run rfl rfl (Wops_run rfl rfl (Wops_ld rfl gq (by rfl) ?_))))
      refine Wops_idx (u := .int .u8 b0) rfl rfl sq ⟨by omega, by omega⟩ (by simp) fun _ => ?_
      refine Wops_as (w := .int .i64 b0) rfl rfl (by rw [w64 (by omega)]) (Wops_as (w := .int .i64 (b0 * 256)) rfl rfl (by rw [w64 (by omega)]) ?_)
      refine Wops_run rfl rfl (Wops_run rfl rfl (Wops_run rfl rfl (Wops_ld rfl gq (by rfl) ?_)))
      refine Wops_idx (u := .int .u8 b1) rfl rfl sq ⟨by omega, by omega⟩ (by simp) fun _ => ?_
      refine Wops_as (w := .int .i64 b1) rfl rfl (by rw [w64 (by omega)]) (Wops_as (w := .int .i64 (b0 * 256 + b1)) rfl rfl (by rw [w64 (by omega)]) ?_)
      refine Wops_run rfl rfl (K_fin [(0, _), (6, _), (7, _)] rfl (?_))
      obtain ⟨m, hm⟩ : ∃ m : Nat, b0 * 256 + b1 = m := ⟨(b0 * 256 + b1).toNat, by omega⟩
      rw [hm]
      have hnx : nextF (b0 :: b1 :: r) = if (m : Int) > 5000 then .long else if (r.length : Int) < m then .short else .whole (r.take m) (r.drop m) := by simp only [nextF, hm, Int.toNat_natCast]
      refine K_ss (K_reg (Wops_run rfl rfl (Wops_run rfl rfl (K_fin [(0, _), (6, _), (7, _), (46, _)] rfl (?_)))))
      refine K_scond rfl (fun hc => ?_) (fun hc => ?_)
      · rw [if_pos (of_decide_eq_true hc)] at hnx
        obtain ⟨k', rfl⟩ : ∃ k', k = k' + 1 := ⟨k - 1, by omega⟩
        simp only [splitF, hnx] at hsp
        refine K_ss (K_reg (Wops_run rfl rfl (Wops_run rfl rfl (Wops_run rfl rfl (Wops_run rfl rfl (Wops_st rfl rfl rfl rfl gq (by simp) rfl fun h2 n2 x2 g2 => ?_))))))
        refine Wops_run rfl rfl (Wops_run rfl rfl (Wops_st rfl rfl rfl rfl g2 (by rw [putL_length]; simp) rfl fun h3 n3 x3 g3 => ?_))
        refine K_fin [(6, _)] rfl (?_)
        refine K_ss (K_reg (Wops_run rfl rfl (Wops_run rfl rfl (Wops_run rfl rfl (K_fin [(4, _), (5, _)] rfl (?_))))))
        have hp : ¬ Blk af p := fun r => by have := t.nw p r; omega
        have X3 : Ext (· = p) h' h3 := x2.trans x3
        refine K_sret (Told.mk _ rfl ?_)
        show if false = true then _ else _
        rw [if_neg (by simp), hsp]
        refine ⟨af, nf, cf, vs, rfl, t.o.ext X3 fun i r e => hp (by rw [← e]; exact r), ?_, t.nw, ⟨mp, none, 0, 0, g3, SlA.none, fun i r => absurd r Blk.none⟩, t.x.trans X3⟩
        have hb3 := (t.b.ext X3 fun i r e => by have := r.1; omega).mono (T := Fs h h3 af) fun i r => ⟨r.1, by have := r.2.1; have := X3.next; omega, r.2.2⟩
        simpa using hb3
      · rw [if_neg (of_decide_eq_false hc)] at hnx
        have h5 : m ≤ 5000 := by have := of_decide_eq_false hc; omega
        refine K_sskip (K_ss (K_reg (Wops_run rfl rfl (Wops_run rfl rfl (Wops_run rfl rfl (Wops_ld rfl gq (by rfl) ?_))))))
        refine Wops_run rfl rfl (Wops_as (w := .int .i64 (r.length : Nat)) rfl rfl (by rw [w64 (by omega)]; congr 1; omega) ?_)
        refine Wops_run rfl rfl (Wops_run rfl rfl (K_fin [(0, _), (6, _), (7, _), (61, _)] rfl (?_)))
        refine K_scond rfl (fun hc => ?_) (fun hc => ?_)
        · rw [if_pos (of_decide_eq_true hc)] at hnx
          refine K_sexit (bx_ne rfl (bx_same ?_))
          exact fin _ _ hnx
        · rw [if_neg (of_decide_eq_false hc)] at hnx
          have hmr : m ≤ r.length := by have := of_decide_eq_false hc; omega
          obtain ⟨hl, hwb⟩ := nextF_whole hnx
          obtain ⟨wf, wr⟩ := hwb t.w
          obtain ⟨k', rfl⟩ : ∃ k', k = k' + 1 := ⟨k - 1, by omega⟩
          simp only [splitF, hnx] at hsp
          have hcast : IntKind.wrap .i64 (2 + (m : Int)) = ((2 + m : Nat) : Int) := by rw [w64 (by omega)]; omega
          have hA : List.take ((2 + m - 2) * 1) (List.drop (2 * 1) (ints .u8 (b0 :: b1 :: r))) = ints .u8 (r.take m) := by
            simp [ints, List.map_take]
          have hB : List.take ((nq - (2 + m)) * 1) (List.drop ((2 + m) * 1) (ints .u8 (b0 :: b1 :: r))) = ints .u8 (r.drop m) := by
            rw [List.take_of_length_le (by simp; omega), show (2 + m) * 1 = m + 2 by omega]
            simp [ints, List.map_drop]
          refine K_sskip (K_reg (Wops_run rfl rfl (Wops_bslice (l := []) rfl rfl fun h1 n1 x1 g1 => ?_)))
          have sA := (sq.ext x1).sub (i := 2) (j := 2 + m) (by omega) (by omega)
          rw [hA] at sA
          refine Wops_run rfl rfl (Wops_run rfl rfl (Wops_run rfl rfl (Wops_ld rfl (x1.some0 gq) (by rfl) ?_)))
          refine Wops_run rfl rfl (Wops_as (w := .int .i64 ((2 + m : Nat) : Int)) rfl rfl (by rw [hcast]) (Wops_slV rfl rfl rfl (sq.ext x1).ok (bounds_lh (i := 2) (j := 2 + m) ⟨by omega, by omega⟩) ?_))
          refine Wops_app rfl rfl (OwS.new (n := 0) g1 rfl) rfl sA.first ⟨by omega, by omega⟩ sA.len (ints_cell _ _) (by decide) fun h2 a2 c2 x2 o2 b2 => ?_
          have X2 : Ext0 h' h2 := x1.then x2 fun i r => .inr (by rw [Blk.at] at r; omega)
          have N2 : ∀ i, Blk a2 i → h'.next ≤ i := fun i r => by rcases b2 i r with r | r; (rw [Blk.at] at r; omega); have := x1.next; omega
          refine Wops_bslice (l := [.slice a2 (0 + (2 + m - 2)) c2]) rfl rfl fun h3 n3 x3 g3 => ?_
          refine Wops_app rfl rfl ((t.o.ext X2).ext x3) rfl (SlA.mk' (n := 1) (c := 1) (off := 0) g3 (by simp) (.inr (.inr rfl))).first ⟨by omega, by omega⟩ rfl rfl (by decide) fun h4 a4 c4 x4 o4 b4 => ?_
          refine Wops_run rfl rfl (K_fin [(0, _), (6, _), (7, _)] rfl (?_))
          have hp : ¬ Blk af p := fun r => by have := t.nw p r; omega
          have g4 : At h4 p (.cells [.slice aq nq cq, .bool false] 0 false) := ((At.ext (o := .cells [.slice aq nq cq, .bool false] 0 false) gq X2).ext x3).ext x4 hp
          have s4 : SlA h4 1 aq nq cq (ints .u8 (b0 :: b1 :: r)) := ((sq.ext X2).ext x3).ext x4 fun i r s => (dq i r).1 (.inr s)
          refine K_last (Wops_run rfl rfl (Wops_bslice (l := []) rfl rfl fun h5 n5 x5 g5 => ?_))
          have sB := (s4.ext x5).sub (i := 2 + m) (j := nq) (by omega) (Nat.le_refl _)
          rw [hB] at sB
          refine Wops_run rfl rfl (Wops_run rfl rfl (Wops_run rfl rfl (Wops_ld rfl (g4.ext x5) (by rfl) ?_)))
          refine Wops_run rfl rfl (Wops_as (w := .int .i64 ((2 + m : Nat) : Int)) rfl rfl (by rw [hcast]) (Wops_slV rfl rfl rfl (s4.ext x5).ok (bounds_lo (i := 2 + m) (by omega)) ?_))
          refine Wops_app rfl rfl (OwS.new (n := 0) g5 rfl) rfl sB.first ⟨by omega, by omega⟩ sB.len (ints_cell _ _) (by decide) fun h6 a6 c6 x6 o6 b6 => ?_
          have X6 : Ext0 h4 h6 := x5.then x6 fun i r => .inr (by rw [Blk.at] at r; omega)
          have N6 : ∀ i, Blk a6 i → h4.next ≤ i := fun i r => by rcases b6 i r with r | r; (rw [Blk.at] at r; omega); have := x5.next; omega
          refine Wops_run rfl rfl (Wops_run rfl rfl (Wops_st rfl rfl rfl rfl (g4.ext X6) (by simp) rfl fun h7 n7 x7 g7 => ?_))
          refine K_finL [(0, _), (6, _)] rfl (?_)
          refine ⟨k', by omega, r.drop m, fs ++ [r.take m], a4, nf + 1, c4, _, rfl, by rw [hsp]; simp, t.push2 hM (X2.trans x3) ((by simpa [ints] using o2 : OwS h2 1 a2 (0 + (2 + m - 2)) c2 (ints .u8 (r.take m))).ext x3) N2 x4 o4 b4 X6 (by simpa [ints] using o6.sl) (fun i r => ⟨N6 i r, o6.lt r⟩) x7 g7 wr (by simp at hl ⊢; simp at hle; omega) (by omega)⟩
    · have h2 : nq < 2 := by have := of_decide_eq_false hc; omega
      refine K_sexit (bx_same ?_)
      refine fin _ _ ?_
      match cur, hq with
      | [], _ => rfl
      | [_], _ => rfl
      | _ :: _ :: _, hq => simp at hq; omega
end Go.Dx.SYtocdemagjocggaa
