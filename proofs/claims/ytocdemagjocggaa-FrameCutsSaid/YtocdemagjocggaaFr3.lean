/- Contracts of frame's functions: Add, the program's and the document's. -/
import Derived.Test.YtocdemagjocggaaFr2
namespace Go.Dx.SYtocdemagjocggaa
open Go.Proofs
set_option linter.unusedVariables false
set_option linter.unusedSimpArgs false

theorem Pt.swap {M M' : Nat → Prop} {h : Heap} {p : Nat} {bs : List Int} {bad : Bool} (q : Pt M h p bs bad) (hs : ∀ i, M' i → M i ∨ h.next ≤ i) (mp : M' p) : Pt M' h p bs bad := by
  obtain ⟨m, a, n, c, h1, h2, h3⟩ := q
  exact ⟨mp, a, n, c, h1, h2, fun i r => ⟨fun t => (hs i t).elim (h3 i r).1 fun u => by have := (h3 i r).2; omega, (h3 i r).2⟩⟩

theorem nextF_whole {bs f rest : List Int} (h : nextF bs = .whole f rest) : rest.length + 2 ≤ bs.length ∧ (Byte bs → Byte f ∧ Byte rest) := by
  match bs, h with
  | [], h => simp [nextF] at h
  | [_], h => simp [nextF] at h
  | b0 :: b1 :: r, h =>
    simp only [nextF] at h
    split at h
    · cases h
    · split at h
      · cases h
      · cases h
        refine ⟨by simp [List.length_drop], fun w => ⟨fun x hx => w x ?_, fun x hx => w x ?_⟩⟩
        · exact List.mem_cons_of_mem _ (List.mem_cons_of_mem _ (List.mem_of_mem_take hx))
        · exact List.mem_cons_of_mem _ (List.mem_cons_of_mem _ (List.mem_of_mem_drop hx))
theorem nextF_long {bs : List Int} (h : nextF bs = .long) : 2 ≤ bs.length := by
  match bs, h with
  | [], h => simp [nextF] at h
  | [_], h => simp [nextF] at h
  | b0 :: b1 :: r, h => exact Nat.le_add_left 2 _
theorem splitF_short {k : Nat} {bs : List Int} (h : nextF bs = .short) : splitF k bs = ([], bs, false) := by
  cases k with
  | zero => rfl
  | succ k => simp only [splitF, h]

def Fs (h h' : Heap) (af : Option Addr) (i : Nat) : Prop := h.next ≤ i ∧ i < h'.next ∧ ¬ Blk af i

structure FrS (M : Nat → Prop) (h h' : Heap) (p : Nat) (cur : List Int) (fs : List (List Int)) (af : Option Addr) (nf cf : Nat) (vs : List Value) (k n0 : Nat) : Prop where
  pl : p < h.next
  x : Ext (· = p) h h'
  q : Pt (fun i => M i ∨ Blk af i) h' p cur false
  w : Byte cur
  le : cur.length ≤ k
  nk : nf + k ≤ n0
  o : OwS h' 1 af nf cf vs
  b : Bys h' .u8 (Fs h h' af) vs fs
  nw : ∀ i, Blk af i → h.next ≤ i

theorem FrS.push {M : Nat → Prop} {h h' h2 h3 : Heap} {p nf cf k k' n0 n1 c1 c3 : Nat} {cur rest f : List Int} {fs : List (List Int)} {af a1 a3 : Option Addr} {vs : List Value} (t : FrS M h h' p cur fs af nf cf vs k n0)
    (x2 : Ext (· = p) h' h2) (q2 : Pt (fun i => M i ∨ Blk af i) h2 p rest false) (wr : Byte rest) (o1 : OwS h2 1 a1 n1 c1 (ints .u8 f)) (d1 : ∀ i, Blk a1 i → h'.next ≤ i)
    (x3 : Ext (Blk af) h2 h3) (o3 : OwS h3 1 a3 (nf + 1) c3 (vs ++ [.slice a1 n1 c1])) (b3 : ∀ i, Blk a3 i → Blk af i ∨ h2.next ≤ i) (hk : rest.length ≤ k') (hk2 : k' + 1 ≤ k) : FrS M h h3 p rest (fs ++ [f]) a3 (nf + 1) c3 (vs ++ [.slice a1 n1 c1]) k' n0 := by
  have hp : ¬ Blk af p := fun r => by have := t.nw p r; have := t.pl; omega
  have e1 := t.x.next
  have e2 := x2.next
  have e3 := x3.next
  have l1 : ∀ i, Blk a1 i → i < h2.next := fun i r => o1.lt r
  have laf : ∀ i, Blk af i → i < h'.next := fun i r => t.o.lt r
  refine ⟨t.pl, (t.x.trans x2).then x3 fun i r => .inr (t.nw i r), ?_, wr, hk, by have := t.nk; omega, o3, ?_, fun i r => (b3 i r).elim (t.nw i) fun r => by omega⟩
  · have q3 := (q2.swap (M' := fun i => M i ∨ Blk af i ∨ Blk a3 i) (fun i r => by
      rcases r with r | r | r
      · exact .inl (.inl r)
      · exact .inl (.inr r)
      · exact (b3 i r).elim (fun r => .inl (.inr r)) .inr) (q2.1.elim .inl fun r => absurd r hp)).ext x3 hp (fun i r => .inr (.inl r))
    exact q3.swap (fun i r => .inl (r.imp id .inr)) (q2.1.elim .inl fun r => absurd r hp)
  · refine Bys.append ?_ (Bys.one ((o1.ext x3 fun i r s => by have := d1 i r; have := laf i s; omega).sl) fun i r => ⟨by have := d1 i r; omega, by have := l1 i r; omega, fun s => ?_⟩)
    · refine ((t.b.ext x2 fun i r e => ?_).ext x3 fun i r => r.2.2).mono fun i r => ⟨r.1, by have := r.2.1; omega, fun s => ?_⟩
      · have := r.1; have := t.pl; omega
      · exact (b3 i s).elim r.2.2 fun u => by have := r.2.1; omega
    · rcases b3 i s with u | u
      · have := d1 i r; have := laf i u; omega
      · have := l1 i r; omega

theorem C18 {M : Nat → Prop} {h : Heap} {p nb cb : Nat} {ab : Option Addr} {bs ys : List Int} {bad : Bool} (hM : ∀ i, M i → i < h.next) (q : Pt M h p bs bad) (hw : Byte bs) (sy : SlA h 1 ab nb cb (ints .u8 ys)) (ly : ∀ i, Blk ab i → i < h.next) (hwy : Byte ys)
    (hb : bs.length ≤ 100000) (hb2 : ys.length ≤ 100000) :
    Fn Try.prog 18 [ptr p, .slice ab nb cb] h fun v h' => if bad = true then v = .tuple ⟨[.slice none 0 0, .int .i64 4]⟩ ∧ h = h' else ∃ af nf cf vs,
      v = .tuple ⟨[.slice af nf cf, .int .i64 (if (splitF (bs ++ ys).length (bs ++ ys)).2.2 = true then 4 else 0)]⟩ ∧ OwS h' 1 af nf cf vs ∧ Bys h' .u8 (Fs h h' af) vs (splitF (bs ++ ys).length (bs ++ ys)).1 ∧ (∀ i, Blk af i → h.next ≤ i) ∧
      Pt M h' p (splitF (bs ++ ys).length (bs ++ ys)).2.1 (splitF (bs ++ ys).length (bs ++ ys)).2.2 ∧ Ext (· = p) h h' := by
  obtain ⟨mp, a, n, c, g, s, ha⟩ := id q
  have hlt := g.lt
  refine fnK F18.fok rfl ?_
  refine K_reg (Wops_run rfl rfl (Wops_run rfl rfl (K_fin [(0, _), (1, _), (4, _)] rfl (?_))))
  refine K_sblock ?_
  refine K_reg (Wops_run rfl rfl (Wops_run rfl rfl (Wops_run rfl rfl (K_fin [(0, _), (1, _), (4, _), (9, _)] rfl (?_)))))
  refine K_cond rfl (fun hc => by cases hc) (fun _ => ?_)
  refine K_reg (Wops_run rfl rfl (Wops_run rfl rfl (Wops_run rfl rfl (Wops_ld rfl g (by rfl) ?_))))
  refine Wops_run rfl rfl (K_fin [(0, _), (1, _), (4, _), (12, _)] rfl (?_))
  cases bad with
  | true =>
    refine K_cond rfl (fun _ => ?_) (fun hc => by cases hc)
    refine K_reg (Wops_run rfl rfl (Wops_run rfl rfl (K_fin [(4, _), (5, _)] rfl (?_))))
    exact K_ret (Told.mk _ rfl ⟨rfl, rfl⟩)
  | false =>
    refine K_cond rfl (fun hc => by cases hc) (fun _ => ?_)
    refine K_skip ?_
    refine K_reg (Wops_run rfl rfl (Wops_run rfl rfl (Wops_run rfl rfl (Wops_run rfl rfl (Wops_run rfl rfl (Wops_ld rfl g (by rfl) ?_))))))
    refine Wops_run rfl rfl (Wops_bslice (l := [.slice a n c, .slice ab nb cb]) rfl rfl fun h1 n1 x1 g1 => ?_)
    have hby : Bys h1 .u8 (fun i => i < h1.next) [.slice a n c, .slice ab nb cb] [bs, ys] :=
      ⟨⟨a, n, c, rfl, s.ext x1, fun i r => by have := (ha i r).2; omega⟩, ⟨ab, nb, cb, rfl, sy.ext x1, fun i r => by have := ly i r; omega⟩, trivial⟩
    refine Wops_call rfl (C49 (SlA.mk' (n := 2) (c := 1) (off := 0) g1 (by simp) (.inr (.inr rfl))) hby (fun i r => r) (fun i r => by rw [Blk.at] at r; omega) (by omega) (by simp; omega)) ?_
    rintro _ h2 ⟨a2, c2, rfl, o2, x2, b2⟩
    have X := x1.trans x2
    have hfl : [bs, ys].flatten = bs ++ ys := by simp
    rw [hfl] at o2 ⊢
    refine Wops_run rfl rfl (Wops_run rfl rfl (Wops_run rfl rfl (Wops_st rfl rfl rfl rfl (X.some0 g) (by simp) rfl fun h3 n3 x3 g3 => ?_)))
    refine K_fin [(0, _), (4, _)] rfl (?_)
    clear hfl
    have hbn := x1.next
    have t0 : FrS M h h3 p (bs ++ ys) [] none 0 0 [] (bs ++ ys).length (bs ++ ys).length := by
      refine ⟨hlt, X.of0.then x3 fun i r => .inl r, ⟨.inl mp, a2, _, c2, g3, (o2.ext x3 fun i r e => by have := b2 i r; omega).sl, fun i r => ⟨fun t => ?_, ?_⟩⟩, ?_, Nat.le_refl _, by omega, OwS.none, trivial, fun i r => absurd r Blk.none⟩
      · rcases t with t | t
        · have := hM i t; have := b2 i r; omega
        · exact absurd t Blk.none
      · have := o2.lt r; have := x3.next; omega
      · intro x hx; rcases List.mem_append.1 hx with hx | hx; exact hw x hx; exact hwy x hx
    generalize hN : (bs ++ ys).length = N at *
    have hNb : N ≤ 200000 := by simp at hN; omega
    generalize (bs ++ ys) = all at *
    refine K_block ?_
    refine K_loop (fun k e h' => ∃ (cur : List Int) (fs : List (List Int)) (af : Option Addr) (nf cf : Nat) (vs : List Value), e = [(0, ptr p), (4, .slice af nf cf)] ∧ splitF N all = (fs ++ (splitF k cur).1, (splitF k cur).2) ∧ FrS M h h' p cur fs af nf cf vs k N) ?_ (k := N) ⟨all, [], none, 0, 0, [], rfl, by simp, t0⟩
    clear t0 x3 g3 n3 o2 b2 x2
    rintro k e h' ⟨cur, fs, af, nf, cf, vs, rfl, hsp, t⟩
    have hkN := t.nk
    have hMl : ∀ i, (M i ∨ Blk af i) → i < h'.next := fun i r => r.elim (fun r => by have := hM i r; have := t.x.next; omega) fun r => t.o.lt r
    refine K_block ?_
    have c50 := C50 hMl t.q t.w (by have := t.le; omega)
    refine K_reg (Wops_run rfl rfl (Wops_run rfl rfl (Wops_run rfl rfl (Wops_call rfl c50 ?_))))
    intro v1 h1 hq
    cases hx : nextF cur with
    | short =>
      rw [hx] at hq
      obtain ⟨rfl, rfl⟩ := hq
      rw [splitF_short hx] at hsp
      refine Wops_run rfl rfl (Wops_run rfl rfl (Wops_run rfl rfl (Wops_run rfl rfl (Wops_run rfl rfl (Wops_run rfl rfl (Wops_run rfl rfl (K_fin [(0, _), (4, _), (6, _), (7, _), (8, _)] rfl (?_))))))))
      refine K_ss (K_reg (Wops_run rfl rfl (K_fin [(0, _), (4, _), (6, _), (7, _), (37, _)] rfl (?_))))
      refine K_scond rfl (fun hc => by cases hc) (fun _ => ?_)
      refine K_sskip (K_ss (K_reg (Wops_run rfl rfl (Wops_run rfl rfl (K_fin [(0, _), (4, _), (6, _), (47, _)] rfl (?_))))))
      refine K_scond rfl (fun _ => ?_) (fun hc => by cases hc)
      refine K_ss (K_reg (Wops_run rfl rfl (Wops_run rfl rfl (Wops_run rfl rfl (K_fin [(4, _), (5, _)] rfl (?_))))))
      refine K_sret (Told.mk _ rfl ?_)
      show if false = true then _ else _
      rw [if_neg (by simp), hsp]
      exact ⟨af, nf, cf, vs, rfl, t.o, by simpa using t.b, t.nw, t.q.swap (fun i r => .inl (.inl r)) mp, t.x⟩
    | long =>
      rw [hx] at hq
      obtain ⟨rfl, rfl⟩ := hq
      have h2 := nextF_long hx
      obtain ⟨k', rfl⟩ : ∃ k', k = k' + 1 := ⟨k - 1, by have := t.le; omega⟩
      simp only [splitF, hx] at hsp
      refine Wops_run rfl rfl (Wops_run rfl rfl (Wops_run rfl rfl (Wops_run rfl rfl (Wops_run rfl rfl (Wops_run rfl rfl (Wops_run rfl rfl (K_fin [(0, _), (4, _), (6, _), (7, _), (8, _)] rfl (?_))))))))
      refine K_ss (K_reg (Wops_run rfl rfl (K_fin [(0, _), (4, _), (6, _), (7, _), (37, _)] rfl (?_))))
      refine K_scond rfl (fun _ => ?_) (fun hc => by cases hc)
      obtain ⟨_, aq, nq, cq, gq, sq, dq⟩ := t.q
      refine K_ss (K_reg (Wops_run rfl rfl (Wops_run rfl rfl (Wops_run rfl rfl (Wops_run rfl rfl (Wops_run rfl rfl (Wops_st rfl rfl rfl rfl gq (by simp) rfl fun h2 n2 x2 g2 => ?_)))))))
      refine Wops_run rfl rfl (Wops_run rfl rfl (Wops_st rfl rfl rfl rfl g2 (by rw [putL_length]; simp) rfl fun h3 n3 x3 g3 => ?_))
      refine K_fin [(4, _)] rfl (?_)
      refine K_ss (K_reg (Wops_run rfl rfl (Wops_run rfl rfl (Wops_run rfl rfl (K_fin [(4, _), (5, _)] rfl (?_))))))
      have hp : ¬ Blk af p := fun r => by have := t.nw p r; omega
      have X3 : Ext (· = p) h' h3 := x2.trans x3
      refine K_sret (Told.mk _ rfl ?_)
      show if false = true then _ else _
      rw [if_neg (by simp), hsp]
      refine ⟨af, nf, cf, vs, rfl, t.o.ext X3 fun i r e => hp (by rw [← e]; exact r), ?_, t.nw, ⟨mp, none, 0, 0, g3, SlA.none, fun i r => absurd r Blk.none⟩, t.x.trans X3⟩
      have hb3 := (t.b.ext X3 fun i r e => by have := r.1; omega).mono (T := Fs h h3 af) fun i r => ⟨r.1, by have := r.2.1; have := X3.next; omega, r.2.2⟩
      simpa using hb3
    | whole f rest =>
      rw [hx] at hq
      obtain ⟨a1, n1, c1, rfl, o1, d1, q1, x1⟩ := hq
      obtain ⟨hl, hwb⟩ := nextF_whole hx
      obtain ⟨wf, wr⟩ := hwb t.w
      obtain ⟨k', rfl⟩ : ∃ k', k = k' + 1 := ⟨k - 1, by have := t.le; omega⟩
      simp only [splitF, hx] at hsp
      refine Wops_run rfl rfl (Wops_run rfl rfl (Wops_run rfl rfl (Wops_run rfl rfl (Wops_run rfl rfl (Wops_run rfl rfl (Wops_run rfl rfl (K_fin [(0, _), (4, _), (6, _), (7, _), (8, _)] rfl (?_))))))))
      refine K_ss (K_reg (Wops_run rfl rfl (K_fin [(0, _), (4, _), (6, _), (7, _), (37, _)] rfl (?_))))
      refine K_scond rfl (fun hc => by cases hc) (fun _ => ?_)
      refine K_sskip (K_ss (K_reg (Wops_run rfl rfl (Wops_run rfl rfl (K_fin [(0, _), (4, _), (6, _), (47, _)] rfl (?_))))))
      refine K_scond rfl (fun hc => by cases hc) (fun _ => ?_)
      refine K_sskip (K_last (Wops_run rfl rfl (Wops_run rfl rfl (Wops_bslice (l := [.slice a1 n1 c1]) rfl rfl fun h2 n2 x2 g2 => ?_))))
      have hp : ¬ Blk af p := fun r => by have := t.nw p r; omega
      refine Wops_app rfl rfl ((t.o.ext x1 fun i r e => hp (by rw [← e]; exact r)).ext x2) rfl (SlA.mk' (n := 1) (c := 1) (off := 0) g2 (by simp) (.inr (.inr rfl))).first ⟨by omega, by omega⟩ rfl rfl (by decide) fun h3 a3 c3 x3 o3 b3 => ?_
      refine Wops_run rfl rfl (K_finL [(0, _), (4, _)] rfl (?_))
      have := t.le
      exact ⟨k', by omega, rest, fs ++ [f], a3, nf + 1, c3, _, rfl, by rw [hsp]; simp, t.push (x1.then0 x2) (q1.ext0 x2) wr (o1.ext x2) d1 x3 o3 b3 (by omega) (by omega)⟩
end Go.Dx.SYtocdemagjocggaa
