/- Contracts of frame's functions: the rest of them; FrameAll. -/
import Derived.Test.YtocdemagjocggaaFr4
namespace Go.Dx.SYtocdemagjocggaa
open Go.Proofs
set_option linter.unusedVariables false
set_option linter.unusedSimpArgs false

set_option maxRecDepth 100000 in
theorem begun15_run : isTrue (fnR T 300 15 [] Heap.empty) = true := by kernel_rfl
theorem C15 {h : Heap} : Fn Try.prog 15 [] h fun v h' => v = .bool true ∧ h = h' :=
  Fn.anywhere (R := fun v => v = .bool true) rfl (fn_of_true T.ok begun15_run) fun v h' q => ⟨by rw [q]; rfl, q⟩

theorem splitF_facts : ∀ (k : Nat) (bs : List Int), (splitF k bs).2.1.length ≤ bs.length ∧ (Byte bs → (∀ f ∈ (splitF k bs).1, Byte f) ∧ Byte (splitF k bs).2.1)
  | 0, bs => ⟨Nat.le_refl _, fun w => ⟨fun f hf => (by cases hf), w⟩⟩
  | k + 1, bs => by
    simp only [splitF]
    cases hx : nextF bs with
    | short => exact ⟨Nat.le_refl _, fun w => ⟨fun f hf => (by cases hf), w⟩⟩
    | long => exact ⟨Nat.zero_le _, fun w => ⟨fun f hf => (by cases hf), fun x hx => (by cases hx)⟩⟩
    | whole f rest =>
      obtain ⟨h1, h2⟩ := nextF_whole hx
      obtain ⟨i1, i2⟩ := splitF_facts k rest
      refine ⟨by simp only; omega, fun w => ?_⟩
      obtain ⟨wf, wr⟩ := h2 w
      refine ⟨fun g hg => ?_, (i2 wr).2⟩
      rcases List.mem_cons.1 hg with rfl | hg
      · exact wf
      · exact (i2 wr).1 g hg

def addR (bs : List Int) (bad : Bool) (ys : List Int) : List (List Int) × List Int × Bool × Int :=
  if bad = true then ([], bs, true, 4) else ((splitF (bs ++ ys).length (bs ++ ys)).1, (splitF (bs ++ ys).length (bs ++ ys)).2.1, (splitF (bs ++ ys).length (bs ++ ys)).2.2, if (splitF (bs ++ ys).length (bs ++ ys)).2.2 = true then 4 else 0)
theorem Byte.app {xs ys : List Int} (a : Byte xs) (b : Byte ys) : Byte (xs ++ ys) := fun x hx => (List.mem_append.1 hx).elim (a x) (b x)
theorem addR_facts {bs ys : List Int} (bad : Bool) (w : Byte bs) (wy : Byte ys) : (addR bs bad ys).2.1.length ≤ bs.length + ys.length ∧ (∀ f ∈ (addR bs bad ys).1, Byte f) ∧ Byte (addR bs bad ys).2.1 := by
  unfold addR
  split
  · exact ⟨Nat.le_add_right _ _, fun f hf => (by cases hf), w⟩
  · obtain ⟨h1, h2⟩ := splitF_facts (bs ++ ys).length (bs ++ ys)
    obtain ⟨h3, h4⟩ := h2 (w.app wy)
    exact ⟨by simp only [List.length_append] at h1 ⊢; exact h1, h3, h4⟩

def AddPost (M : Nat → Prop) (h : Heap) (p : Nat) (r : List (List Int) × List Int × Bool × Int) (v : Value) (h' : Heap) : Prop :=
  ∃ af nf cf vs, v = .tuple ⟨[.slice af nf cf, .int .i64 r.2.2.2]⟩ ∧ SlA h' 1 af nf cf vs ∧ Bys h' .u8 (fun i => h.next ≤ i ∧ i < h'.next) vs r.1 ∧ (∀ i, Blk af i → h.next ≤ i ∧ i < h'.next) ∧ Pt M h' p r.2.1 r.2.2.1 ∧ Ext (· = p) h h'

theorem AddPost.of {M : Nat → Prop} {h : Heap} {p : Nat} {bs ys : List Int} {bad : Bool} (q : Pt M h p bs bad) {v : Value} {h' : Heap} (hp : if bad = true then v = .tuple ⟨[.slice none 0 0, .int .i64 4]⟩ ∧ h = h' else ∃ af nf cf vs,
      v = .tuple ⟨[.slice af nf cf, .int .i64 (if (splitF (bs ++ ys).length (bs ++ ys)).2.2 = true then 4 else 0)]⟩ ∧ OwS h' 1 af nf cf vs ∧ Bys h' .u8 (Fs h h' af) vs (splitF (bs ++ ys).length (bs ++ ys)).1 ∧ (∀ i, Blk af i → h.next ≤ i) ∧
      Pt M h' p (splitF (bs ++ ys).length (bs ++ ys)).2.1 (splitF (bs ++ ys).length (bs ++ ys)).2.2 ∧ Ext (· = p) h h') : AddPost M h p (addR bs bad ys) v h' := by
  unfold addR
  cases bad with
  | true =>
    rw [if_pos rfl] at hp ⊢
    obtain ⟨rfl, rfl⟩ := hp
    exact ⟨none, 0, 0, [], rfl, SlA.none, trivial, fun i r => absurd r Blk.none, q, Ext.refl _ _⟩
  | false =>
    rw [if_neg (by simp)] at hp ⊢
    obtain ⟨af, nf, cf, vs, rfl, o, b, n, q', x⟩ := hp
    exact ⟨af, nf, cf, vs, rfl, o.sl, b.mono fun i r => ⟨r.1, r.2.1⟩, fun i r => ⟨n i r, o.lt r⟩, q', x⟩

theorem C18' {M : Nat → Prop} {h : Heap} {p nb cb : Nat} {ab : Option Addr} {bs ys : List Int} {bad : Bool} (hM : ∀ i, M i → i < h.next) (q : Pt M h p bs bad) (hw : Byte bs) (sy : InS h ab nb cb (ints .u8 ys)) (hwy : Byte ys)
    (hb : bs.length ≤ 100000) (hb2 : ys.length ≤ 100000) : Fn Try.prog 18 [ptr p, .slice ab nb cb] h (AddPost M h p (addR bs bad ys)) :=
  (C18 hM q hw sy.sl sy.lt hwy hb hb2).mono fun v h' => AddPost.of q
theorem C28' {M : Nat → Prop} {h : Heap} {p nb cb : Nat} {ab : Option Addr} {bs ys : List Int} {bad : Bool} (hM : ∀ i, M i → i < h.next) (q : Pt M h p bs bad) (hw : Byte bs) (sy : InS h ab nb cb (ints .u8 ys)) (hwy : Byte ys)
    (hb : bs.length ≤ 100000) (hb2 : ys.length ≤ 100000) : Fn Try.prog 28 [ptr p, .slice ab nb cb] h (AddPost M h p (addR bs bad ys)) :=
  (C28 hM q hw sy.sl sy.lt hwy hb hb2).mono fun v h' => AddPost.of q

theorem C17 {h : Heap} : Fn Try.prog 17 [] h fun v h' => ∃ p, v = ptr p ∧ At h' p (.cells [.slice none 0 0, .bool false] 0 false) ∧ Ext0 h h' ∧ h.next ≤ p := by
  refine fnK F17.fok rfl ?_
  refine K_reg (Wops_run rfl rfl (K_fin [] rfl (?_)))
  refine K_reg (Wops_run rfl rfl (Wops_box rfl rfl fun h1 n1 x1 g1 => ?_))
  refine Wops_run rfl rfl (K_fin [(0, _)] rfl (?_))
  exact K_ret (Told.mk _ rfl ⟨h.next, rfl, g1, x1, Nat.le_refl _⟩)

theorem C51 {h : Heap} {p n c : Nat} {a : Option Addr} {w : Value} (g : At h p (.cells [.slice a n c, w] 0 false)) : Fn Try.prog 51 [ptr p] h fun v h' => v = .int .i64 n ∧ h = h' := by
  refine fnK F51.fok rfl ?_
  refine K_reg (Wops_run rfl rfl (K_fin [(0, _)] rfl (?_)))
  refine K_reg (Wops_run rfl rfl (Wops_run rfl rfl (Wops_run rfl rfl (Wops_ld rfl g (by rfl) ?_))))
  refine Wops_run rfl rfl (Wops_run rfl rfl (K_fin [(2, _)] rfl (?_)))
  exact K_ret (Told.mk _ rfl ⟨rfl, rfl⟩)
theorem C20 {M : Nat → Prop} {h : Heap} {p : Nat} {bs : List Int} {bad : Bool} (q : Pt M h p bs bad) : Fn Try.prog 20 [ptr p] h fun v h' => v = .int .i64 bs.length ∧ h = h' := by
  obtain ⟨mp, a, n, c, g, s, ha⟩ := q
  have hn : bs.length = n := by simpa using s.len
  refine fnK F20.fok rfl ?_
  refine K_reg (Wops_run rfl rfl (K_fin [(0, _)] rfl (?_)))
  refine K_ss (K_reg (Wops_run rfl rfl (Wops_run rfl rfl (K_fin [(0, _), (4, _)] rfl (?_)))))
  refine K_scond rfl (fun hc => by cases hc) (fun hc => ?_)
  refine K_sskip (K_reg (Wops_run rfl rfl (Wops_run rfl rfl (Wops_run rfl rfl (Wops_call rfl (C51 g) ?_)))))
  rintro _ _ ⟨rfl, rfl⟩
  refine Wops_run rfl rfl (K_fin [(2, _)] rfl (?_))
  exact K_ret (Told.mk _ rfl ⟨by rw [hn]; rfl, rfl⟩)
theorem C21 {M : Nat → Prop} {h : Heap} {p : Nat} {bs : List Int} {bad : Bool} (q : Pt M h p bs bad) : Fn Try.prog 21 [ptr p] h fun v h' => v = .bool bad ∧ h = h' := by
  obtain ⟨mp, a, n, c, g, s, ha⟩ := q
  refine fnK F21.fok rfl ?_
  refine K_reg (Wops_run rfl rfl (K_fin [(0, _)] rfl (?_)))
  refine K_reg (Wops_run rfl rfl (Wops_run rfl rfl (Wops_run rfl rfl (Wops_go rfl (Wops_run rfl rfl (Wops_go rfl (Wops_run rfl rfl (Wops_go rfl (Wops_run rfl rfl (Wops_go rfl (Wops_ld rfl g (by rfl) ?_)))))))))))
  refine Wops_run rfl rfl (Wops_run rfl rfl (K_fin [(2, _)] rfl (?_)))
  exact K_ret (Told.mk _ rfl ⟨rfl, rfl⟩)
theorem C29 {M : Nat → Prop} {h : Heap} {p : Nat} {bs : List Int} {bad : Bool} (hM : ∀ i, M i → i < h.next) (q : Pt M h p bs bad) (hb : bs.length ≤ 1000000) : Fn Try.prog 29 [ptr p] h fun v h' => ∃ pc, v = ptr pc ∧ Pt (· = pc) h' pc bs bad ∧ Ext0 h h' ∧ h.next ≤ pc ∧ pc < h'.next := by
  obtain ⟨mp, a, n, c, g, s, ha⟩ := q
  have hn : bs.length = n := by simpa using s.len
  refine fnK F29.fok rfl ?_
  refine K_reg (Wops_run rfl rfl (K_fin [(0, _)] rfl (?_)))
  refine K_ss (K_reg (Wops_run rfl rfl (Wops_run rfl rfl (K_fin [(0, _), (4, _)] rfl (?_)))))
  refine K_scond rfl (fun hc => by cases hc) (fun hc => ?_)
  refine K_sskip (K_reg (Wops_run rfl rfl (Wops_run rfl rfl (Wops_run rfl rfl (Wops_run rfl rfl (Wops_ld rfl g (by rfl) ?_))))))
  refine Wops_run rfl rfl (Wops_run rfl rfl (Wops_run rfl rfl (Wops_ld rfl g (by rfl) ?_)))
  refine Wops_call rfl (C57 s (ints_cell _ _) (by omega)) ?_
  rintro _ h1 ⟨a1, c1, rfl, o1, x1, b1⟩
  refine Wops_chk rfl rfl (x1.some0 g) (by rfl) (by cases bad <;> rfl) ?_
  refine Wops_run rfl rfl (Wops_run rfl rfl (Wops_box rfl rfl fun h2 n2 x2 g2 => ?_))
  refine Wops_run rfl rfl (K_fin [(2, _)] rfl (?_))
  refine K_ret (Told.mk _ rfl ⟨h1.next, rfl, ⟨rfl, a1, n, c1, g2, (o1.ext x2).sl, fun i r => ⟨fun e => ?_, by have := (b1 i r).2; omega⟩⟩, x1.then0 x2, x1.next, by omega⟩)
  have := (b1 i r).2; omega

theorem C19 {h : Heap} {S : Nat → Prop} {a b : Option Addr} {n c m d : Nat} {vs ws : List Value} {fs gs : List (List Int)} (s : SlA h 1 a n c vs) (s2 : SlA h 1 b m d ws) (bf : Bys h .u8 S vs fs) (bg : Bys h .u8 S ws gs) (wf : ∀ f ∈ fs, Byte f) (wg : ∀ f ∈ gs, Byte f) (hb : n ≤ 1000000) :
    Fn Try.prog 19 [.slice a n c, .slice b m d] h fun v h' => v = .bool (decide (fs = gs)) ∧ h = h' := by
  have hn : fs.length = n := by rw [← bf.length]; simpa using s.len
  have hm : gs.length = m := by rw [← bg.length]; simpa using s2.len
  refine fnK F19.fok rfl ?_
  refine K_reg (Wops_run rfl rfl (K_fin [(0, _), (1, _)] rfl (?_)))
  refine K_ss (K_reg (Wops_run rfl rfl (Wops_run rfl rfl (Wops_run rfl rfl (Wops_run rfl rfl (Wops_run rfl rfl (K_fin [(0, _), (1, _), (10, _)] rfl (?_))))))))
  refine K_scond rfl (fun hc => ?_) (fun hc => ?_)
  · have hne : n ≠ m := fun e => by subst e; simp at hc
    refine K_ss (K_reg (Wops_run rfl rfl (K_fin [(4, _)] rfl (?_))))
    refine K_sret (Told.mk _ rfl (show _ ∧ _ from ⟨?_, rfl⟩))
    rw [decide_eq_false (fun e => hne (by rw [← hn, ← hm, e]))]; rfl
  · have hnm : n = m := by
      have h1 : ((n : Int) != (m : Int)) = false := hc
      simp at h1; omega
    subst hnm
    refine K_sskip (K_ss (K_reg (Wops_run rfl rfl (K_fin [(0, _), (1, _), (5, _)] rfl (?_)))))
    refine K_sblock ?_
    refine K_loop (fun k e h' => ∃ i : Nat, e = [(0, .slice a n c), (1, .slice b n d), (5, .int .i64 i)] ∧ h = h' ∧ i ≤ n ∧ k = n - i ∧ fs.take i = gs.take i) ?_ (k := n) ⟨0, rfl, rfl, by omega, rfl, rfl⟩
    rintro k e h' ⟨i, rfl, rfl, hi, rfl, ht⟩
    refine K_ss (K_reg (Wops_run rfl rfl (Wops_run rfl rfl (Wops_run rfl rfl (Wops_run rfl rfl (K_fin [(0, _), (1, _), (5, _), (14, _)] rfl (?_)))))))
    refine K_scond rfl (fun hc => ?_) (fun hc => ?_)
    · have hlt : i < n := by have := of_decide_eq_true hc; omega
      obtain ⟨a1, n1, c1, hv1, sf, _⟩ := bf.get i (by omega)
      obtain ⟨a2, n2, c2, hv2, sg, _⟩ := bg.get i (by omega)
      refine K_sskip (K_sblock ?_)
      refine K_reg (Wops_run rfl rfl (Wops_run rfl rfl (Wops_idx (u := .slice a1 n1 c1) rfl rfl s ⟨by omega, by omega⟩ (by simpa using hv1) fun p => ?_)))
      refine Wops_toStr rfl sf (Wops_run rfl rfl (Wops_run rfl rfl (Wops_idx (u := .slice a2 n2 c2) rfl rfl s2 ⟨by omega, by omega⟩ (by simpa using hv2) fun p => ?_)))
      refine Wops_toStr rfl sg (Wops_strne (v := !decide (fs[i] = gs[i])) rfl rfl ?_ (K_fin [(0, _), (1, _), (5, _), (27, _)] rfl (?_)))
      · rw [toList_bytes, toList_bytes]
        by_cases he : fs[i] = gs[i]
        · rw [he]; simp
        · rw [decide_eq_false he]
          have : bytesOf fs[i] ≠ bytesOf gs[i] := fun q => he (bytesOf_inj (wf _ (List.getElem_mem _)) (wg _ (List.getElem_mem _)) q)
          simp [this]
      refine K_cond rfl (fun hd => ?_) (fun hd => ?_)
      · refine K_reg (Wops_run rfl rfl (K_fin [(4, _)] rfl (?_)))
        refine K_ret (Told.mk _ rfl (show _ ∧ _ from ⟨?_, rfl⟩))
        rw [decide_eq_false (fun e => by subst e; simp at hd)]; rfl
      · refine K_skip (K_last (Wops_run rfl rfl (Wops_run rfl rfl (Wops_run rfl rfl (K_finL [(0, _), (1, _), (5, _)] rfl (?_))))))
        refine ⟨n - (i + 1), by omega, i + 1, by rw [w64s (by omega)], rfl, by omega, rfl, ?_⟩
        have h2 : fs[i] = gs[i] := by simpa using hd
        rw [List.take_add_one, List.take_add_one, ht, List.getElem?_eq_getElem (by omega), List.getElem?_eq_getElem (by omega), h2]
    · have hin : i = n := by have := of_decide_eq_false hc; omega
      refine K_sexit (bx_same ?_)
      refine K_reg (Wops_run rfl rfl (K_fin [(4, _)] rfl (?_)))
      refine K_ret (Told.mk _ rfl (show _ ∧ _ from ⟨?_, rfl⟩))
      rw [List.take_of_length_le (by omega), List.take_of_length_le (by omega)] at ht
      rw [decide_eq_true ht]; rfl

theorem C18nil {h : Heap} {v : Value} : Fn Try.prog 18 [.pointer none, v] h fun v h' => v = .tuple ⟨[.slice none 0 0, .int .i64 1]⟩ ∧ h = h' := by
  refine fnK F18.fok rfl ?_
  refine K_reg (Wops_run rfl rfl (Wops_run rfl rfl (K_fin [(0, _), (1, _), (4, _)] rfl (?_))))
  refine K_sblock ?_
  refine K_reg (Wops_run rfl rfl (Wops_run rfl rfl (Wops_run rfl rfl (K_fin [(0, _), (1, _), (4, _), (9, _)] rfl (?_)))))
  refine K_cond rfl (fun _ => ?_) (fun hc => by cases hc)
  refine K_reg (Wops_run rfl rfl (Wops_run rfl rfl (K_fin [(4, _), (5, _)] rfl (?_))))
  exact K_ret (Told.mk _ rfl ⟨rfl, rfl⟩)
theorem C20nil {h : Heap} : Fn Try.prog 20 [.pointer none] h fun v h' => v = .int .i64 0 ∧ h = h' := by
  refine fnK F20.fok rfl ?_
  refine K_reg (Wops_run rfl rfl (K_fin [(0, _)] rfl (?_)))
  refine K_ss (K_reg (Wops_run rfl rfl (Wops_run rfl rfl (K_fin [(0, _), (4, _)] rfl (?_)))))
  refine K_scond rfl (fun _ => ?_) (fun hc => by cases hc)
  refine K_ss (K_reg (Wops_run rfl rfl (K_fin [(2, _)] rfl (?_))))
  exact K_sret (Told.mk _ rfl ⟨rfl, rfl⟩)
theorem C21nil {h : Heap} : Fn Try.prog 21 [.pointer none] h fun v h' => v = .bool false ∧ h = h' := by
  refine fnK F21.fok rfl ?_
  refine K_reg (Wops_run rfl rfl (K_fin [(0, _)] rfl (?_)))
  refine K_reg (Wops_run rfl rfl (Wops_run rfl rfl (Wops_run rfl rfl (Wops_skip rfl (Wops_skip rfl (Wops_skip rfl (Wops_skip rfl (Wops_run rfl rfl (Wops_run rfl rfl (K_fin [(2, _)] rfl (?_)))))))))))
  exact K_ret (Told.mk _ rfl ⟨rfl, rfl⟩)
theorem C29nil {h : Heap} : Fn Try.prog 29 [.pointer none] h fun v h' => v = .pointer none ∧ h = h' := by
  refine fnK F29.fok rfl ?_
  refine K_reg (Wops_run rfl rfl (K_fin [(0, _)] rfl (?_)))
  refine K_ss (K_reg (Wops_run rfl rfl (Wops_run rfl rfl (K_fin [(0, _), (4, _)] rfl (?_)))))
  refine K_scond rfl (fun _ => ?_) (fun hc => by cases hc)
  refine K_ss (K_reg (Wops_run rfl rfl (K_fin [(2, _)] rfl (?_))))
  exact K_sret (Told.mk _ rfl ⟨rfl, rfl⟩)
end Go.Dx.SYtocdemagjocggaa
