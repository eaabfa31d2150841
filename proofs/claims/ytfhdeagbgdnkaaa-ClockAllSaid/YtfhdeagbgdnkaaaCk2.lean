/- Contracts of clock's functions. -/
import Derived.Test.YtfhdeagbgdnkaaaCk1
namespace Go.Dx.SYtfhdeagbgdnkaaa
open Go.Proofs
set_option linter.unusedVariables false
set_option linter.unusedSimpArgs false

set_option maxRecDepth 100000 in
theorem begun31_run : isTrue (fnR T 400 31 [] Heap.empty) = true := by kernel_rfl
theorem C31 {h : Heap} : Fn Try.prog 31 [] h fun v h' => v = .bool true ∧ h = h' :=
  Fn.anywhere (R := fun v => v = .bool true) rfl (fn_of_true T.ok begun31_run) fun v h' q => ⟨by rw [q]; rfl, q⟩

/-- A clock: its dates, what time it is, and all that is its own. -/
def Ck (h : Heap) (p : Nat) (ds : List D) (now : Int) (S : Nat → Prop) : Prop :=
  ∃ a n c, At h p (.cells [.slice a n c, .int .u64 now] 0 false) ∧ OwS h 2 a n c (en dte ds) ∧ ds.length = n ∧ ¬ Blk a p ∧ ∀ i, S i ↔ (i = p ∨ Blk a i)
theorem Ck.ext {h h' : Heap} {p : Nat} {ds : List D} {now : Int} {S T : Nat → Prop} (q : Ck h p ds now S) (x : Ext T h h') (hd : ∀ i, S i → ¬ T i) : Ck h' p ds now S := by
  obtain ⟨a, n, c, h1, h2, h3, h4, h5⟩ := q
  exact ⟨a, n, c, h1.ext x (hd p ((h5 p).2 (.inl rfl))), h2.ext x (fun i r => hd i ((h5 i).2 (.inr r))), h3, h4, h5⟩
theorem Ck.ext0 {h h' : Heap} {p : Nat} {ds : List D} {now : Int} {S : Nat → Prop} (q : Ck h p ds now S) (x : Ext0 h h') : Ck h' p ds now S := q.ext x fun _ _ r => r
theorem Ck.lt {h : Heap} {p : Nat} {ds : List D} {now : Int} {S : Nat → Prop} (q : Ck h p ds now S) {i : Nat} (hi : S i) : i < h.next := by
  obtain ⟨a, n, c, h1, h2, h3, h4, h5⟩ := q
  rcases (h5 i).1 hi with rfl | r
  · exact h1.lt
  · exact h2.lt r

theorem C32 {h : Heap} : Fn Try.prog 32 [] h fun v h' => ∃ p, v = ptr p ∧ Ck h' p [] 0 (· = p) ∧ Ext0 h h' ∧ h.next ≤ p := by
  refine fnK F32.fok rfl ?_
  refine K_reg (Wops_run rfl rfl (K_fin [] rfl (?_)))
  refine K_reg (Wops_run rfl rfl (Wops_box rfl rfl fun h1 n1 x1 g1 => ?_))
  refine Wops_run rfl rfl (K_fin [(0, _)] rfl (?_))
  exact K_ret (Told.mk _ rfl ⟨h.next, rfl, ⟨none, 0, 0, g1, OwS.none, rfl, Blk.none, fun i => ⟨.inl, fun q => q.elim id fun r => absurd r Blk.none⟩⟩, x1, Nat.le_refl _⟩)

/-- find's own function -/
theorem C69 {h : Heap} {i : Nat} {x : D} {y : Int} (g : At h i (.cells [.int .u64 y] 0 false)) : Fn Try.prog 69 [.agg ⟨dte x⟩, ptr i] h fun v h' => v = .bool (x.1 == y) ∧ h = h' := by
  refine Fn.gc (Q := fun v h' => v = .bool (x.1 == y) ∧ Ext0 h h') (R := fun v => v = .bool (x.1 == y)) ?_ fun v h' q => ⟨q.2, by rw [q.1]; rfl, q.1⟩
  refine fnK F69.fok rfl ?_
  refine K_reg (Wops_box rfl rfl fun h1 n1 x1 g1 => Wops_run rfl rfl (K_fin [(1, _), (2, _)] rfl (?_)))
  refine K_reg (Wops_run rfl rfl (Wops_ld rfl g1 (by rfl) (Wops_ld rfl (x1.some0 g) (by rfl) ?_)))
  refine Wops_run rfl rfl (Wops_run rfl rfl (K_fin [(3, _)] rfl (?_)))
  exact K_ret (Told.mk _ rfl ⟨rfl, x1⟩)
/-- Drop's own function -/
theorem C53 {h : Heap} {i n c : Nat} {a : Option Addr} {x : D} {ids : List Int} (g : At h i (.cells [.slice a n c] 0 false)) (s : SlA h 1 a n c (us ids)) (hb : n ≤ 1000000) : Fn Try.prog 53 [.agg ⟨dte x⟩, ptr i] h fun v h' => v = .bool (decide (x.1 ∈ ids)) ∧ h = h' := by
  refine Fn.gc (Q := fun v h' => v = .bool (decide (x.1 ∈ ids)) ∧ Ext0 h h') (R := fun v => v = .bool (decide (x.1 ∈ ids))) ?_ fun v h' q => ⟨q.2, by rw [q.1]; rfl, q.1⟩
  refine fnK F53.fok rfl ?_
  refine K_reg (Wops_box rfl rfl fun h1 n1 x1 g1 => Wops_run rfl rfl (K_fin [(1, _), (2, _)] rfl (?_)))
  refine K_reg (Wops_ld rfl (x1.some0 g) (by rfl) (Wops_run rfl rfl (Wops_ld rfl g1 (by rfl) (Wops_call rfl (C54 (s.ext x1) (by omega)) ?_))))
  rintro _ _ ⟨rfl, rfl⟩
  refine Wops_run rfl rfl (K_fin [(3, _)] rfl (?_))
  exact K_ret (Told.mk _ rfl ⟨rfl, x1⟩)

/-- clock's find -/
theorem C51 {h : Heap} {p n c : Nat} {a : Option Addr} {w : Value} {ds : List D} {x : Int} (g : At h p (.cells [.slice a n c, w] 0 false)) (s : SlA h 2 a n c (en dte ds)) (hn : ds.length = n) (hb : n ≤ 1000000) :
    Fn Try.prog 51 [ptr p, .int .u64 x] h fun v h' => v = .int .i64 (ixG (fun d => d.1 == x) ds) ∧ h = h' := by
  refine Fn.gc (Q := fun v h' => v = .int .i64 (ixG (fun d => d.1 == x) ds) ∧ Ext0 h h') (R := fun v => v = .int .i64 (ixG (fun d => d.1 == x) ds)) ?_ fun v h' q => ⟨q.2, by rw [q.1]; rfl, q.1⟩
  refine fnK F51.fok rfl ?_
  refine K_reg (Wops_box rfl rfl fun h1 n1 x1 g1 => Wops_run rfl rfl (K_fin [(0, _), (3, _)] rfl (?_)))
  refine K_reg (Wops_run rfl rfl (Wops_run rfl rfl (Wops_run rfl rfl (Wops_ld rfl (x1.some0 g) (by rfl) ?_))))
  refine Wops_run rfl rfl (Wops_call rfl (C68 (p := fun d => d.1 == x) (s.ext x1) hn (by omega) fun d _ => C69 g1) ?_)
  rintro _ _ ⟨rfl, rfl⟩
  refine Wops_run rfl rfl (K_fin [(4, _)] rfl (?_))
  exact K_ret (Told.mk _ rfl ⟨rfl, x1⟩)

def setR (ds : List D) (now x t : Int) : Int × List D := if t = 0 ∨ t > 1099511627776 then (1, ds) else if ds.any (fun d => d.1 == x) = true then (11, ds) else (0, ds ++ [(x, now + t)])
theorem wrapu {x : Int} (h : 0 ≤ x ∧ x ≤ 18446744073709551615) : IntKind.wrap .u64 x = x := by
  simp [IntKind.wrap, IntKind.signed, IntKind.bits]; omega

theorem C33 {h : Heap} {p : Nat} {ds : List D} {now x t : Int} {S : Nat → Prop} (q : Ck h p ds now S) (hb : ds.length ≤ 1000) (hnow : 0 ≤ now ∧ now ≤ 1000000) (ht : 0 ≤ t) :
    Fn Try.prog 33 [ptr p, .int .u64 x, .int .u64 t] h fun v h' => v = .int .i64 (setR ds now x t).1 ∧ ∃ S', Ck h' p (setR ds now x t).2 now S' ∧ Turn h h' S S' := by
  obtain ⟨a, n, c, g, o, hn, hpa, hS⟩ := id q
  refine fnK F33.fok rfl ?_
  refine K_reg (Wops_run rfl rfl (K_fin [(0, _), (1, _), (2, _)] rfl (?_)))
  refine K_sblock ?_
  refine K_reg (Wops_run rfl rfl (Wops_run rfl rfl (Wops_run rfl rfl (Wops_go rfl (Wops_run rfl rfl (Wops_go rfl ?_))))))
  by_cases h0 : t = 0
  · subst h0
    refine Wops_eq (v := true) rfl rfl rfl (Wops_run rfl rfl (Wops_run rfl rfl (Wops_skip rfl (Wops_skip rfl (Wops_run rfl rfl (Wops_run rfl rfl (K_fin [(0, _), (1, _), (2, _), (7, _)] rfl (?_))))))))
    refine K_cond rfl (fun _ => ?_) (fun hc => by cases hc)
    refine K_reg (Wops_run rfl rfl (K_fin [(6, _)] rfl (?_)))
    exact K_ret (Told.mk _ rfl ⟨rfl, S, q, Turn.refl _ _⟩)
  refine Wops_eq (v := false) rfl rfl (by simpa using h0) (Wops_run rfl rfl (Wops_run rfl rfl (Wops_go rfl (Wops_run rfl rfl (Wops_go rfl (Wops_run rfl rfl (Wops_run rfl rfl (Wops_run rfl rfl (K_fin [(0, _), (1, _), (2, _), (7, _)] rfl (?_))))))))))
  refine K_cond rfl (fun hc => ?_) (fun hc => ?_)
  · have hr : setR ds now x t = (1, ds) := by unfold setR; rw [if_pos (.inr (of_decide_eq_true hc))]
    rw [hr]
    refine K_reg (Wops_run rfl rfl (K_fin [(6, _)] rfl (?_)))
    exact K_ret (Told.mk _ rfl ⟨rfl, S, q, Turn.refl _ _⟩)
  have hle : t ≤ 1099511627776 := by have := of_decide_eq_false hc; omega
  refine K_reg (Wops_run rfl rfl (Wops_run rfl rfl (Wops_run rfl rfl (Wops_run rfl rfl (Wops_call rfl (C51 g o.sl hn (by omega)) ?_)))))
  rintro _ _ ⟨rfl, rfl⟩
  refine Wops_run rfl rfl (Wops_run rfl rfl (K_fin [(0, _), (1, _), (2, _), (18, _)] rfl (?_)))
  refine K_cond rfl (fun hc => ?_) (fun hc => ?_)
  · have hin := ixG_ge.1 (of_decide_eq_true hc)
    have hr : setR ds now x t = (11, ds) := by unfold setR; rw [if_neg (by omega), if_pos hin]
    rw [hr]
    refine K_reg (Wops_run rfl rfl (K_fin [(6, _)] rfl (?_)))
    exact K_ret (Told.mk _ rfl ⟨rfl, S, q, Turn.refl _ _⟩)
  have hin := fun e => of_decide_eq_false hc (ixG_ge.2 e)
  have hr : setR ds now x t = (0, ds ++ [(x, now + t)]) := by unfold setR; rw [if_neg (by omega), if_neg hin]
  rw [hr]
  refine K_skip ?_
  refine K_reg (Wops_run rfl rfl (Wops_run rfl rfl (Wops_run rfl rfl (Wops_run rfl rfl (Wops_run rfl rfl (Wops_ld rfl g (by rfl) ?_))))))
  refine Wops_run rfl rfl (Wops_run rfl rfl (Wops_run rfl rfl (Wops_run rfl rfl (Wops_ld rfl g (by rfl) ?_))))
  refine Wops_run rfl rfl (Wops_as (w := .int .u64 (now + t)) rfl rfl (by rw [wrapu (by omega)]) (Wops_run rfl rfl ?_))
  refine Wops_bslice (l := dte (x, now + t)) rfl rfl fun h1 n1 x1 g1 => ?_
  refine Wops_app rfl rfl (o.ext x1) rfl (OwS.new (n := 1) (c := 1) g1 rfl).sl.first ⟨by omega, by omega⟩ rfl rfl (by decide) fun h2 a2 c2 x2 o2 b2 => ?_
  have hp2 : ¬ Blk a2 p := fun r => (b2 p r).elim hpa fun r => by have := g.lt; have := x1.next; omega
  refine Wops_run rfl rfl (Wops_run rfl rfl (Wops_run rfl rfl (Wops_st rfl rfl rfl rfl ((g.ext x1).ext x2 hpa) (by simp) rfl fun h3 n3 x3 g3 => ?_)))
  refine K_fin [] rfl (?_)
  refine K_reg (Wops_run rfl rfl (K_fin [(6, _)] rfl (?_)))
  refine K_ret (Told.mk _ rfl ⟨rfl, fun i => i = p ∨ Blk a2 i, ⟨a2, n + 1, c2, g3, ?_, by simp [hn], hp2, fun i => Iff.rfl⟩, ?_, ?_⟩)
  · have := o2.ext x3 (fun i r e => hp2 (by rw [← e]; exact r))
    rw [en_app]; exact this
  · exact (x1.of0.then x2 fun i r => .inl ((hS i).2 (.inr r))).then x3 fun i r => .inl ((hS i).2 (.inl r))
  · intro i r
    rcases r with rfl | r
    · exact .inl ((hS _).2 (.inl rfl))
    · rcases b2 i r with r | r
      · exact .inl ((hS _).2 (.inr r))
      · have := x1.next; exact .inr (by omega)

theorem C36 {h : Heap} {p : Nat} {ds : List D} {now : Int} {S : Nat → Prop} (q : Ck h p ds now S) : Fn Try.prog 36 [ptr p] h fun v h' => v = .int .u64 now ∧ h = h' := by
  obtain ⟨a, n, c, g, o, hn, hpa, hS⟩ := id q
  refine fnK F36.fok rfl ?_
  refine K_reg (Wops_run rfl rfl (K_fin [(0, _)] rfl (?_)))
  refine K_ss (K_reg (Wops_run rfl rfl (Wops_run rfl rfl (K_fin [(0, _), (4, _)] rfl (?_)))))
  refine K_scond rfl (fun hc => by cases hc) (fun hc => ?_)
  refine K_sskip (K_reg (Wops_run rfl rfl (Wops_run rfl rfl (Wops_run rfl rfl (Wops_ld rfl g (by rfl) ?_)))))
  refine Wops_run rfl rfl (K_fin [(2, _)] rfl (?_))
  exact K_ret (Told.mk _ rfl ⟨rfl, rfl⟩)

def dropR (ds : List D) (ids : List Int) : List D := ds.filter fun d => !decide (d.1 ∈ ids)
theorem C37 {h : Heap} {p n2 c2 : Nat} {a2 : Option Addr} {ds : List D} {ids : List Int} {now : Int} {S : Nat → Prop} (q : Ck h p ds now S) (s2 : SlA h 1 a2 n2 c2 (us ids)) (hd2 : ∀ i, Blk a2 i → ¬ S i) (hb : ds.length ≤ 1000) (hb2 : n2 ≤ 1000) :
    Fn Try.prog 37 [ptr p, .slice a2 n2 c2] h fun v h' => ∃ S', Ck h' p (dropR ds ids) now S' ∧ Turn h h' S S' := by
  refine fnK F37.fok rfl ?_
  refine K_reg (Wops_box rfl rfl fun h1 n1 x1 g1 => K_fin [(0, _), (3, _)] rfl (?_))
  obtain ⟨a, n, c, g, o, hn, hpa, hS⟩ := id (q.ext0 x1)
  refine K_reg (Wops_run rfl rfl (Wops_run rfl rfl (K_fin [(0, _), (3, _), (5, _)] rfl (?_))))
  refine K_cond rfl (fun _ => ?_) (fun hc => by cases hc)
  have ne : ∀ {j : Nat}, S j → j ≠ h.next := fun r => by have := q.lt r; omega
  refine K_last (Wops_run rfl rfl (Wops_run rfl rfl (Wops_run rfl rfl (Wops_run rfl rfl (Wops_run rfl rfl (Wops_ld rfl g (by rfl) ?_))))))
  refine Wops_run rfl rfl (Wops_call rfl (C52 (ca := [ptr h.next]) (p := fun d => decide (d.1 ∈ ids)) o hn (by omega) fun h3 x3 x _ => C53 (At.ext (o := .cells [.slice a2 n2 c2] 0 false) g1 x3 (fun r => ne ((hS _).2 (.inr r)) rfl)) ((s2.ext x1).ext x3 fun i r e => hd2 i r ((hS i).2 (.inr e))) (by omega)) ?_)
  rintro _ h3 ⟨a4, n4, rfl, o4, x4, b4⟩
  have g4 : At h3 p (.cells [.slice a n c, .int .u64 now] 0 false) := g.ext x4 hpa
  have hpa4 : ¬ Blk a4 p := fun r => hpa (b4 p r)
  refine Wops_run rfl rfl (Wops_run rfl rfl (Wops_run rfl rfl (Wops_st rfl rfl rfl rfl g4 (by simp) rfl fun h4 n4' x5 g5 => ?_)))
  refine K_finL [] rfl (?_)
  have hlen : (dropR ds ids).length = n4 := by have := o4.len; rw [en_length dte_len] at this; unfold dropR; omega
  refine Told.mk [] rfl ⟨fun j => j = p ∨ Blk a4 j, ⟨a4, n4, c, g5, o4.ext x5 fun j r e => hpa4 (by rw [← e]; exact r), hlen, hpa4, fun j => Iff.rfl⟩, ?_, ?_⟩
  · exact (x1.of0.then x4 fun j r => .inl ((hS j).2 (.inr r))).then x5 fun j r => .inl ((hS j).2 (.inl r))
  · intro j r
    exact .inl ((hS j).2 (r.imp id (b4 j)))

def lateL (ds : List D) (t : Int) : List Int := (ds.filter fun d => decide (d.2 ≤ t)).map (·.1)
theorem lateL_len (ds : List D) (t : Int) : (lateL ds t).length ≤ ds.length := by simp only [lateL, List.length_map]; exact List.length_filter_le _ _
theorem C34 {h : Heap} {p : Nat} {ds : List D} {now : Int} {S : Nat → Prop} (q : Ck h p ds now S) (hb : ds.length ≤ 1000) (hnow : 0 ≤ now ∧ now ≤ 1000000) :
    Fn Try.prog 34 [ptr p] h fun v h' => ∃ ao no co S', v = .slice ao no co ∧ SlA h' 1 ao no co (us (lateL ds (now + 1))) ∧ (∀ i, Blk ao i → h.next ≤ i ∧ i < h'.next ∧ ¬ S' i) ∧ Ck h' p (dropR ds (lateL ds (now + 1))) (now + 1) S' ∧ Turn h h' S S' := by
  obtain ⟨a, n, c, g, o, hn, hpa, hS⟩ := id q
  refine fnK F34.fok rfl ?_
  refine K_reg (Wops_run rfl rfl (K_fin [(0, _)] rfl (?_)))
  refine K_ss (K_reg (Wops_run rfl rfl (Wops_run rfl rfl (K_fin [(0, _), (7, _)] rfl (?_)))))
  refine K_scond rfl (fun hc => by cases hc) (fun hc => ?_)
  refine K_sskip (K_reg (Wops_run rfl rfl (Wops_run rfl rfl (Wops_run rfl rfl (Wops_ld rfl g (by rfl) ?_)))))
  refine Wops_as (w := .int .u64 (now + 1)) rfl rfl (by rw [wrapu (by omega)]) (Wops_run rfl rfl (Wops_run rfl rfl (Wops_st rfl rfl rfl rfl g (by simp) rfl fun h1 n1 x1 g1 => ?_)))
  refine K_fin [(0, _)] rfl (?_)
  have q1 : Ck h1 p ds (now + 1) S := ⟨a, n, c, g1, o.ext x1 (fun i r e => hpa (by rw [← e]; exact r)), hn, hpa, hS⟩
  have x1' : Ext S h h1 := x1.mono fun i _ r => (hS i).2 (.inl r)
  refine K_reg (Wops_run rfl rfl (K_fin [(0, _), (3, _)] rfl (?_)))
  refine K_ss (K_reg (Wops_run rfl rfl (Wops_run rfl rfl (Wops_run rfl rfl (Wops_run rfl rfl (Wops_ld rfl g1 (by rfl) ?_))))))
  refine Wops_run rfl rfl (Wops_run rfl rfl (K_fin [(0, _), (3, _), (19, _), (20, _), (21, _)] rfl (?_)))
  refine K_sblock ?_
  refine K_loop (fun k e h' => ∃ (i no co : Nat) (ao : Option Addr), e = [(0, ptr p), (3, .slice ao no co), (19, .slice a n c), (20, .int .i64 n), (21, .int .i64 i)] ∧ i ≤ n ∧ k = n - i ∧ Ext0 h1 h' ∧ OwS h' 1 ao no co (us (lateL (ds.take i) (now + 1))) ∧ ∀ j, Blk ao j → h1.next ≤ j) ?_ (k := n) ⟨0, 0, 0, none, rfl, by omega, rfl, Ext.refl _ _, OwS.none, fun j r => absurd r Blk.none⟩
  rintro k e h' ⟨i, no, co, ao, rfl, hi, rfl, x', oo, bo⟩
  have q' := q1.ext0 x'
  have o' : OwS h' 2 a n c (en dte ds) := (o.ext x1 (fun i r e => hpa (by rw [← e]; exact r))).ext x'
  have g' : At h' p (.cells [.slice a n c, .int .u64 (now + 1)] 0 false) := x'.some0 g1
  refine K_reg (Wops_run rfl rfl (K_fin [(0, _), (3, _), (19, _), (20, _), (21, _), (22, _)] rfl (?_)))
  refine K_scond rfl (fun hc => ?_) (fun hc => ?_)
  · have hlt : i < n := by have := of_decide_eq_true hc; omega
    have hll := lateL_len (ds.take i) (now + 1)
    have hol : (lateL (ds.take i) (now + 1)).length = no := by simpa using oo.len
    have hst : lateL (ds.take (i + 1)) (now + 1) = lateL (ds.take i) (now + 1) ++ if ds[i].2 ≤ now + 1 then [ds[i].1] else [] := by
      unfold lateL
      rw [List.take_add_one, List.filter_append, List.getElem?_eq_getElem (show i < ds.length by omega), List.map_append]
      by_cases hp : ds[i].2 ≤ now + 1 <;> simp [hp]
    refine K_sskip (K_sblock ?_)
    refine K_reg (Wops_elA dte_len rfl rfl o'.sl hn (show i < ds.length by omega) fun _ => ?_)
    refine Wops_new fun h2 n2 x2 g2 => Wops_st rfl rfl rfl rfl g2 (by simp) rfl fun h3 n3 x3 g3 => ?_
    have X3 : Ext0 h' h3 := x2.then x3 fun i r => .inr (by omega)
    refine K_fin [(0, _), (3, _), (5, _), (19, _), (20, _), (21, _)] rfl (?_)
    refine K_reg (Wops_run rfl rfl (Wops_ld rfl g3 (by rfl) (Wops_run rfl rfl (Wops_run rfl rfl (Wops_run rfl rfl (Wops_ld rfl (X3.some0 g') (by rfl) ?_))))))
    refine Wops_run rfl rfl (K_fin [(0, _), (3, _), (5, _), (19, _), (20, _), (21, _), (31, _)] rfl (?_))
    refine K_cond rfl (fun hd => ?_) (fun hd => ?_)
    · have hle : ds[i].2 ≤ now + 1 := of_decide_eq_true hd
      refine K_last (Wops_run rfl rfl (Wops_run rfl rfl (Wops_ld rfl g3 (by rfl) ?_)))
      refine Wops_bslice (l := [.int .u64 ds[i].1]) rfl rfl fun h4 n4 x4 g4 => ?_
      refine Wops_app rfl rfl ((oo.ext X3).ext x4) rfl (OwS.new (n := 1) (c := 1) g4 rfl).sl.first ⟨by simp at hll; omega, by simp at hll; omega⟩ rfl rfl (by decide) fun h5 a5 c5 x5 o5 b5 => ?_
      refine Wops_run rfl rfl (K_finL [(0, _), (3, _), (19, _), (20, _), (21, _)] rfl (?_))
      refine K_last (Wops_run rfl rfl (Wops_run rfl rfl (K_finL [(0, _), (3, _), (19, _), (20, _), (21, _)] rfl (?_))))
      have e3 := X3.next
      have e1 := x'.next
      refine ⟨n - (i + 1), by omega, i + 1, no + 1, c5, a5, by rw [w64s (by omega)], by omega, rfl, (x'.trans (X3.trans x4)).then x5 fun j r => .inr (bo j r), ?_, fun j r => (b5 j r).elim (bo j) fun r => by omega⟩
      rw [hst, if_pos hle, us, List.map_append]; exact o5
    · have hle : ¬ ds[i].2 ≤ now + 1 := of_decide_eq_false hd
      refine K_skip (K_last (Wops_run rfl rfl (Wops_run rfl rfl (K_finL [(0, _), (3, _), (19, _), (20, _), (21, _)] rfl (?_)))))
      refine ⟨n - (i + 1), by omega, i + 1, no, co, ao, by rw [w64s (by omega)], by omega, rfl, x'.trans X3, ?_, bo⟩
      rw [hst, if_neg hle, List.append_nil]; exact oo.ext X3
  · have hin : i = n := by have := of_decide_eq_false hc; omega
    have htk : ds.take i = ds := List.take_of_length_le (by omega)
    rw [htk] at oo
    have hll := lateL_len ds (now + 1)
    have hol : (lateL ds (now + 1)).length = no := by simpa using oo.len
    refine K_sexit (bx_same ?_)
    refine K_reg (Wops_run rfl rfl (Wops_run rfl rfl (Wops_call rfl (C37 q' oo.sl (fun i r e => by have := q1.lt e; have := bo i r; omega) hb (by omega)) ?_)))
    rintro _ h2 ⟨S', q2, t2⟩
    refine K_fin [(3, _)] rfl (?_)
    refine K_reg (Wops_run rfl rfl (Wops_run rfl rfl (K_fin [(2, _)] rfl (?_))))
    have e1 := x'.next
    have e2 := t2.ext.next
    refine K_ret (Told.mk _ rfl ⟨ao, no, co, S', rfl, oo.sl.ext t2.ext (fun i r e => by have := q1.lt e; have := bo i r; omega), fun i r => ⟨by have := bo i r; omega, by have := oo.lt r; omega, fun e => ?_⟩, q2, (Turn.mk (x1'.then0 x') fun i r => .inl r).trans t2⟩)
    have h1' := oo.lt r
    rcases t2.own i e with e | e
    · have := q1.lt e; have := bo i r; omega
    · omega

def atR (ds : List D) (x : Int) : Int × Bool := match ds.find? fun d => d.1 == x with
  | some d => (d.2, true)
  | none => (0, false)
theorem C38 {h : Heap} {p : Nat} {ds : List D} {now x : Int} {S : Nat → Prop} (q : Ck h p ds now S) (hb : ds.length ≤ 1000) :
    Fn Try.prog 38 [ptr p, .int .u64 x] h fun v h' => v = .tuple ⟨[.int .u64 (atR ds x).1, .bool (atR ds x).2]⟩ ∧ h = h' := by
  obtain ⟨a, n, c, g, o, hn, hpa, hS⟩ := id q
  refine fnK F38.fok rfl ?_
  refine K_reg (Wops_run rfl rfl (Wops_run rfl rfl (K_fin [(0, _), (1, _)] rfl (?_))))
  refine K_ss (K_reg (Wops_run rfl rfl (Wops_run rfl rfl (K_fin [(0, _), (1, _), (8, _)] rfl (?_)))))
  refine K_scond rfl (fun hc => by cases hc) (fun hc => ?_)
  refine K_sskip (K_reg (Wops_run rfl rfl (Wops_run rfl rfl (Wops_run rfl rfl (Wops_run rfl rfl (Wops_call rfl (C51 g o.sl hn (by omega)) ?_))))))
  rintro _ _ ⟨rfl, rfl⟩
  refine Wops_run rfl rfl (K_fin [(0, _), (6, _)] rfl (?_))
  refine K_ss (K_reg (Wops_run rfl rfl (Wops_run rfl rfl (K_fin [(0, _), (6, _), (15, _)] rfl (?_)))))
  rcases ixG_cases (fun d => d.1 == x) ds with ⟨hix, hall⟩ | ⟨i, hi, hix, hp, hall⟩
  · have hf : atR ds x = (0, false) := by
      unfold atR
      rw [List.find?_eq_none.2 (fun d hd => by rw [hall d hd]; simp)]
    rw [hix, hf]
    refine K_scond rfl (fun _ => ?_) (fun hc => by cases hc)
    refine K_ss (K_reg (Wops_run rfl rfl (Wops_run rfl rfl (K_fin [(4, _), (5, _)] rfl (?_)))))
    exact K_sret (Told.mk _ rfl ⟨rfl, rfl⟩)
  · have hf : atR ds x = (ds[i].2, true) := by
      have hfd : ds.find? (fun d => d.1 == x) = some ds[i] := List.find?_eq_some_iff_getElem.2 ⟨hp, i, hi, rfl, fun j hj => by rw [hall j hj]; rfl⟩
      unfold atR
      rw [hfd]
    rw [hix, hf]
    refine K_scond rfl (fun hc => by have := of_decide_eq_true hc; omega) (fun _ => ?_)
    refine K_sskip (K_reg (Wops_run rfl rfl (Wops_run rfl rfl (Wops_run rfl rfl (Wops_run rfl rfl (Wops_ld rfl g (by rfl) ?_))))))
    refine Wops_run rfl rfl (Wops_idxF (u := .int .u64 ds[i].2) rfl rfl o.sl ⟨by omega, by omega⟩ (by decide) (by rw [Int.toNat_natCast, en_at dte_len ds i 1 hi (by decide)]; rfl) fun _ _ => ?_)
    refine Wops_run rfl rfl (Wops_run rfl rfl (K_fin [(4, _), (5, _)] rfl (?_)))
    exact K_ret (Told.mk _ rfl ⟨rfl, rfl⟩)
end Go.Dx.SYtfhdeagbgdnkaaa
