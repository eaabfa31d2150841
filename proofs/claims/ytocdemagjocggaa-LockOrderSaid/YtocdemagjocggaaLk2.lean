/- Contracts of lock's functions. -/
import Derived.Test.YtocdemagjocggaaLk1
namespace Go.Dx.SYtocdemagjocggaa
open Go.Proofs
set_option linter.unusedVariables false
set_option linter.unusedSimpArgs false

abbrev ptr (p : Nat) : Value := .pointer (some ⟨p, 0, none⟩)

/-- A queue of numbers: a struct of one slice. -/
def Qu (h : Heap) (p : Nat) (xs : List Int) (S : Nat → Prop) : Prop :=
  ∃ a n c, At h p (.cells [.slice a n c] 0 false) ∧ OwS h 1 a n c (us xs) ∧ ¬ Blk a p ∧ ∀ i, S i ↔ (i = p ∨ Blk a i)
theorem Qu.ext {h h' : Heap} {p : Nat} {xs : List Int} {S T : Nat → Prop} (q : Qu h p xs S) (x : Ext T h h') (hd : ∀ i, S i → ¬ T i) : Qu h' p xs S := by
  obtain ⟨a, n, c, h1, h2, h3, h4⟩ := q
  exact ⟨a, n, c, h1.ext x (hd p ((h4 p).2 (.inl rfl))), h2.ext x (fun i r => hd i ((h4 i).2 (.inr r))), h3, h4⟩
theorem Qu.lt {h : Heap} {p : Nat} {xs : List Int} {S : Nat → Prop} (q : Qu h p xs S) {i : Nat} (hi : S i) : i < h.next := by
  obtain ⟨a, n, c, h1, h2, h3, h4⟩ := q
  rcases (h4 i).1 hi with rfl | r
  · exact h1.lt
  · exact h2.lt r

def fst' (xs : List Int) : Int × Bool := match xs with
  | [] => (0, false)
  | x :: _ => (x, true)

theorem C53 {h : Heap} {p n c : Nat} {a : Option Addr} {xs : List Int} (g : At h p (.cells [.slice a n c] 0 false)) (s : SlA h 1 a n c (us xs)) :
    Fn Try.prog 53 [ptr p] h fun v h' => v = .tuple ⟨[.int .u64 (fst' xs).1, .bool (fst' xs).2]⟩ ∧ h = h' := by
  have hn : xs.length = n := by simpa using s.len
  refine fnK F53.fok rfl ?_
  refine K_reg (Wops_run rfl rfl (Wops_run rfl rfl (K_fin [(0, _)] rfl (?_))))
  refine K_ss (K_reg (Wops_run rfl rfl (Wops_run rfl rfl (Wops_run rfl rfl (Wops_ld rfl g (by rfl) ?_)))))
  refine Wops_run rfl rfl (Wops_run rfl rfl (K_fin [(0, _), (9, _)] rfl (?_)))
  refine K_scond rfl (fun hc => ?_) (fun hc => ?_)
  · have h0 : n = 0 := by have := of_decide_eq_true hc; omega
    refine K_ss (K_reg (Wops_run rfl rfl (Wops_run rfl rfl (K_fin [(2, _), (3, _)] rfl (?_)))))
    refine K_sret (Told.mk _ rfl (show _ ∧ _ from ⟨?_, rfl⟩))
    have : xs = [] := List.eq_nil_of_length_eq_zero (by omega)
    subst this; rfl
  · have h0 : n ≠ 0 := by have := of_decide_eq_false hc; omega
    refine K_sskip (K_reg (Wops_run rfl rfl (Wops_run rfl rfl (Wops_run rfl rfl (Wops_ld rfl g (by rfl) ?_)))))
    obtain ⟨x, r, rfl⟩ := List.exists_cons_of_length_pos (show 0 < xs.length by omega)
    refine Wops_idx (u := .int .u64 x) rfl rfl s ⟨by omega, by omega⟩ (by simp [us]) fun p => ?_
    refine Wops_run rfl rfl (Wops_run rfl rfl (K_fin [(2, _), (3, _)] rfl (?_)))
    exact K_ret (Told.mk _ rfl (show _ ∧ _ from ⟨rfl, rfl⟩))

theorem C23 {h : Heap} : Fn Try.prog 23 [] h fun v h' => ∃ p, v = ptr p ∧ Qu h' p [] (· = p) ∧ Ext0 h h' ∧ h.next ≤ p := by
  refine fnK F23.fok rfl ?_
  refine K_reg (Wops_run rfl rfl (K_fin [] rfl (?_)))
  refine K_reg (Wops_run rfl rfl (Wops_box rfl rfl fun h1 n1 x1 g1 => ?_))
  refine Wops_run rfl rfl (K_fin [(0, _)] rfl (?_))
  exact K_ret (Told.mk _ rfl ⟨h.next, rfl, ⟨none, 0, 0, g1, OwS.none, Blk.none, fun i => ⟨.inl, fun q => q.elim id fun r => absurd r Blk.none⟩⟩, x1, Nat.le_refl _⟩)

def askR (xs : List Int) (x : Int) : Bool × Int × List Int := if x ∈ xs then (false, 11, xs) else if xs.length > 3 then (false, 13, xs) else (xs.isEmpty, 0, xs ++ [x])

theorem C24 {h : Heap} {p : Nat} {xs : List Int} {S : Nat → Prop} {x : Int} (q : Qu h p xs S) (hb : xs.length ≤ 1000) :
    Fn Try.prog 24 [ptr p, .int .u64 x] h fun v h' => v = .tuple ⟨[.bool (askR xs x).1, .int .i64 (askR xs x).2.1]⟩ ∧ ∃ S', Qu h' p (askR xs x).2.2 S' ∧ Turn h h' S S' := by
  obtain ⟨a, n, c, g, o, hpa, hS⟩ := id q
  have hn : xs.length = n := by simpa using o.len
  refine fnK F24.fok rfl ?_
  refine K_reg (Wops_run rfl rfl (Wops_run rfl rfl (K_fin [(0, _), (1, _)] rfl (?_))))
  refine K_sblock ?_
  refine K_reg (Wops_run rfl rfl (Wops_run rfl rfl (Wops_run rfl rfl (K_fin [(0, _), (1, _), (6, _)] rfl (?_)))))
  refine K_cond rfl (fun hc => by cases hc) (fun hc => ?_)
  refine K_reg (Wops_run rfl rfl (Wops_run rfl rfl (Wops_run rfl rfl (Wops_run rfl rfl (Wops_ld rfl g (by rfl) ?_)))))
  refine Wops_run rfl rfl (Wops_call rfl (C52 o.sl (by omega)) ?_)
  rintro _ _ ⟨rfl, rfl⟩
  refine Wops_run rfl rfl (K_fin [(0, _), (1, _), (9, _)] rfl (?_))
  refine K_cond rfl (fun hx => ?_) (fun hx => ?_)
  · have hx := of_decide_eq_true hx
    refine K_reg (Wops_run rfl rfl (Wops_run rfl rfl (K_fin [(4, _), (5, _)] rfl (?_))))
    refine K_ret (Told.mk _ rfl (show _ ∧ _ from ?_))
    have e : askR xs x = (false, 11, xs) := by unfold askR; rw [if_pos hx]
    rw [e]
    exact ⟨rfl, S, q, Turn.refl _ _⟩
  · have hx := of_decide_eq_false hx
    refine K_reg (Wops_run rfl rfl (Wops_run rfl rfl (Wops_run rfl rfl (Wops_run rfl rfl (Wops_ld rfl g (by rfl) ?_)))))
    refine Wops_run rfl rfl (Wops_run rfl rfl (Wops_run rfl rfl (K_fin [(0, _), (1, _), (17, _)] rfl (?_))))
    refine K_cond rfl (fun hl => ?_) (fun hl => ?_)
    · have hl : xs.length > 3 := by have := of_decide_eq_true hl; omega
      refine K_reg (Wops_run rfl rfl (Wops_run rfl rfl (K_fin [(4, _), (5, _)] rfl (?_))))
      refine K_ret (Told.mk _ rfl (show _ ∧ _ from ?_))
      have e : askR xs x = (false, 13, xs) := by unfold askR; rw [if_neg hx, if_pos hl]
      rw [e]
      exact ⟨rfl, S, q, Turn.refl _ _⟩
    · have hl : ¬ xs.length > 3 := by have := of_decide_eq_false hl; omega
      have e : askR xs x = (xs.isEmpty, 0, xs ++ [x]) := by unfold askR; rw [if_neg hx, if_neg hl]
      rw [e]
      refine K_skip ?_
      refine K_reg (Wops_run rfl rfl (Wops_run rfl rfl (Wops_run rfl rfl (Wops_run rfl rfl (Wops_run rfl rfl (Wops_ld rfl g (by rfl) ?_))))))
      refine Wops_run rfl rfl (Wops_bslice (l := [.int .u64 x]) rfl rfl fun h1 n1 x1 g1 => ?_)
      refine Wops_app rfl rfl (o.ext x1) rfl (SlA.mk' (n := 1) (c := 1) g1 (by simp) (.inr (.inr rfl))).first ⟨by omega, by omega⟩ rfl rfl (by decide) fun h2 a2 c2 x2 o2 b2 => ?_
      have hp2 : ¬ Blk a2 p := fun r => (b2 p r).elim hpa fun r => by have := g.lt; have := x1.next; omega
      refine Wops_run rfl rfl (Wops_run rfl rfl (Wops_run rfl rfl (Wops_st rfl rfl rfl rfl ((g.ext x1).ext x2 hpa) (by simp) rfl fun h3 n3 x3 g3 => ?_)))
      refine K_fin [(0, _)] rfl (?_)
      refine K_reg (Wops_run rfl rfl (Wops_run rfl rfl (Wops_run rfl rfl (Wops_run rfl rfl (Wops_ld rfl g3 (by rfl) ?_)))))
      refine Wops_run rfl rfl (Wops_run rfl rfl (Wops_run rfl rfl (Wops_run rfl rfl (K_fin [(4, _), (5, _)] rfl (?_)))))
      refine K_ret (Told.mk _ rfl (show _ ∧ _ from ⟨?_, fun i => i = p ∨ Blk a2 i, ⟨a2, n + 1, c2, g3, ?_, hp2, fun i => Iff.rfl⟩, ?_, ?_⟩))
      · show Value.tuple ⟨[.bool (((n + 1 : Nat) : Int) == 1), .int .i64 0]⟩ = _
        have : (((n + 1 : Nat) : Int) == 1) = xs.isEmpty := by
          rw [← hn]; cases xs <;> simp; omega
        rw [this]
      · have := o2.ext x3 (fun i r e => hp2 (by rw [← e]; exact r))
        simpa [us] using this
      · refine (x1.of0.then x2 fun i r => .inl ((hS i).2 (.inr r))).then x3 fun i r => .inl ((hS i).2 (.inl r))
      · intro i r
        rcases r with rfl | r
        · exact .inl ((hS _).2 (.inl rfl))
        · rcases b2 i r with r | r
          · exact .inl ((hS _).2 (.inr r))
          · have := x1.next; exact .inr (by omega)

/-- lock.Queue.Leave's own function -/
theorem C55 {h : Heap} {i : Nat} {x y : Int} (g : At h i (.cells [.int .u64 y] 0 false)) : Fn Try.prog 55 [.int .u64 x, ptr i] h fun v h' => v = .bool (x == y) ∧ h = h' := by
  refine fnK F55.fok rfl ?_
  refine K_reg (Wops_run rfl rfl (K_fin [(0, _), (1, _)] rfl (?_)))
  refine K_reg (Wops_run rfl rfl (Wops_ld rfl g (by rfl) ?_))
  refine Wops_run rfl rfl (Wops_run rfl rfl (K_fin [(3, _)] rfl (?_)))
  exact K_ret (Told.mk _ rfl (show _ ∧ _ from ⟨rfl, rfl⟩))

def leaveL (xs ids : List Int) : List Int := ids.foldl (fun xs id => xs.filter fun x => !(x == id)) xs
theorem leaveL_append (xs ids : List Int) (y : Int) : leaveL xs (ids ++ [y]) = (leaveL xs ids).filter fun x => !(x == y) := by unfold leaveL; rw [List.foldl_append]; rfl
theorem leaveL_le (ids : List Int) : ∀ xs : List Int, (leaveL xs ids).length ≤ xs.length := by
  induction ids with
  | nil => intro xs; exact Nat.le_refl _
  | cons y ids ih => intro xs; exact Nat.le_trans (ih _) (List.length_filter_le _ _)
def leaveR (xs ys : List Int) : Int × Bool := if (fst' ys).2 = false ∨ ((fst' xs).2 = true ∧ (fst' xs).1 = (fst' ys).1) then (0, false) else ((fst' ys).1, true)

theorem C25 {h : Heap} {p n2 c2 : Nat} {a2 : Option Addr} {xs ids : List Int} {S : Nat → Prop} (q : Qu h p xs S) (s2 : SlA h 1 a2 n2 c2 (us ids)) (hd2 : ∀ i, Blk a2 i → ¬ S i) (hb : xs.length ≤ 1000) (hb2 : n2 ≤ 1000) :
    Fn Try.prog 25 [ptr p, .slice a2 n2 c2] h fun v h' => v = .tuple ⟨[.int .u64 (leaveR xs (leaveL xs ids)).1, .bool (leaveR xs (leaveL xs ids)).2]⟩ ∧ ∃ S', Qu h' p (leaveL xs ids) S' ∧ Turn h h' S S' := by
  have hn2 : ids.length = n2 := by simpa using s2.len
  obtain ⟨a, n, c, g, o, hpa, hS⟩ := id q
  have hn : xs.length = n := by simpa using o.len
  refine fnK F25.fok rfl ?_
  refine K_reg (Wops_run rfl rfl (Wops_run rfl rfl (K_fin [(0, _), (1, _)] rfl (?_))))
  refine K_ss (K_reg (Wops_run rfl rfl (Wops_run rfl rfl (K_fin [(0, _), (1, _), (13, _)] rfl (?_)))))
  refine K_scond rfl (fun hc => by cases hc) (fun hc => ?_)
  refine K_sskip (K_reg (Wops_run rfl rfl (Wops_run rfl rfl (Wops_run rfl rfl (Wops_call rfl (C53 g o.sl) ?_)))))
  rintro _ _ ⟨rfl, rfl⟩
  refine Wops_run rfl rfl (Wops_run rfl rfl (Wops_run rfl rfl (Wops_run rfl rfl (Wops_run rfl rfl (K_fin [(0, _), (1, _), (6, _), (7, _)] rfl (?_))))))
  refine K_ss (K_reg (Wops_run rfl rfl (Wops_run rfl rfl (Wops_run rfl rfl (K_fin [(0, _), (6, _), (7, _), (21, _), (22, _), (23, _)] rfl (?_))))))
  refine K_sblock ?_
  refine K_loop (fun k e h' => ∃ (i : Nat) (S' : Nat → Prop), e = [(0, ptr p), (6, .int .u64 (fst' xs).1), (7, .bool (fst' xs).2), (21, .slice a2 n2 c2), (22, .int .i64 n2), (23, .int .i64 i)] ∧ i ≤ n2 ∧ k = n2 - i ∧ Qu h' p (leaveL xs (ids.take i)) S' ∧ Turn h h' S S') ?_ (k := n2) ⟨0, S, rfl, by omega, rfl, q, Turn.refl _ _⟩
  rintro k e h' ⟨i, S', rfl, hi, rfl, q', t⟩
  refine K_reg (Wops_run rfl rfl (K_fin [(0, _), (6, _), (7, _), (21, _), (22, _), (23, _), (24, _)] rfl (?_)))
  have s2' : SlA h' 1 a2 n2 c2 (us ids) := s2.ext t.ext hd2
  have hlen := leaveL_le (ids.take i) xs
  obtain ⟨a', n', c', g', o', hpa', hS'⟩ := id q'
  have hn' : (leaveL xs (ids.take i)).length = n' := by simpa using o'.len
  refine K_scond rfl (fun hc => ?_) (fun hc => ?_)
  · have hlt : i < n2 := by have := of_decide_eq_true hc; omega
    refine K_sskip (K_sblock ?_)
    refine K_reg (Wops_idx (u := .int .u64 ids[i]) rfl rfl s2' ⟨by omega, by omega⟩ (by simp [hn2, hlt]) fun pp => ?_)
    refine Wops_new fun h1 n1 x1 g1 => ?_
    refine Wops_st rfl rfl rfl rfl g1 (by simp) rfl fun h2 n2' x2 g2 => ?_
    refine K_fin [(0, _), (6, _), (7, _), (9, _), (21, _), (22, _), (23, _)] rfl (?_)
    have ne : ∀ {j : Nat}, S' j → j ≠ h'.next := fun r => by have := q'.lt r; omega
    have q2 : Qu h2 p (leaveL xs (ids.take i)) S' := (q'.ext x1 fun _ _ r => r).ext x2 fun j r => ne r
    obtain ⟨a3, n3, c3, g3, o3, hpa3, hS3⟩ := id q2
    have hn3 : (leaveL xs (ids.take i)).length = n3 := by simpa using o3.len
    refine K_last (Wops_run rfl rfl (Wops_run rfl rfl (Wops_run rfl rfl (Wops_run rfl rfl (Wops_run rfl rfl (Wops_ld rfl g3 (by rfl) ?_))))))
    refine Wops_run rfl rfl (Wops_call rfl (C54 o3 (by omega) (ca := [ptr h'.next]) (p := (· == ids[i])) (fun h3 x3 x _ => C55 (At.ext (o := .cells [.int .u64 ids[i]] 0 false) g2 x3 (fun r => ne ((hS3 _).2 (.inr r)) rfl)))) ?_)
    rintro _ h3 ⟨a4, n4, rfl, o4, x4, b4⟩
    have g4 : At h3 p (.cells [.slice a3 n3 c3] 0 false) := g3.ext x4 hpa3
    have hpa4 : ¬ Blk a4 p := fun r => hpa3 (b4 p r)
    refine Wops_run rfl rfl (Wops_run rfl rfl (Wops_run rfl rfl (Wops_st rfl rfl rfl rfl g4 (by simp) rfl fun h4 n4' x5 g5 => ?_)))
    refine K_finL [(0, _), (6, _), (7, _), (21, _), (22, _), (23, _)] rfl (?_)
    refine K_last (Wops_run rfl rfl (Wops_run rfl rfl (K_finL [(0, _), (6, _), (7, _), (21, _), (22, _), (23, _)] rfl (?_))))
    refine ⟨n2 - (i + 1), by omega, i + 1, fun j => j = p ∨ Blk a4 j, by rw [w64s (by omega)], by omega, rfl, ⟨a4, n4, c3, g5, ?_, hpa4, fun j => Iff.rfl⟩, ?_⟩
    · rw [List.take_add_one, List.getElem?_eq_getElem (by omega), Option.toList_some, leaveL_append]
      exact o4.ext x5 fun j r e => hpa4 (by rw [← e]; exact r)
    · have hsub : ∀ j, (j = p ∨ Blk a4 j) → S' j := fun j r => (hS3 j).2 (r.imp id (b4 j))
      refine t.trans ⟨((x1.of0.then x2 fun j r => .inr (by omega)).then x4 fun j r => .inl ((hS3 j).2 (.inr r))).then x5 fun j r => .inl ((hS3 j).2 (.inl r)), fun j r => .inl (hsub j r)⟩
  · have hin : i = n2 := by have := of_decide_eq_false hc; omega
    have htk : ids.take i = ids := List.take_of_length_le (by omega)
    rw [htk] at q' o' hn' hlen
    refine K_sexit (bx_same ?_)
    refine K_reg (Wops_run rfl rfl (Wops_run rfl rfl (Wops_run rfl rfl (Wops_call rfl (C53 g' o'.sl) ?_))))
    rintro _ _ ⟨rfl, rfl⟩
    refine Wops_run rfl rfl (Wops_run rfl rfl (Wops_run rfl rfl (Wops_run rfl rfl (Wops_run rfl rfl (K_fin [(6, _), (7, _), (10, _), (11, _)] rfl (?_))))))
    have fin : ∀ v, v = Value.tuple ⟨[.int .u64 (leaveR xs (leaveL xs ids)).1, .bool (leaveR xs (leaveL xs ids)).2]⟩ → v = .tuple ⟨[.int .u64 (leaveR xs (leaveL xs ids)).1, .bool (leaveR xs (leaveL xs ids)).2]⟩ ∧ ∃ S', Qu h' p (leaveL xs ids) S' ∧ Turn h h' S S' := fun v e => ⟨e, S', q', t⟩
    generalize leaveL xs ids = ys at *
    refine K_ss (K_reg (Wops_run rfl rfl (Wops_run rfl rfl (Wops_run rfl rfl ?_))))
    cases h2 : (fst' ys).2 with
    | false =>
      refine Wops_skip rfl (Wops_skip rfl (Wops_skip rfl (Wops_skip rfl (Wops_skip rfl (Wops_skip rfl (Wops_run rfl rfl (K_fin [(10, _), (55, _)] rfl (?_))))))))
      refine K_scond rfl (fun _ => ?_) (fun hc => by cases hc)
      refine K_ss (K_reg (Wops_run rfl rfl (Wops_run rfl rfl (K_fin [(4, _), (5, _)] rfl (?_)))))
      exact K_sret (Told.mk _ rfl (fin _ (by simp [leaveR, h2]; rfl)))
    | true =>
      refine Wops_go rfl (Wops_run rfl rfl (Wops_go rfl (Wops_run rfl rfl ?_)))
      have out : ∀ (Qf : Value → Heap → Prop), Qf (.tuple ⟨[.int .u64 (fst' ys).1, .bool true]⟩) h' → W Try.prog (.seq .skip (.seq (.region [⟨some 56, none, .mov (.t 10)⟩, ⟨some 4, none, .mov (.t 56)⟩, ⟨some 5, none, .mov (.c (.bool true))⟩] [4, 5]) .ret)) [(10, .int .u64 (fst' ys).1), (55, .bool false)] h' (K3 (Told F25.res Qf) (fun _ _ _ => False) (Told F25.res Qf)) := fun Qf hQ => by
        refine K_sskip (K_reg (Wops_run rfl rfl (Wops_run rfl rfl (Wops_run rfl rfl (K_fin [(4, _), (5, _)] rfl (?_))))))
        exact K_ret (Told.mk _ rfl hQ)
      cases h1 : (fst' xs).2 with
      | false =>
        refine Wops_skip rfl (Wops_skip rfl (Wops_skip rfl (Wops_go rfl (Wops_run rfl rfl (Wops_run rfl rfl (K_fin [(10, _), (55, _)] rfl (?_)))))))
        refine K_scond rfl (fun hc => by cases hc) (fun _ => out _ (fin _ (by simp [leaveR, h1, h2])))
      | true =>
        refine Wops_go rfl (Wops_run rfl rfl (Wops_go rfl (Wops_run rfl rfl (Wops_go rfl (Wops_run rfl rfl (Wops_go rfl (Wops_run rfl rfl (Wops_run rfl rfl (K_fin [(10, _), (55, _)] rfl (?_))))))))))
        cases h3 : (fst' xs).1 == (fst' ys).1 with
        | true =>
          refine K_scond rfl (fun _ => ?_) (fun hc => by cases hc)
          refine K_ss (K_reg (Wops_run rfl rfl (Wops_run rfl rfl (K_fin [(4, _), (5, _)] rfl (?_)))))
          exact K_sret (Told.mk _ rfl (fin _ (by simp [leaveR, h1, h2, eq_of_beq h3]; rfl)))
        | false =>
          refine K_scond rfl (fun hc => by cases hc) (fun _ => out _ (fin _ ?_))
          have : (fst' xs).1 ≠ (fst' ys).1 := fun e => by simp [e] at h3
          simp [leaveR, h1, h2, this]
/-- lock.Queue.Owner -/
theorem C26 {h : Heap} {p : Nat} {xs : List Int} {S : Nat → Prop} (q : Qu h p xs S) : Fn Try.prog 26 [ptr p] h fun v h' => v = .tuple ⟨[.int .u64 (fst' xs).1, .bool (fst' xs).2]⟩ ∧ h = h' := by
  obtain ⟨a, n, c, g, o, hpa, hS⟩ := id q
  refine fnK F26.fok rfl ?_
  refine K_reg (Wops_run rfl rfl (Wops_run rfl rfl (K_fin [(0, _)] rfl (?_))))
  refine K_ss (K_reg (Wops_run rfl rfl (Wops_run rfl rfl (K_fin [(0, _), (5, _)] rfl (?_)))))
  refine K_scond rfl (fun hc => by cases hc) (fun hc => ?_)
  refine K_sskip (K_reg (Wops_run rfl rfl (Wops_run rfl rfl (Wops_run rfl rfl (Wops_call rfl (C53 g o.sl) ?_)))))
  rintro _ _ ⟨rfl, rfl⟩
  refine Wops_run rfl rfl (Wops_run rfl rfl (Wops_run rfl rfl (Wops_run rfl rfl (K_fin [(2, _), (3, _)] rfl (?_)))))
  exact K_ret (Told.mk _ rfl (show _ ∧ _ from ⟨rfl, rfl⟩))

/-- lock.Queue.Waits -/
theorem C27 {h : Heap} {p : Nat} {xs : List Int} {S : Nat → Prop} (q : Qu h p xs S) (hb : xs.length ≤ 1000) :
    Fn Try.prog 27 [ptr p] h fun v h' => ∃ a' c', v = .slice a' (xs.length - 1) c' ∧ OwS h' 1 a' (xs.length - 1) c' (us xs.tail) ∧ Ext0 h h' ∧ ∀ i, Blk a' i → h.next ≤ i := by
  obtain ⟨a, n, c, g, o, hpa, hS⟩ := id q
  have hn : xs.length = n := by simpa using o.len
  refine fnK F27.fok rfl ?_
  refine K_reg (Wops_run rfl rfl (K_fin [(0, _)] rfl (?_)))
  refine K_ss (K_reg (Wops_run rfl rfl (Wops_run rfl rfl (Wops_run rfl rfl (Wops_go rfl (Wops_run rfl rfl (Wops_go rfl (Wops_run rfl rfl (Wops_go rfl (Wops_run rfl rfl (Wops_go rfl (Wops_run rfl rfl (Wops_go rfl (Wops_ld rfl g (by rfl) ?_))))))))))))))
  refine Wops_go rfl (Wops_run rfl rfl (Wops_go rfl (Wops_run rfl rfl (Wops_run rfl rfl (K_fin [(0, _), (13, _)] rfl (?_))))))
  refine K_scond rfl (fun hc => ?_) (fun hc => ?_)
  · have h0 : n = 0 := by have := of_decide_eq_true hc; omega
    refine K_ss (K_reg (Wops_run rfl rfl (K_fin [(2, _)] rfl (?_))))
    have : xs = [] := List.eq_nil_of_length_eq_zero (by omega)
    subst this
    exact K_sret (Told.mk _ rfl ⟨none, 0, rfl, OwS.none, Ext.refl _ _, fun i r => absurd r Blk.none⟩)
  · have h0 : n ≠ 0 := by have := of_decide_eq_false hc; omega
    have s1 := o.sl.sub (i := 1) (j := n) (by omega) (Nat.le_refl _)
    have hu : List.take ((n - 1) * 1) (List.drop (1 * 1) (us xs)) = us xs.tail := by
      rw [List.take_of_length_le (by simp; omega)]
      cases xs <;> simp
    rw [hu] at s1
    refine K_sskip (K_reg (Wops_run rfl rfl (Wops_run rfl rfl (Wops_run rfl rfl (Wops_run rfl rfl (Wops_ld rfl g (by rfl) (Wops_slV rfl rfl rfl o.sl.ok (bounds_lo (i := 1) (by omega)) ?_)))))))
    refine Wops_call rfl (C56 s1 (by omega)) ?_
    rintro _ h1 ⟨a', c', rfl, o1, x1, b1⟩
    refine Wops_run rfl rfl (K_fin [(2, _)] rfl (?_))
    exact K_ret (Told.mk _ rfl ⟨a', c', by rw [hn]; rfl, by rw [hn]; exact o1, x1, b1⟩)

/-- lock.Queue.Copy -/
theorem C32 {h : Heap} {p : Nat} {xs : List Int} {S : Nat → Prop} (q : Qu h p xs S) (hb : xs.length ≤ 1000) :
    Fn Try.prog 32 [ptr p] h fun v h' => ∃ p' S', v = ptr p' ∧ Qu h' p' xs S' ∧ Ext0 h h' ∧ ∀ i, S' i → h.next ≤ i := by
  obtain ⟨a, n, c, g, o, hpa, hS⟩ := id q
  have hn : xs.length = n := by simpa using o.len
  refine fnK F32.fok rfl ?_
  refine K_reg (Wops_run rfl rfl (K_fin [(0, _)] rfl (?_)))
  refine K_ss (K_reg (Wops_run rfl rfl (Wops_run rfl rfl (K_fin [(0, _), (4, _)] rfl (?_)))))
  refine K_scond rfl (fun hc => by cases hc) (fun hc => ?_)
  refine K_sskip (K_reg (Wops_run rfl rfl (Wops_run rfl rfl (Wops_run rfl rfl (Wops_run rfl rfl (Wops_ld rfl g (by rfl) ?_))))))
  refine Wops_call rfl (C56 o.sl (by omega)) ?_
  rintro _ h1 ⟨a', c', rfl, o1, x1, b1⟩
  refine Wops_run rfl rfl (Wops_run rfl rfl (Wops_box rfl rfl fun h2 n2 x2 g2 => ?_))
  refine Wops_run rfl rfl (K_fin [(2, _)] rfl (?_))
  refine K_ret (Told.mk _ rfl ⟨h1.next, fun i => i = h1.next ∨ Blk a' i, rfl, ⟨a', n, c', g2, o1.ext x2, fun r => ?_, fun i => Iff.rfl⟩, x1.then0 x2, fun i r => ?_⟩)
  · have := o1.lt r; omega
  · rcases r with rfl | r
    · exact x1.next
    · exact b1 i r
end Go.Dx.SYtocdemagjocggaa
