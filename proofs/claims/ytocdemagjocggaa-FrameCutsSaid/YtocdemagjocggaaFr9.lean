/- FrameCuts: the plain law, and the walk. -/
import Derived.Test.YtocdemagjocggaaFr7
namespace Go.Dx.SYtocdemagjocggaa
open Go.Proofs
set_option linter.unusedVariables false
set_option linter.unusedSimpArgs false

theorem nextF_app_long {xs : List Int} (ys : List Int) (h : nextF xs = .long) : nextF (xs ++ ys) = .long := by
  match xs, h with
  | [], h => simp [nextF] at h
  | [_], h => simp [nextF] at h
  | b0 :: b1 :: r, h =>
    simp only [nextF] at h
    split at h
    · rename_i h1; simp only [List.cons_append, nextF, if_pos h1]
    · split at h <;> cases h
theorem nextF_app_whole {xs f r : List Int} (ys : List Int) (h : nextF xs = .whole f r) : nextF (xs ++ ys) = .whole f (r ++ ys) := by
  match xs, h with
  | [], h => simp [nextF] at h
  | [_], h => simp [nextF] at h
  | b0 :: b1 :: q, h =>
    simp only [nextF] at h
    split at h
    · cases h
    · rename_i h1
      split at h
      · cases h
      · rename_i h2
        cases h
        simp only [List.cons_append, nextF]
        rw [if_neg h1, if_neg (by simp; omega), List.take_append_of_le_length (by omega), List.drop_append_of_le_length (by omega)]
theorem splitF_fuel : ∀ (k m : Nat) (bs : List Int), bs.length ≤ k → bs.length ≤ m → splitF k bs = splitF m bs
  | 0, m, bs, h, _ => by
    have : bs = [] := List.eq_nil_of_length_eq_zero (by omega)
    subst this; rw [splitF_nil, splitF_nil]
  | k + 1, 0, bs, _, h => by
    have : bs = [] := List.eq_nil_of_length_eq_zero (by omega)
    subst this; rw [splitF_nil, splitF_nil]
  | k + 1, m + 1, bs, hk, hm => by
    simp only [splitF]
    cases hx : nextF bs with
    | short => rfl
    | long => rfl
    | whole f r =>
      have := (nextF_whole hx).1
      simp only [splitF_fuel k m r (by omega) (by omega)]
def sp (bs : List Int) : List (List Int) × List Int × Bool := splitF bs.length bs
theorem sp_eq {k : Nat} {bs : List Int} (h : bs.length ≤ k) : splitF k bs = sp bs := splitF_fuel _ _ _ h (Nat.le_refl _)
theorem sp_whole {bs f r : List Int} (h : nextF bs = .whole f r) : sp bs = (f :: (sp r).1, (sp r).2) := by
  have h1 := (nextF_whole h).1
  rw [← sp_eq (k := (bs.length - 1) + 1) (by omega)]
  simp only [splitF, h, sp_eq (show r.length ≤ bs.length - 1 by omega)]
theorem sp_long {bs : List Int} (h : nextF bs = .long) : sp bs = ([], [], true) := by
  have h1 := nextF_long h
  rw [← sp_eq (k := (bs.length - 1) + 1) (by omega)]
  simp only [splitF, h]
theorem sp_short {bs : List Int} (h : nextF bs = .short) : sp bs = ([], bs, false) := splitF_short h
/-- Cut anywhere. -/
theorem sp_app (ys : List Int) : ∀ (k : Nat) (xs : List Int), xs.length ≤ k → if (sp xs).2.2 = true then (sp (xs ++ ys)).2.2 = true else nextF (sp xs).2.1 = .short ∧ sp (xs ++ ys) = ((sp xs).1 ++ (sp ((sp xs).2.1 ++ ys)).1, (sp ((sp xs).2.1 ++ ys)).2)
  | 0, xs, h => by
    have : xs = [] := List.eq_nil_of_length_eq_zero (by omega)
    subst this
    rw [show sp [] = ([], [], false) from rfl, if_neg (by simp)]
    exact ⟨rfl, by simp⟩
  | k + 1, xs, h => by
    cases hx : nextF xs with
    | short => rw [sp_short hx, if_neg (by simp)]; exact ⟨hx, by simp⟩
    | long => rw [sp_long hx, if_pos rfl, sp_long (nextF_app_long ys hx)]
    | whole f r =>
      have h1 := (nextF_whole hx).1
      have ih := sp_app ys k r (by omega)
      rw [sp_whole hx, sp_whole (nextF_app_whole ys hx)]
      simp only
      split
      · rename_i hb; rw [if_pos hb] at ih; exact ih
      · rename_i hb; rw [if_neg hb] at ih; exact ⟨ih.1, by rw [ih.2]; simp⟩
def puts (ls : List (List Int)) : List Int := ls.flatMap putF
theorem sp_puts : ∀ (ls : List (List Int)), (∀ l ∈ ls, l.length ≤ 5000) → sp (puts ls) = (ls, [], false)
  | [], _ => rfl
  | l :: ls, h => by
    show sp (putF l ++ puts ls) = _
    rw [sp_whole (nextF_put (puts ls) (h l (by simp))), sp_puts ls (fun l hl => h l (by simp [hl]))]
theorem puts_snoc (ls : List (List Int)) (l : List Int) : puts (ls ++ [l]) = puts ls ++ putF l := by simp [puts]
theorem puts_len : ∀ (ls : List (List Int)), (∀ l ∈ ls, l.length ≤ 40) → (puts ls).length ≤ ls.length * 42
  | [], _ => Nat.le_refl _
  | l :: ls, h => by
    show (putF l ++ puts ls).length ≤ _
    have := puts_len ls (fun l hl => h l (by simp [hl]))
    have := h l (by simp)
    rw [List.length_append, putF_length, List.length_cons]; omega
theorem puts_byte : ∀ (ls : List (List Int)), (∀ l ∈ ls, Byte l ∧ l.length ≤ 40) → Byte (puts ls)
  | [], _ => fun x hx => by cases hx
  | l :: ls, h => (putF_byte (h l (by simp)).1 (by have := (h l (by simp)).2; omega)).app (puts_byte ls fun l hl => h l (by simp [hl]))
/-- What came of pieces, and what is still to come. -/
structure Cut (ls : List (List Int)) (fs : List (List Int)) (bs cur : List Int) : Prop where
  short : nextF bs = .short
  ex : ∃ gs, sp (bs ++ cur) = (gs, [], false) ∧ fs ++ gs = ls
theorem Cut.step {ls fs : List (List Int)} {bs cur : List Int} (t : Cut ls fs bs cur) (n : Nat) : ∃ f1 bs', addR bs false (cur.take n) = (f1, bs', false, 0) ∧ Cut ls (fs ++ f1) bs' (cur.drop n) ∧ (f1.length ≤ ls.length) := by
  obtain ⟨hs, gs, h1, h2⟩ := t
  have h3 := sp_app (cur.drop n) _ (bs ++ cur.take n) (Nat.le_refl _)
  rw [List.append_assoc, List.take_append_drop, h1] at h3
  split at h3
  · cases h3
  · rename_i hb
    simp only [Bool.not_eq_true] at hb
    obtain ⟨q1, q2⟩ := h3
    have q3 : gs = (sp (bs ++ cur.take n)).1 ++ (sp ((sp (bs ++ cur.take n)).2.1 ++ cur.drop n)).1 := congrArg Prod.fst q2
    have q4 : (([] : List Int), false) = (sp ((sp (bs ++ cur.take n)).2.1 ++ cur.drop n)).2 := congrArg Prod.snd q2
    refine ⟨(sp (bs ++ cur.take n)).1, (sp (bs ++ cur.take n)).2.1, ?_, ⟨q1, (sp ((sp (bs ++ cur.take n)).2.1 ++ cur.drop n)).1, ?_, ?_⟩, ?_⟩
    · unfold addR
      rw [if_neg (by simp), ← sp, hb]; rfl
    · rw [q4]
    · rw [List.append_assoc, ← q3, h2]
    · rw [← h2, q3]; simp only [List.length_append]; omega
theorem Cut.start {ls : List (List Int)} (h : ∀ l ∈ ls, l.length ≤ 5000) : Cut ls [] [] (puts ls) := ⟨rfl, ls, by rw [List.nil_append]; exact sp_puts ls h, rfl⟩
theorem Cut.stop {ls fs : List (List Int)} {bs : List Int} (t : Cut ls fs bs []) : fs = ls ∧ bs = [] := by
  obtain ⟨hs, gs, h1, h2⟩ := t
  rw [List.append_nil, sp_short hs] at h1
  simp only [Prod.mk.injEq] at h1
  obtain ⟨rfl, rfl, _⟩ := h1
  exact ⟨by simpa using h2, rfl⟩
end Go.Dx.SYtocdemagjocggaa
