/- ReqBack: what is taken of any bytes; its walk. -/
import Derived.Test.YtkppbmhpcjjceaaRq11
namespace Go.Dx.SYtkppbmhpcjjceaa
open Go.Proofs
set_option linter.unusedVariables false
set_option linter.unusedSimpArgs false

/-- A reader leaves bytes that were there. -/
def Les (s s' : Rd) : Prop := (∀ x ∈ s'.1, x ∈ s.1) ∧ s'.1.length ≤ s.1.length
theorem Les.rfl' (s : Rd) : Les s s := ⟨fun x h => h, Nat.le_refl _⟩
theorem Les.tr {s s' s'' : Rd} (a : Les s s') (b : Les s' s'') : Les s s'' := ⟨fun x h => a.1 x (b.1 x h), Nat.le_trans b.2 a.2⟩
theorem Les.drop (s : Rd) (n : Nat) (e : Int) : Les s (s.1.drop n, e) := ⟨fun x h => List.mem_of_mem_drop h, by simp⟩
theorem failS_1 (b : Bool) (e : Int) (s : Rd) : (failS b e s).1 = s.1 := by unfold failS; split <;> rfl
theorem Les.fail (b : Bool) (e : Int) (s : Rd) : Les s (failS b e s) := ⟨fun x h => by rwa [failS_1] at h, by rw [failS_1]; exact Nat.le_refl _⟩
theorem bytes_les (n : Nat) (s : Rd) : Les s (bytesS n s).2 ∧ (∀ x ∈ (bytesS n s).1, x ∈ s.1) ∧ (bytesS n s).1.length ≤ n ∧ (bytesS n s).1.length ≤ s.1.length := by
  unfold bytesS
  split
  · exact ⟨Les.fail _ _ _, (fun x h => by cases h), Nat.zero_le _, Nat.zero_le _⟩
  · refine ⟨Les.drop _ _ _, fun x h => List.mem_of_mem_take h, ?_, ?_⟩
    · show (s.1.take n).length ≤ n
      rw [List.length_take]; omega
    · show (s.1.take n).length ≤ s.1.length
      rw [List.length_take]; omega
theorem fixed_les (n : Nat) (s : Rd) : Les s (fixedS n s).2 ∧ (fixedS n s).1 < M64 := ⟨(bytes_les n s).1, dec_lt _⟩
theorem number_les (s : Rd) (hx : ∀ x ∈ s.1, x < 256) : Les s (numberS s).2 ∧ (numberS s).1 < M64 := by
  unfold numberS
  split
  · exact ⟨Les.rfl' _, (by decide : (0 : Nat) < M64)⟩
  · exact ⟨Les.drop _ _ _, rdL_lt (size := 64) s.1 0 0 (by decide) (by decide) hx⟩
theorem count_les (m : Nat) (s : Rd) : Les s (countS m s).2 := by
  unfold countS
  split
  · exact Les.rfl' _
  · exact (Les.drop s _ _).tr (Les.fail _ _ _)
theorem name_les (s : Rd) : Les s (nameS s).2 ∧ (∀ x ∈ (nameS s).1, x ∈ s.1) ∧ (nameS s).1.length ≤ 32 := by
  have hc := count_les 32 s
  have hb := bytes_les (countS 32 s).1 (countS 32 s).2
  refine ⟨hc.tr hb.1, fun x h => hc.1 x (hb.2.1 x h), ?_⟩
  by_cases h0 : (countS 32 s).2.2 = 0
  · exact Nat.le_trans hb.2.2.1 (countS_ok h0)
  · unfold nameS
    rw [stick_bytes h0]; exact Nat.zero_le _
theorem numbersL_les : ∀ (n : Nat) (l : List Nat) (s : Rd), (∀ x ∈ s.1, x < 256) → (∀ x ∈ l, x < M64) → Les s (numbersL n l s).2 ∧ (∀ x ∈ (numbersL n l s).1, x < M64) ∧ (numbersL n l s).1.length ≤ l.length + n
  | 0, l, s, hx, hl => ⟨Les.rfl' _, hl, Nat.le_refl _⟩
  | n + 1, l, s, hx, hl => by
    unfold numbersL
    split
    · exact ⟨Les.rfl' _, hl, by show l.length ≤ _; omega⟩
    · obtain ⟨k1, k2⟩ := number_les s hx
      have ih := numbersL_les n (l ++ [(numberS s).1]) (numberS s).2 (fun x h => hx x (k1.1 x h)) (fun x h => by
        rcases List.mem_append.1 h with h | h
        · exact hl x h
        · rw [List.mem_singleton] at h; rw [h]; exact k2)
      refine ⟨k1.tr ih.1, ih.2.1, ?_⟩
      have := ih.2.2
      rw [List.length_append, List.length_singleton] at this
      omega
theorem numbers_les (s : Rd) (hx : ∀ x ∈ s.1, x < 256) : Les s (numbersS s).2 ∧ (∀ x ∈ (numbersS s).1, x < M64) ∧ (numbersS s).1.length ≤ 8 := by
  have hc := count_les 8 s
  have h := numbersL_les (countS 8 s).1 [] (countS 8 s).2 (fun x h => hx x (hc.1 x h)) (fun x h => by cases h)
  refine ⟨hc.tr h.1, h.2.1, ?_⟩
  by_cases h0 : (countS 8 s).2.2 = 0
  · have := countS_ok h0
    have h3 := h.2.2
    simp only [List.length_nil] at h3
    unfold numbersS
    omega
  · unfold numbersS
    rw [stick_numbersL _ _ _ h0]; exact Nat.zero_le _
theorem end_ok {s : Rd} (h : (endS s).2 = 0) : s.2 = 0 := by
  refine Decidable.byContradiction fun q => ?_
  rw [stick_end q] at h
  exact q h
theorem body_ok (k t : Nat) (s : Rd) (h1 : 1 ≤ k) (h6 : k ≤ 6) (ht : t < M64) (hx : ∀ x ∈ s.1, x < 256) (hl : s.1.length ≤ 300) : (bodyS k t s).1.Ok ∧ normQ (bodyS k t s).1 = (bodyS k t s).1 := by
  have hh : k = 1 ∨ k = 2 ∨ k = 3 ∨ k = 4 ∨ k = 5 ∨ k = 6 := by omega
  have z : (0 : Nat) < M64 := by decide
  have nn : ∀ x ∈ ([] : List Nat), x < M64 := fun x h => by cases h
  have nb : ∀ x ∈ ([] : List Nat), x < 256 := fun x h => by cases h
  have N := number_les s hx
  have A := name_les s
  have A2 := name_les (numberS s).2
  have hx2 : ∀ x ∈ (numberS s).2.1, x < 256 := fun x h => hx x (N.1.1 x h)
  have hx3 : ∀ x ∈ (nameS (numberS s).2).2.1, x < 256 := fun x h => hx2 x (A2.1.1 x h)
  have V := numbers_les (nameS (numberS s).2).2 hx3
  have hx4 : ∀ x ∈ (numbersS (nameS (numberS s).2).2).2.1, x < 256 := fun x h => hx3 x (V.1.1 x h)
  have N4 := number_les (numbersS (nameS (numberS s).2).2).2 hx4
  have Bb := bytes_les s.1.length s
  have F := fixed_les 8 s
  rcases hh with rfl | rfl | rfl | rfl | rfl | rfl
  · exact ⟨⟨h1, h6, ht, z, Nat.zero_le _, nb, Nat.le_trans Bb.2.2.2 hl, fun x h => hx x (Bb.2.1 x h), Nat.zero_le _, nn, z, z⟩, rfl⟩
  · exact ⟨⟨h1, h6, ht, N.2, A2.2.2, fun x h => hx2 x (A2.2.1 x h), Nat.zero_le _, nb, Nat.zero_le _, nn, z, z⟩, rfl⟩
  · exact ⟨⟨h1, h6, ht, z, A.2.2, fun x h => hx x (A.2.1 x h), Nat.zero_le _, nb, Nat.zero_le _, nn, z, z⟩, rfl⟩
  · exact ⟨⟨h1, h6, ht, N.2, A2.2.2, fun x h => hx2 x (A2.2.1 x h), Nat.zero_le _, nb, V.2.2, V.2.1, N4.2, z⟩, rfl⟩
  · exact ⟨⟨h1, h6, ht, N.2, Nat.zero_le _, nb, Nat.zero_le _, nb, Nat.zero_le _, nn, z, z⟩, rfl⟩
  · exact ⟨⟨h1, h6, ht, z, Nat.zero_le _, nb, Nat.zero_le _, nb, Nat.zero_le _, nn, z, F.2⟩, rfl⟩
theorem takeQ_any {xs : List Nat} (hx : ∀ x ∈ xs, x < 256) (hl : xs.length ≤ 300) (h0 : (takeQ xs).2 = 0) : (takeQ xs).1.Ok ∧ normQ (takeQ xs).1 = (takeQ xs).1 := by
  unfold takeQ at h0 ⊢
  by_cases he : (endS (allS xs).2).2 = 0
  · rw [if_neg (fun w => w he)]
    have h2 := end_ok he
    unfold allS at h2 ⊢
    have hK : Les (xs, 0) (kindS (xs, 0)).2 := (fixed_les 1 (xs, 0)).1.tr (Les.fail _ _ _)
    have hF := fixed_les 8 (kindS (xs, 0)).2
    have hL := hK.tr hF.1
    have hk : 1 ≤ (kindS (xs, 0)).1 ∧ (kindS (xs, 0)).1 ≤ 6 := by
      refine Decidable.byContradiction fun q => ?_
      have h3 : (kindS (xs, 0)).2.2 ≠ 0 := by
        intro w
        have w' : (failS (decide ((fixedS 1 (xs, 0)).1 < 1 ∨ (fixedS 1 (xs, 0)).1 > 6)) 2 (fixedS 1 (xs, 0)).2).2 = 0 := w
        have := of_decide_eq_false (failS_ok (by decide) w').1
        exact q (show 1 ≤ (fixedS 1 (xs, 0)).1 ∧ (fixedS 1 (xs, 0)).1 ≤ 6 by omega)
      rw [stick_fixed h3, bodyS_st _ _ _ h3] at h2
      exact h3 h2
    exact body_ok _ _ _ hk.1 hk.2 hF.2 (fun x h => hx x (hL.1 x h)) (Nat.le_trans hL.2 hl)
  · rw [if_pos he] at h0
    exact absurd h0 he
theorem norm_kind (r : Rq) : (normQ r).kind = r.kind := by unfold normQ; split <;> simp_all
theorem norm_tok (r : Rq) : (normQ r).tok = r.tok := by unfold normQ; split <;> rfl
end Go.Dx.SYtkppbmhpcjjceaa
