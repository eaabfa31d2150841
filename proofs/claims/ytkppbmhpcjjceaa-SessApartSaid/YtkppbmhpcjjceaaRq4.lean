/- What a reader makes of what was put: plain law. -/
import Derived.Test.YtkppbmhpcjjceaaRq3
namespace Go.Dx.SYtkppbmhpcjjceaa
open Go.Proofs
set_option linter.unusedVariables false
set_option linter.unusedSimpArgs false

theorem stick_fail {b : Bool} {e : Int} {s : Rd} (h : s.2 ≠ 0) : failS b e s = s := if_neg fun w => h w.2
theorem stick_bytes {n : Nat} {s : Rd} (h : s.2 ≠ 0) : bytesS n s = ([], s) := by unfold bytesS; rw [stick_fail h, if_pos h]
theorem stick_fixed {n : Nat} {s : Rd} (h : s.2 ≠ 0) : fixedS n s = (0, s) := by unfold fixedS; rw [stick_bytes h]; rfl
theorem stick_number {s : Rd} (h : s.2 ≠ 0) : numberS s = (0, s) := by unfold numberS; rw [if_pos h]
theorem stick_count {n : Nat} {s : Rd} (h : s.2 ≠ 0) : countS n s = (0, s) := by unfold countS; rw [if_pos h]
theorem stick_numbers {s : Rd} (h : s.2 ≠ 0) : numbersS s = ([], s) := by unfold numbersS; rw [stick_count h]; rfl
theorem stick_end {s : Rd} (h : s.2 ≠ 0) : endS s = s := stick_fail h

theorem bytes_ok {xs r : List Nat} : bytesS xs.length (xs ++ r, 0) = (xs, r, 0) := by
  have h : decide ((xs ++ r).length < xs.length) = false := by simp
  unfold bytesS
  simp only [h, failS]
  simp
theorem bytes_cut {xs : List Nat} {n : Nat} (hn : xs.length < n) : bytesS n (xs, 0) = ([], xs, 3) := by
  have h : decide (xs.length < n) = true := by simp [hn]
  unfold bytesS
  simp only [h, failS]
  simp
theorem fixed8_ok {v : Nat} {r : List Nat} (hv : v < 18446744073709551616) : fixedS 8 (enc8 v ++ r, 0) = (v, r, 0) := by
  have h := bytes_ok (xs := enc8 v) (r := r)
  rw [enc8_len] at h
  unfold fixedS; rw [h]
  show (dec (enc8 v), _) = _
  rw [dec_enc8 hv]
theorem fixed1_ok {x : Nat} {r : List Nat} (hx : x < 256) : fixedS 1 (x :: r, 0) = (x, r, 0) := by
  have h := bytes_ok (xs := [x]) (r := r)
  unfold fixedS
  have h' : bytesS 1 (x :: r, 0) = ([x], r, 0) := h
  rw [h']
  show (dec [x], _) = _
  have : dec [x] = x := by show (0 * 256 + x) % 18446744073709551616 = x; omega
  rw [this]
theorem fixed_cut {xs : List Nat} {n : Nat} (hn : xs.length < n) : fixedS n (xs, 0) = (0, xs, 3) := by
  unfold fixedS; rw [bytes_cut hn]; rfl
theorem number_ok {v : Nat} {r : List Nat} (hv : v < 18446744073709551616) : numberS (encU v ++ r, 0) = (v, r, 0) := by
  have h := rd_enc (size := 64) v 0 0 r hv (by decide)
  unfold numberS
  rw [if_neg (by simp)]
  show ((rdL 64 0 0 (encU v ++ r)).1, (encU v ++ r).drop (rdL 64 0 0 (encU v ++ r)).2.1, (rdL 64 0 0 (encU v ++ r)).2.2) = _
  rw [h]
  simp
theorem number_cut {v k : Nat} (hv : v < 18446744073709551616) (hk : k < (encU v).length) : (numberS ((encU v).take k, 0)).2.2 = 3 := by
  have h := rd_cut (size := 64) v 0 0 k hv (by decide) hk
  unfold numberS
  rw [if_neg (by simp)]
  show (rdL 64 0 0 ((encU v).take k)).2.2 = 3
  rw [h]
theorem count_ok {v m : Nat} {r : List Nat} (hv : v ≤ m) (hm : m < 4294967296) : countS m (encU v ++ r, 0) = (v, r, 0) := by
  have h := rd_enc (size := 32) v 0 0 r (show v < 4294967296 by omega) (by decide)
  unfold countS
  rw [if_neg (by simp)]
  show ((rdL 32 0 0 (encU v ++ r)).1, failS (decide ((rdL 32 0 0 (encU v ++ r)).1 > m)) 4 ((encU v ++ r).drop (rdL 32 0 0 (encU v ++ r)).2.1, (rdL 32 0 0 (encU v ++ r)).2.2)) = _
  rw [h]
  have hd : decide (0 + v * 2 ^ (7 * 0) > m) = false := by simp; omega
  simp only [hd]
  simp [failS]
theorem count_cut {v m k : Nat} (hv : v ≤ m) (hm : m < 4294967296) (hk : k < (encU v).length) : (countS m ((encU v).take k, 0)).2.2 = 3 := by
  have h := rd_cut (size := 32) v 0 0 k (show v < 4294967296 by omega) (by decide) hk
  unfold countS
  rw [if_neg (by simp)]
  show (failS (decide ((rdL 32 0 0 ((encU v).take k)).1 > m)) 4 (_, (rdL 32 0 0 ((encU v).take k)).2.2)).2 = 3
  rw [h]
  simp [failS]
theorem encUs_cons (v : Nat) (vs : List Nat) : encUs (v :: vs) = encU v ++ encUs vs := rfl
theorem numbersL_ok : ∀ (vs l r : List Nat), (∀ v ∈ vs, v < 18446744073709551616) → numbersL vs.length l (encUs vs ++ r, 0) = (l ++ vs, r, 0)
  | [], l, r, _ => by simp [numbersL, encUs]
  | v :: vs, l, r, h => by
    rw [encUs_cons, List.length_cons, List.append_assoc]
    unfold numbersL
    rw [if_neg (by simp), number_ok (h v (by simp)), numbersL_ok vs _ r fun x hx => h x (by simp [hx])]
    simp
theorem take_in {a b : List Nat} {k : Nat} (h : a.length ≤ k) : (a ++ b).take k = a ++ b.take (k - a.length) := by
  rw [List.take_append, List.take_of_length_le h]
theorem take_out {a b : List Nat} {k : Nat} (h : k < a.length) : (a ++ b).take k = a.take k := by
  rw [List.take_append, show k - a.length = 0 by omega, List.take_zero, List.append_nil]
theorem stick_numbersL : ∀ (n : Nat) (l : List Nat) (s : Rd), s.2 ≠ 0 → numbersL n l s = (l, s)
  | 0, l, s, h => rfl
  | n + 1, l, s, h => by unfold numbersL; rw [if_pos h]
theorem numbersL_cut : ∀ (vs l : List Nat) (k : Nat), (∀ v ∈ vs, v < 18446744073709551616) → k < (encUs vs).length → (numbersL vs.length l ((encUs vs).take k, 0)).2.2 = 3
  | [], l, k, _, hk => by simp [encUs] at hk
  | v :: vs, l, k, h, hk => by
    rw [encUs_cons] at hk ⊢
    rw [List.length_cons]
    unfold numbersL
    rw [if_neg (by simp)]
    by_cases hl : (encU v).length ≤ k
    · rw [take_in hl, number_ok (h v (by simp))]
      exact numbersL_cut vs _ _ (fun x hx => h x (by simp [hx])) (by rw [List.length_append] at hk; omega)
    · have h3 := number_cut (h v (by simp)) (show k < (encU v).length by omega)
      rw [take_out (by omega), stick_numbersL _ _ _ (by rw [h3]; decide)]
      exact h3
def encL (vs : List Nat) : List Nat := encU vs.length ++ encUs vs
theorem numbers_ok {vs r : List Nat} (h8 : vs.length ≤ 8) (h : ∀ v ∈ vs, v < 18446744073709551616) : numbersS (encL vs ++ r, 0) = (vs, r, 0) := by
  unfold numbersS encL
  rw [List.append_assoc, count_ok h8 (by decide)]
  exact numbersL_ok vs [] r h
theorem numbers_cut {vs : List Nat} {k : Nat} (h8 : vs.length ≤ 8) (h : ∀ v ∈ vs, v < 18446744073709551616) (hk : k < (encL vs).length) : (numbersS ((encL vs).take k, 0)).2.2 = 3 := by
  unfold numbersS
  unfold encL at hk ⊢
  by_cases hl : (encU vs.length).length ≤ k
  · rw [take_in hl, count_ok h8 (by decide)]
    exact numbersL_cut vs [] _ h (by rw [List.length_append] at hk; omega)
  · have h3 := count_cut h8 (by decide) (show k < (encU vs.length).length by omega)
    rw [take_out (by omega), stick_numbersL _ _ _ (by rw [h3]; decide)]
    exact h3

/-! ### Replies -/
structure Rp where
  tok : Nat
  err : Nat
  han : Nat
  vs : List Nat
def encR (r : Rp) : List Nat := enc8 r.tok ++ ([r.err] ++ (encU r.han ++ encL r.vs))
def Rp.zero : Rp := ⟨0, 0, 0, []⟩
/-- What is read of bytes before the end is looked at. -/
def readR (xs : List Nat) : Rp × Rd :=
  (⟨(fixedS 8 (xs, 0)).1, (fixedS 1 (fixedS 8 (xs, 0)).2).1,
    (numberS (failS (decide ((fixedS 1 (fixedS 8 (xs, 0)).2).1 > 17)) 2 (fixedS 1 (fixedS 8 (xs, 0)).2).2)).1,
    (numbersS (numberS (failS (decide ((fixedS 1 (fixedS 8 (xs, 0)).2).1 > 17)) 2 (fixedS 1 (fixedS 8 (xs, 0)).2).2)).2).1⟩,
   (numbersS (numberS (failS (decide ((fixedS 1 (fixedS 8 (xs, 0)).2).1 > 17)) 2 (fixedS 1 (fixedS 8 (xs, 0)).2).2)).2).2)
def takeR (xs : List Nat) : Rp × Int := if (endS (readR xs).2).2 ≠ 0 then (Rp.zero, (endS (readR xs).2).2) else ((readR xs).1, 0)
structure Rp.Ok (r : Rp) : Prop where
  t : r.tok < 18446744073709551616
  e : r.err ≤ 17
  h : r.han < 18446744073709551616
  l : r.vs.length ≤ 8
  v : ∀ x ∈ r.vs, x < 18446744073709551616
theorem fail_no {e : Int} {s : Rd} : failS false e s = s := by simp [failS]
theorem readR_enc {r : Rp} (k : r.Ok) (m : List Nat) : readR (encR r ++ m) = (r, m, 0) := by
  have e1 : encR r ++ m = enc8 r.tok ++ (r.err :: (encU r.han ++ (encL r.vs ++ m))) := by simp [encR]
  have hd : decide (r.err > 17) = false := by have := k.e; simp; omega
  unfold readR
  rw [e1, fixed8_ok k.t]
  have h1 := fixed1_ok (x := r.err) (r := encU r.han ++ (encL r.vs ++ m)) (by have := k.e; omega)
  simp only [h1, hd, fail_no, number_ok k.h, numbers_ok k.l k.v]
theorem takeR_enc {r : Rp} (k : r.Ok) : takeR (encR r) = (r, 0) := by
  have h := readR_enc k []
  rw [List.append_nil] at h
  unfold takeR
  rw [h]
  simp [endS, failS]
theorem takeR_more {r : Rp} (k : r.Ok) (x : Nat) : (takeR (encR r ++ [x])).2 = 2 := by
  unfold takeR
  rw [readR_enc k [x]]
  simp [endS, failS]
theorem takeR_cut {r : Rp} (k : r.Ok) {i : Nat} (hi : i < (encR r).length) : (takeR ((encR r).take i)).2 = 3 := by
  have key : (readR ((encR r).take i)).2.2 = 3 := by
    have hd : decide (r.err > 17) = false := by have := k.e; simp; omega
    have st1 : ∀ s : Rd, s.2 = 3 → (numbersS (numberS s).2).2.2 = 3 := fun s h => by
      rw [stick_number (by rw [h]; decide), stick_numbers (by rw [h]; decide)]; exact h
    unfold encR at hi ⊢
    unfold readR
    by_cases h8 : 8 ≤ i
    · rw [take_in (by rw [enc8_len]; exact h8), fixed8_ok k.t, enc8_len]
      by_cases h9 : 9 ≤ i
      · rw [take_in (a := [r.err]) (by simp; omega)]
        have h1 := fixed1_ok (x := r.err) (r := (encU r.han ++ encL r.vs).take (i - 8 - [r.err].length)) (by have := k.e; omega)
        rw [List.singleton_append, h1]
        simp only [hd, fail_no]
        have hi' : i - 8 - [r.err].length < (encU r.han ++ encL r.vs).length := by
          simp only [List.length_append, enc8_len, List.length_singleton] at hi ⊢; omega
        generalize i - 8 - [r.err].length = j at hi' ⊢
        by_cases hl : (encU r.han).length ≤ j
        · rw [take_in hl, number_ok k.h]
          exact numbers_cut k.l k.v (by rw [List.length_append] at hi'; omega)
        · have h3 := number_cut k.h (show j < (encU r.han).length by omega)
          rw [take_out (by omega)]
          show (numbersS (numberS ((encU r.han).take j, 0)).2).2.2 = 3
          rw [stick_numbers (by rw [h3]; decide)]; exact h3
      · have h80 : i = 8 := by omega
        subst h80
        show (numbersS (numberS (failS (decide ((fixedS 1 ([], 0)).1 > 17)) 2 (fixedS 1 ([], 0)).2)).2).2.2 = 3
        have hc := fixed_cut (xs := []) (n := 1) (by decide)
        rw [hc]
        rw [stick_fail (by decide)]
        exact st1 _ rfl
    · rw [take_out (by rw [enc8_len]; omega), fixed_cut (by rw [List.length_take, enc8_len]; omega)]
      have e2 : ∀ l : List Nat, fixedS 1 ((0, (l, 3)) : Nat × Rd).2 = (0, (l, 3)) := fun l => stick_fixed (by show (3 : Int) ≠ 0; decide)
      rw [e2]
      show (numbersS (numberS (failS _ 2 (_, 3))).2).2.2 = 3
      rw [stick_fail (by show (3 : Int) ≠ 0; decide)]
      exact st1 _ rfl
  unfold takeR
  have he : endS (readR ((encR r).take i)).2 = (readR ((encR r).take i)).2 := stick_end (by rw [key]; decide)
  rw [he, if_pos (by rw [key]; decide)]
  exact key
end Go.Dx.SYtkppbmhpcjjceaa
