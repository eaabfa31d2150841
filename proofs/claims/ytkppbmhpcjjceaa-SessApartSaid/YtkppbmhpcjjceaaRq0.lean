/- Numbers of seven bits, of eight bytes; a reader: plain law. -/
import Derived.Test.YtkppbmhpcjjceaaDxLT
import Derived.Test.YtkppbmhpcjjceaaDx37
namespace Go.Dx.SYtkppbmhpcjjceaa
open Go.Proofs
set_option linter.unusedVariables false
set_option linter.unusedSimpArgs false

/-- A number's bytes of seven bits. -/
def encU (v : Nat) : List Nat := if v < 128 then [v] else (v % 128 + 128) :: encU (v / 128)
termination_by v
decreasing_by omega
theorem encU_lt {v : Nat} (h : v < 128) : encU v = [v] := by rw [encU, if_pos h]
theorem encU_ge {v : Nat} (h : ¬ v < 128) : encU v = (v % 128 + 128) :: encU (v / 128) := by rw [encU, if_neg h]
theorem encU_byte : ∀ v : Nat, ∀ x ∈ encU v, x < 256 := by
  intro v
  induction v using Nat.strongRecOn with
  | _ v ih =>
    intro x hx
    by_cases h : v < 128
    · rw [encU_lt h, List.mem_singleton] at hx; omega
    · rw [encU_ge h] at hx
      rcases List.mem_cons.1 hx with rfl | hx
      · omega
      · exact ih _ (by omega) x hx
theorem encU_pos (v : Nat) : 0 < (encU v).length := by
  by_cases h : v < 128
  · rw [encU_lt h]; simp
  · rw [encU_ge h]; simp
theorem encU_len : ∀ (k v : Nat), v < 2 ^ (7 * k) → 0 < k → (encU v).length ≤ k
  | 0, v, _, h => by omega
  | k + 1, v, hv, _ => by
    by_cases h : v < 128
    · rw [encU_lt h]; simp
    · rw [encU_ge h, List.length_cons]
      have h1 : v / 128 < 2 ^ (7 * k) := by
        have : (2 : Nat) ^ (7 * (k + 1)) = 128 * 2 ^ (7 * k) := by rw [Nat.mul_add, Nat.pow_add, Nat.mul_comm]
        rw [this] at hv
        exact Nat.div_lt_of_lt_mul hv
      by_cases hk : k = 0
      · subst hk; simp at hv; omega
      · have := encU_len k _ h1 (by omega); omega

/-- A number read: what it is, of how many bytes, why not. -/
def rdL (size : Nat) : Nat → Nat → List Nat → Nat × Nat × Int
  | _, _, [] => (0, 0, 3)
  | i, v, x :: r =>
    if size ≤ 7 * i + 7 ∧ ¬ (x < 128 ∧ x / 2 ^ (size - 7 * i) = 0) then (0, 0, 2)
    else if x < 128 then (v + x * 2 ^ (7 * i), i + 1, 0) else rdL size (i + 1) (v + x % 128 * 2 ^ (7 * i)) r
theorem rdL_len {size : Nat} : ∀ (xs : List Nat) (i v : Nat), (rdL size i v xs).2.1 ≤ i + xs.length
  | [], i, v => by simp [rdL]
  | x :: r, i, v => by
    unfold rdL
    split
    · simp
    · split
      · simp
      · have := rdL_len (size := size) r (i + 1) (v + x % 128 * 2 ^ (7 * i))
        simp; omega
theorem rdL_err {size : Nat} : ∀ (xs : List Nat) (i v : Nat), (rdL size i v xs).2.2 = 0 ∨ (rdL size i v xs).2.2 = 2 ∨ (rdL size i v xs).2.2 = 3
  | [], i, v => .inr (.inr rfl)
  | x :: r, i, v => by
    unfold rdL
    split
    · exact .inr (.inl rfl)
    · split
      · exact .inl rfl
      · exact rdL_err r _ _
theorem pow7 (i : Nat) : (2 : Nat) ^ (7 * (i + 1)) = 128 * 2 ^ (7 * i) := by rw [Nat.mul_add, Nat.pow_add, Nat.mul_comm]
/-- What was put is read. -/
theorem rd_enc {size : Nat} : ∀ (v i acc : Nat) (r : List Nat), v < 2 ^ (size - 7 * i) → 7 * i < size → rdL size i acc (encU v ++ r) = (acc + v * 2 ^ (7 * i), i + (encU v).length, 0) := by
  intro v
  induction v using Nat.strongRecOn with
  | _ v ih =>
    intro i acc r hv hi
    by_cases h : v < 128
    · rw [encU_lt h]
      show rdL size i acc (v :: r) = _
      unfold rdL
      rw [if_neg (fun q => q.2 ⟨h, Nat.div_eq_of_lt hv⟩), if_pos h]; rfl
    · rw [encU_ge h]
      show rdL size i acc ((v % 128 + 128) :: (encU (v / 128) ++ r)) = _
      have hs : ¬ size ≤ 7 * i + 7 := fun q => by
        have h1 : (2 : Nat) ^ (size - 7 * i) ≤ 2 ^ 7 := Nat.pow_le_pow_right (by decide) (by omega)
        omega
      unfold rdL
      rw [if_neg (fun q => hs q.1), if_neg (by omega)]
      have hsz : size - 7 * i = 7 + (size - 7 * (i + 1)) := by omega
      have hv2 : v / 128 < 2 ^ (size - 7 * (i + 1)) := by
        rw [hsz, Nat.pow_add] at hv
        exact Nat.div_lt_of_lt_mul hv
      rw [ih (v / 128) (by omega) (i + 1) _ r hv2 (by omega), List.length_cons, pow7]
      have e1 : (v % 128 + 128) % 128 = v % 128 := by omega
      rw [e1]
      refine Prod.ext ?_ (Prod.ext ?_ rfl)
      · show acc + v % 128 * 2 ^ (7 * i) + v / 128 * (128 * 2 ^ (7 * i)) = acc + v * 2 ^ (7 * i)
        rw [← Nat.mul_assoc, Nat.add_assoc, ← Nat.add_mul]
        congr 2; omega
      · show i + 1 + _ = i + (_ + 1); omega
/-- Cut off, it is short. -/
theorem rd_cut {size : Nat} : ∀ (v i acc k : Nat), v < 2 ^ (size - 7 * i) → 7 * i < size → k < (encU v).length → rdL size i acc ((encU v).take k) = (0, 0, 3) := by
  intro v
  induction v using Nat.strongRecOn with
  | _ v ih =>
    intro i acc k hv hi hk
    cases k with
    | zero => rfl
    | succ k =>
      by_cases h : v < 128
      · rw [encU_lt h] at hk; simp at hk
      · rw [encU_ge h] at hk ⊢
        show rdL size i acc ((v % 128 + 128) :: (encU (v / 128)).take k) = _
        have hs : ¬ size ≤ 7 * i + 7 := fun q => by
          have h1 : (2 : Nat) ^ (size - 7 * i) ≤ 2 ^ 7 := Nat.pow_le_pow_right (by decide) (by omega)
          omega
        unfold rdL
        rw [if_neg (fun q => hs q.1), if_neg (by omega)]
        have hsz : size - 7 * i = 7 + (size - 7 * (i + 1)) := by omega
        have hv2 : v / 128 < 2 ^ (size - 7 * (i + 1)) := by
          rw [hsz, Nat.pow_add] at hv
          exact Nat.div_lt_of_lt_mul hv
        exact ih (v / 128) (by omega) (i + 1) _ k hv2 (by omega) (by simpa using hk)

/-- A number's eight bytes. -/
def enc8 (v : Nat) : List Nat := (List.range 8).map fun j => v / 2 ^ (8 * (7 - j)) % 256
theorem enc8_len (v : Nat) : (enc8 v).length = 8 := rfl
theorem enc8_byte (v : Nat) : ∀ x ∈ enc8 v, x < 256 := by
  intro x hx
  obtain ⟨j, _, rfl⟩ := List.mem_map.1 hx
  exact Nat.mod_lt _ (by decide)
def dec (xs : List Nat) : Nat := xs.foldl (fun a x => (a * 256 + x) % 18446744073709551616) 0
theorem dec_enc8 {v : Nat} (h : v < 18446744073709551616) : dec (enc8 v) = v := by
  have st : ∀ m : Nat, (v / (m * 256) * 256 + v / m % 256) % 18446744073709551616 = v / m := fun m => by
    rw [← Nat.div_div_eq_div_mul, Nat.div_add_mod']
    exact Nat.mod_eq_of_lt (Nat.lt_of_le_of_lt (Nat.div_le_self _ _) h)
  have h7 : v / 72057594037927936 < 256 := Nat.div_lt_of_lt_mul h
  have e7 : (0 * 256 + v / 72057594037927936 % 256) % 18446744073709551616 = v / 72057594037927936 := by
    rw [Nat.mod_eq_of_lt h7, Nat.zero_mul, Nat.zero_add]
    exact Nat.mod_eq_of_lt (Nat.lt_of_le_of_lt (Nat.div_le_self _ _) h)
  have e : dec (enc8 v) = ((((((((0 * 256 + v / 72057594037927936 % 256) % 18446744073709551616 * 256 + v / 281474976710656 % 256) % 18446744073709551616 * 256 + v / 1099511627776 % 256) % 18446744073709551616 * 256 + v / 4294967296 % 256) % 18446744073709551616 * 256 + v / 16777216 % 256) % 18446744073709551616 * 256 + v / 65536 % 256) % 18446744073709551616 * 256 + v / 256 % 256) % 18446744073709551616 * 256 + v / 1 % 256) % 18446744073709551616 := by
    unfold dec enc8; rfl
  rw [e, e7]
  have s6 := st 281474976710656
  have s5 := st 1099511627776
  have s4 := st 4294967296
  have s3 := st 16777216
  have s2 := st 65536
  have s1 := st 256
  have s0 := st 1
  simp only [Nat.reduceMul] at s6 s5 s4 s3 s2 s1 s0
  rw [s6, s5, s4, s3, s2, s1, s0, Nat.div_one]

/-! ### A reader: its bytes, and the first error -/
abbrev Rd := List Nat × Int
def failS (b : Bool) (e : Int) (s : Rd) : Rd := if b = true ∧ s.2 = 0 then (s.1, e) else s
def bytesS (n : Nat) (s : Rd) : List Nat × Rd := if (failS (decide (s.1.length < n)) 3 s).2 ≠ 0 then ([], failS (decide (s.1.length < n)) 3 s) else (s.1.take n, s.1.drop n, 0)
def fixedS (n : Nat) (s : Rd) : Nat × Rd := (dec (bytesS n s).1, (bytesS n s).2)
def numberS (s : Rd) : Nat × Rd := if s.2 ≠ 0 then (0, s) else ((rdL 64 0 0 s.1).1, s.1.drop (rdL 64 0 0 s.1).2.1, (rdL 64 0 0 s.1).2.2)
def countS (most : Nat) (s : Rd) : Nat × Rd := if s.2 ≠ 0 then (0, s) else ((rdL 32 0 0 s.1).1, failS (decide ((rdL 32 0 0 s.1).1 > most)) 4 (s.1.drop (rdL 32 0 0 s.1).2.1, (rdL 32 0 0 s.1).2.2))
def numbersL : Nat → List Nat → Rd → List Nat × Rd
  | 0, l, s => (l, s)
  | n + 1, l, s => if s.2 ≠ 0 then (l, s) else numbersL n (l ++ [(numberS s).1]) (numberS s).2
def numbersS (s : Rd) : List Nat × Rd := numbersL (countS 8 s).1 [] (countS 8 s).2
def endS (s : Rd) : Rd := failS (decide (0 < s.1.length)) 2 s
end Go.Dx.SYtkppbmhpcjjceaa
