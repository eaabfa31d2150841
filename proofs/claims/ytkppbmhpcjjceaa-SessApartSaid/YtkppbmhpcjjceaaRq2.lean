/- Contracts of leb's readers. -/
import Derived.Test.YtkppbmhpcjjceaaRq1
namespace Go.Dx.SYtkppbmhpcjjceaa
open Go.Proofs
set_option linter.unusedVariables false
set_option linter.unusedSimpArgs false

theorem and128v : ∀ x : Fin 256, (BitVec.ofInt 8 ((x.val : Nat) : Int) &&& BitVec.ofInt 8 128).toNat = if x.val < 128 then 0 else 128 := by decide +kernel
theorem and128b {x : Nat} (hx : x < 256) : binV .and (.int .u8 (x : Int)) (.int .u8 128) = some (.int .u8 ((if x < 128 then 0 else 128 : Nat) : Int)) := by
  have h1 := and128v ⟨x, hx⟩
  show some (Value.int .u8 (IntKind.wrap .u8 (((BitVec.ofInt 8 ((x : Nat) : Int) &&& BitVec.ofInt 8 128).toNat : Nat) : Int))) = _
  rw [h1, wr8m]; simp only []; congr 3; split <;> rfl
theorem and127b {x : Nat} (hx : x < 256) : binV .and (.int .u8 (x : Int)) (.int .u8 127) = some (.int .u8 ((x % 128 : Nat) : Int)) := by
  have h1 := and127 ⟨x, hx⟩
  show some (Value.int .u8 (IntKind.wrap .u8 (((BitVec.ofInt 8 ((x : Nat) : Int) &&& BitVec.ofInt 8 127).toNat : Nat) : Int))) = _
  rw [h1, wr8m]; congr 3; simp only; omega
theorem shlN {kk : IntKind} {v s : Nat} (hs : s ≤ 64) (hv : v * 2 ^ s < 18446744073709551616) : binV .shl (.int .u64 (v : Int)) (.int kk (s : Int)) = some (.int .u64 ((v * 2 ^ s : Nat) : Int)) := by
  have e1 : min ((s : Int)).toNat (IntKind.bits .u64) = s := by rw [Int.toNat_natCast]; show min s 64 = s; omega
  simp only [binV, e1]
  rw [if_neg (by omega)]
  have e2 : (v : Int) * 2 ^ s = ((v * 2 ^ s : Nat) : Int) := by simp
  rw [e2, wr64m, Nat.mod_eq_of_lt hv]
theorem orN {a b : Nat} (ha : a < 18446744073709551616) (hb : b < 18446744073709551616) : binV .or (.int .u64 (a : Int)) (.int .u64 (b : Int)) = some (.int .u64 ((a ||| b : Nat) : Int)) := by
  show some (Value.int .u64 (IntKind.wrap .u64 (((BitVec.ofInt 64 (a : Int) ||| BitVec.ofInt 64 (b : Int)).toNat : Nat) : Int))) = _
  have e : (BitVec.ofInt 64 (a : Int) ||| BitVec.ofInt 64 (b : Int)).toNat = a ||| b := by
    rw [BitVec.toNat_or, BitVec.ofInt_natCast, BitVec.ofInt_natCast, BitVec.toNat_ofNat, BitVec.toNat_ofNat, Nat.mod_eq_of_lt ha, Nat.mod_eq_of_lt hb]
  rw [e, wr64m, Nat.mod_eq_of_lt (Nat.or_lt_two_pow (n := 64) ha hb)]
theorem orAdd {a z s : Nat} (ha : a < 2 ^ s) : a ||| z * 2 ^ s = a + z * 2 ^ s := by
  rw [Nat.or_comm, ← Nat.shiftLeft_eq, ← Nat.shiftLeft_add_eq_or_of_lt ha, Nat.add_comm]

/-- leb.last, without a sign -/
theorem C100 {h : Heap} {x left : Nat} (hx : x < 256) (hl : left ≤ 8) :
    Fn Try.prog 100 [.int .u8 (x : Int), .int .i64 (left : Int), .bool false] h fun v h' => v = .bool (decide (x < 128 ∧ x / 2 ^ left = 0)) ∧ h = h' := by
  refine fnK F100.fok rfl ?_
  refine K_reg (Wops_run rfl rfl (K_fin [(0, _), (1, _), (2, _)] rfl (?_)))
  refine K_ss (K_reg (Wops_run rfl rfl (Wops_as (w := .int .u8 ((if x < 128 then 0 else 128 : Nat) : Int)) rfl rfl (Option.some.inj (and128b hx)) ?_)))
  by_cases h1 : x < 128
  · rw [if_pos h1]
    refine Wops_run rfl rfl (K_fin [(0, _), (1, _), (2, _), (10, _)] rfl (?_))
    refine K_scond rfl (fun hc => by cases hc) (fun _ => ?_)
    refine K_sskip (K_ss (K_reg (Wops_run rfl rfl (Wops_run rfl rfl (K_fin [(0, _), (1, _), (12, _)] rfl (?_))))))
    refine K_scond rfl (fun _ => ?_) (fun hc => by cases hc)
    refine K_ss (K_reg (Wops_run rfl rfl (Wops_run rfl rfl (Wops_as (w := .int .u8 ((x / 2 ^ left : Nat) : Int)) rfl rfl ?_ (Wops_as (w := .bool (decide (x < 128 ∧ x / 2 ^ left = 0))) rfl rfl ?_ (Wops_run rfl rfl (K_fin [(6, _)] rfl (?_))))))))
    · show (binV .shr (.int .u8 (x : Int)) (.int .i64 (left : Int))).getD .nilFunc = _
      rw [shrN (by show _ ≤ 8; omega)]; rfl
    · show Value.bool (((x / 2 ^ left : Nat) : Int) == 0) = _
      congr 1
      rw [Bool.eq_iff_iff, beq_iff_eq, decide_eq_true_iff]
      omega
    · exact K_sret (Told.mk _ rfl ⟨rfl, rfl⟩)
  · rw [if_neg h1]
    refine Wops_run rfl rfl (K_fin [(0, _), (1, _), (2, _), (10, _)] rfl (?_))
    refine K_scond rfl (fun _ => ?_) (fun hc => by cases hc)
    refine K_ss (K_reg (Wops_run rfl rfl (K_fin [(6, _)] rfl (?_))))
    exact K_sret (Told.mk _ rfl ⟨by rw [decide_eq_false (fun q => h1 q.1)]; rfl, rfl⟩)

def rdV (k : IntKind) (r : Nat × Nat × Int) : Value := .tuple ⟨[.int k (r.1 : Int), .int .i64 (r.2.1 : Int), .int .i64 r.2.2]⟩
theorem p7 {i s : Nat} (h : 7 * i < s) (hs : s ≤ 64) : 2 ^ (7 * i) ≤ 9223372036854775808 := by
  have : (2 : Nat) ^ (7 * i) ≤ 2 ^ 63 := Nat.pow_le_pow_right (by decide) (by omega)
  exact this
set_option maxHeartbeats 1000000 in
/-- leb.read, without a sign -/
theorem C96 {h : Heap} {a : Option Addr} {n c size : Nat} {xs : List Nat} (s : SlA h 1 a n c (bys xs)) (hb : n ≤ 100000) (hx : ∀ x ∈ xs, x < 256) (hs0 : 0 < size) (hs : size ≤ 64) :
    Fn Try.prog 96 [.slice a n c, .int .i64 (size : Int), .bool false] h fun v h' => v = rdV .u64 (rdL size 0 0 xs) ∧ h = h' := by
  have hn : xs.length = n := by simpa using s.len
  refine fnK F96.fok rfl ?_
  refine K_reg (Wops_run rfl rfl (Wops_run rfl rfl (Wops_run rfl rfl (K_fin [(0, _), (1, _), (2, _), (6, _), (7, _)] rfl (?_)))))
  refine K_reg (Wops_run rfl rfl (K_fin [(0, _), (1, _), (2, _), (6, _), (7, _), (9, _)] rfl (?_)))
  refine K_block ?_
  refine K_loop (fun k e h' => ∃ i v : Nat, e = [(0, .slice a n c), (1, .int .i64 (size : Int)), (2, .bool false), (6, .int .u64 (v : Int)), (7, .int .i64 (i : Int)), (9, .int .i64 ((7 * i : Nat) : Int))] ∧ h = h' ∧ i ≤ n ∧ k = n - i ∧ 7 * i < size ∧ v < 2 ^ (7 * i) ∧ rdL size i v (xs.drop i) = rdL size 0 0 xs) ?_ (k := n) ⟨0, 0, rfl, rfl, by omega, rfl, by omega, by decide, rfl⟩
  rintro k e h' ⟨i, v, rfl, rfl, hi, rfl, h7, hv, hr⟩
  refine K_sblock ?_
  refine K_ss (K_reg (Wops_run rfl rfl (Wops_run rfl rfl (Wops_run rfl rfl ?_))))
  by_cases hin : i = n
  · refine Wops_as (w := .bool true) rfl rfl (by simp [hin]) (K_fin [(0, _), (1, _), (2, _), (6, _), (7, _), (9, _), (17, _)] rfl (?_))
    refine K_scond rfl (fun _ => ?_) (fun hc => by cases hc)
    refine K_ss (K_reg (Wops_run rfl rfl (Wops_run rfl rfl (Wops_run rfl rfl (K_fin [(6, _), (7, _), (8, _)] rfl (?_))))))
    refine K_sret (Told.mk _ rfl ⟨?_, rfl⟩)
    rw [← hr, List.drop_eq_nil_of_le (by omega)]; rfl
  have hil : i < xs.length := by omega
  have hxi : xs[i] < 256 := hx _ (List.getElem_mem _)
  rw [List.drop_eq_getElem_cons hil] at hr
  generalize hxd : xs[i] = x at hr hxi
  refine Wops_as (w := .bool false) rfl rfl (by simp; omega) (K_fin [(0, _), (1, _), (2, _), (6, _), (7, _), (9, _), (17, _)] rfl (?_))
  refine K_scond rfl (fun hc => by cases hc) (fun _ => ?_)
  refine K_sskip (K_reg (Wops_run rfl rfl (Wops_run rfl rfl (Wops_idx (u := .int .u8 (x : Int)) rfl rfl s ⟨by omega, by omega⟩ (by simp [bys, hil, hxd]) fun _ => ?_))))
  refine Wops_run rfl rfl (K_fin [(0, _), (1, _), (2, _), (6, _), (7, _), (9, _), (10, _)] rfl (?_))
  refine K_reg (Wops_run rfl rfl (Wops_as (w := .int .i64 ((i + 1 : Nat) : Int)) rfl rfl (by rw [w64s (by omega)]) (Wops_run rfl rfl (K_fin [(0, _), (1, _), (2, _), (6, _), (7, _), (9, _), (10, _)] rfl (?_)))))
  refine K_ss (K_reg (Wops_run rfl rfl (Wops_run rfl rfl (Wops_as (w := .int .i64 ((size - 7 * i : Nat) : Int)) rfl rfl (by rw [w64 (by omega)]; congr 1; omega) (Wops_run rfl rfl (K_fin [(0, _), (1, _), (2, _), (6, _), (7, _), (9, _), (10, _), (11, _)] rfl (?_)))))))
  refine K_ss (K_join (fun e h' => ∃ b, e = [(0, .slice a n c), (1, .int .i64 (size : Int)), (2, .bool false), (6, .int .u64 (v : Int)), (7, .int .i64 ((i + 1 : Nat) : Int)), (9, .int .i64 ((7 * i : Nat) : Int)), (10, .int .u8 (x : Int)), (35, .bool b)] ∧ h = h' ∧ b = decide (size ≤ 7 * i + 7 ∧ ¬ (x < 128 ∧ x / 2 ^ (size - 7 * i) = 0))) ?_ ?_)
  · by_cases hl : size ≤ 7 * i + 7
    · refine K_last (Wops_run rfl rfl (Wops_as (w := .bool true) rfl rfl (by rw [decide_eq_true (by omega)]) (Wops_run rfl rfl (Wops_go rfl (Wops_run rfl rfl (Wops_go rfl (Wops_run rfl rfl (Wops_go rfl (Wops_run rfl rfl (Wops_go rfl (Wops_call rfl (C100 hxi (left := size - 7 * i) (by omega)) ?_)))))))))))
      rintro _ _ ⟨rfl, rfl⟩
      refine Wops_go rfl (Wops_run rfl rfl (Wops_run rfl rfl (K_finL [(0, _), (1, _), (2, _), (6, _), (7, _), (9, _), (10, _), (35, _)] rfl (?_))))
      exact ⟨_, rfl, rfl, by simp only [hl, true_and, decide_not]⟩
    · refine K_last (Wops_run rfl rfl (Wops_as (w := .bool false) rfl rfl (by rw [decide_eq_false (by omega)]) (Wops_run rfl rfl (Wops_skip rfl (Wops_skip rfl (Wops_skip rfl (Wops_skip rfl (Wops_skip rfl (Wops_run rfl rfl (K_finL [(0, _), (1, _), (2, _), (6, _), (7, _), (9, _), (10, _), (35, _)] rfl (?_)))))))))))
      exact ⟨_, rfl, rfl, by simp [hl]⟩
  rintro _ _ ⟨b, rfl, rfl, hbd⟩
  refine K_scond rfl (fun hc => ?_) (fun hc => ?_)
  · rw [hc] at hbd
    refine K_ss (K_reg (Wops_run rfl rfl (Wops_run rfl rfl (Wops_run rfl rfl (K_fin [(6, _), (7, _), (8, _)] rfl (?_))))))
    refine K_sret (Told.mk _ rfl ⟨?_, rfl⟩)
    rw [← hr]; unfold rdL; rw [if_pos (of_decide_eq_true hbd.symm)]; rfl
  rw [hc] at hbd
  have hng := of_decide_eq_false hbd.symm
  have hp7 := p7 h7 hs
  have hlt : v + x % 128 * 2 ^ (7 * i) < 2 ^ (7 * (i + 1)) := by
    rw [pow7]
    have h1 : x % 128 + 1 ≤ 128 := by omega
    have h2 := Nat.mul_le_mul_right (2 ^ (7 * i)) h1
    rw [Nat.add_mul, Nat.one_mul] at h2
    omega
  have hb64 : x % 128 * 2 ^ (7 * i) < 18446744073709551616 := by
    by_cases hl : size ≤ 7 * i + 7
    · have hok : x < 128 ∧ x / 2 ^ (size - 7 * i) = 0 := Decidable.byContradiction fun q => hng ⟨hl, q⟩
      have h1 : x < 2 ^ (size - 7 * i) := by
        have := hok.2
        rw [Nat.div_eq_zero_iff] at this
        rcases this with r | r
        · exact absurd r (by have := Nat.two_pow_pos (size - 7 * i); omega)
        · exact r
      have h2 : x * 2 ^ (7 * i) < 2 ^ (size - 7 * i) * 2 ^ (7 * i) := Nat.mul_lt_mul_of_pos_right h1 (Nat.two_pow_pos _)
      rw [← Nat.pow_add] at h2
      have h3 : (2 : Nat) ^ (size - 7 * i + 7 * i) ≤ 2 ^ 64 := Nat.pow_le_pow_right (by decide) (by omega)
      have h4 : x % 128 = x := Nat.mod_eq_of_lt hok.1
      rw [h4]
      exact Nat.lt_of_lt_of_le h2 h3
    · have h3 : (2 : Nat) ^ (7 * (i + 1)) ≤ 2 ^ 64 := Nat.pow_le_pow_right (by decide) (by omega)
      have h4 : (2 : Nat) ^ 64 = 18446744073709551616 := rfl
      omega
  refine K_sskip (K_reg (Wops_run rfl rfl (Wops_run rfl rfl (Wops_as (w := .int .u8 ((x % 128 : Nat) : Int)) rfl rfl (Option.some.inj (and127b hxi)) (Wops_as (w := .int .u64 ((x % 128 : Nat) : Int)) rfl rfl (by rw [wr64m, Nat.mod_eq_of_lt (by omega)]) (Wops_run rfl rfl (Wops_as (w := .int .u64 ((x % 128 * 2 ^ (7 * i) : Nat) : Int)) rfl rfl ?_ (Wops_as (w := .int .u64 ((v + x % 128 * 2 ^ (7 * i) : Nat) : Int)) rfl rfl ?_ (Wops_run rfl rfl (K_fin [(0, _), (1, _), (2, _), (6, _), (7, _), (9, _), (10, _)] rfl (?_)))))))))))
  · show (binV .shl (.int .u64 ((x % 128 : Nat) : Int)) (.int .i64 ((7 * i : Nat) : Int))).getD .nilFunc = _
    rw [shlN (by omega) hb64]; rfl
  · show (binV .or (.int .u64 (v : Int)) (.int .u64 ((x % 128 * 2 ^ (7 * i) : Nat) : Int))).getD .nilFunc = _
    rw [orN (by omega) hb64, orAdd hv]; rfl
  refine K_ss (K_reg (Wops_run rfl rfl (Wops_as (w := .int .u8 ((if x < 128 then 0 else 128 : Nat) : Int)) rfl rfl (Option.some.inj (and128b hxi)) ?_)))
  conv at hr => lhs; unfold rdL
  rw [if_neg hng] at hr
  by_cases h1 : x < 128
  · rw [if_pos h1]
    rw [if_pos h1] at hr
    refine Wops_run rfl rfl (K_fin [(0, _), (1, _), (2, _), (6, _), (7, _), (9, _), (10, _), (45, _)] rfl (?_))
    refine K_scond rfl (fun hc => by cases hc) (fun _ => ?_)
    refine K_sskip (K_ss (K_reg (Wops_run rfl rfl (Wops_run rfl rfl (Wops_skip rfl (Wops_skip rfl (Wops_skip rfl (Wops_run rfl rfl (Wops_run rfl rfl (Wops_skip rfl (Wops_skip rfl (Wops_skip rfl (Wops_run rfl rfl (K_fin [(6, _), (7, _), (9, _), (56, _)] rfl (?_)))))))))))))))
    refine K_scond rfl (fun hc => by cases hc) (fun _ => ?_)
    refine K_sskip (K_reg (Wops_run rfl rfl (Wops_run rfl rfl (Wops_run rfl rfl (Wops_run rfl rfl (Wops_run rfl rfl (K_fin [(6, _), (7, _), (8, _)] rfl (?_))))))))
    refine K_ret (Told.mk _ rfl ⟨?_, rfl⟩)
    rw [← hr, Nat.mod_eq_of_lt h1]; rfl
  · rw [if_neg h1]
    rw [if_neg h1] at hr
    refine Wops_run rfl rfl (K_fin [(0, _), (1, _), (2, _), (6, _), (7, _), (9, _), (10, _), (45, _)] rfl (?_))
    refine K_scond rfl (fun _ => ?_) (fun hc => by cases hc)
    refine K_sexit (bx_same ?_)
    have h8 : 7 * (i + 1) < size := by
      have : ¬ size ≤ 7 * i + 7 := fun q => hng ⟨q, fun r => h1 r.1⟩
      omega
    refine K_last (Wops_run rfl rfl (Wops_as (w := .int .i64 ((7 * (i + 1) : Nat) : Int)) rfl rfl (by rw [w64 (by omega)]; congr 1) (Wops_run rfl rfl (K_finL [(0, _), (1, _), (2, _), (6, _), (7, _), (9, _)] rfl (?_)))))
    exact ⟨n - (i + 1), by omega, i + 1, _, rfl, rfl, by omega, rfl, h8, hlt, hr⟩
/-- leb.U64 -/
theorem C87 {h : Heap} {a : Option Addr} {n c : Nat} {xs : List Nat} (s : SlA h 1 a n c (bys xs)) (hb : n ≤ 100000) (hx : ∀ x ∈ xs, x < 256) :
    Fn Try.prog 87 [.slice a n c] h fun v h' => v = rdV .u64 (rdL 64 0 0 xs) ∧ h = h' := by
  refine fnK F87.fok rfl ?_
  refine K_reg (Wops_run rfl rfl (Wops_run rfl rfl (Wops_run rfl rfl (K_fin [(0, _)] rfl (?_)))))
  refine K_reg (Wops_run rfl rfl (Wops_call rfl (C96 s hb hx (size := 64) (by decide) (by decide)) ?_))
  rintro _ _ ⟨rfl, rfl⟩
  refine Wops_run rfl rfl (Wops_run rfl rfl (Wops_run rfl rfl (Wops_run rfl rfl (Wops_run rfl rfl (Wops_run rfl rfl (K_fin [(2, _), (3, _), (4, _)] rfl (?_)))))))
  exact K_ret (Told.mk _ rfl ⟨rfl, rfl⟩)
theorem rdL_lt {size : Nat} : ∀ (xs : List Nat) (i v : Nat), v < 2 ^ (7 * i) → 7 * i < size → (∀ x ∈ xs, x < 256) → (rdL size i v xs).1 < 2 ^ size
  | [], i, v, _, _, _ => Nat.two_pow_pos _
  | x :: r, i, v, hv, h7, hx => by
    unfold rdL
    have hxi := hx x (by simp)
    split
    · exact Nat.two_pow_pos _
    · rename_i hng
      split
      · rename_i h1
        show v + x * 2 ^ (7 * i) < _
        by_cases hl : size ≤ 7 * i + 7
        · have hok : x < 128 ∧ x / 2 ^ (size - 7 * i) = 0 := Decidable.byContradiction fun q => hng ⟨hl, q⟩
          have h1 : x < 2 ^ (size - 7 * i) := by
            have := hok.2
            rw [Nat.div_eq_zero_iff] at this
            rcases this with r | r
            · exact absurd r (by have := Nat.two_pow_pos (size - 7 * i); omega)
            · exact r
          have h2 := Nat.mul_le_mul_right (2 ^ (7 * i)) (show x + 1 ≤ _ from h1)
          rw [← Nat.pow_add, Nat.add_mul, Nat.one_mul] at h2
          have h3 : size - 7 * i + 7 * i = size := by omega
          rw [h3] at h2
          omega
        · have h2 := Nat.mul_le_mul_right (2 ^ (7 * i)) (show x + 1 ≤ 128 by omega)
          rw [← pow7, Nat.add_mul, Nat.one_mul] at h2
          have h3 : (2 : Nat) ^ (7 * (i + 1)) ≤ 2 ^ size := Nat.pow_le_pow_right (by decide) (by omega)
          omega
      · rename_i h1
        have h8 : 7 * (i + 1) < size := by
          have : ¬ size ≤ 7 * i + 7 := fun q => hng ⟨q, fun r => h1 r.1⟩
          omega
        refine rdL_lt r (i + 1) _ ?_ h8 fun y hy => hx y (by simp [hy])
        rw [pow7]
        have h2 := Nat.mul_le_mul_right (2 ^ (7 * i)) (show x % 128 + 1 ≤ 128 by omega)
        rw [Nat.add_mul, Nat.one_mul] at h2
        omega
/-- leb.U32 -/
theorem C97 {h : Heap} {a : Option Addr} {n c : Nat} {xs : List Nat} (s : SlA h 1 a n c (bys xs)) (hb : n ≤ 100000) (hx : ∀ x ∈ xs, x < 256) :
    Fn Try.prog 97 [.slice a n c] h fun v h' => v = rdV .u32 (rdL 32 0 0 xs) ∧ h = h' := by
  have hlt := rdL_lt (size := 32) xs 0 0 (by decide) (by decide) hx
  refine fnK F97.fok rfl ?_
  refine K_reg (Wops_run rfl rfl (Wops_run rfl rfl (Wops_run rfl rfl (K_fin [(0, _)] rfl (?_)))))
  refine K_reg (Wops_run rfl rfl (Wops_call rfl (C96 s hb hx (size := 32) (by decide) (by decide)) ?_))
  rintro _ _ ⟨rfl, rfl⟩
  refine Wops_run rfl rfl (Wops_run rfl rfl (Wops_run rfl rfl (Wops_run rfl rfl (Wops_run rfl rfl (Wops_run rfl rfl (Wops_run rfl rfl (K_fin [(3, _), (4, _), (5, _)] rfl (?_))))))))
  refine K_reg (Wops_run rfl rfl (Wops_as (w := .int .u32 (((rdL 32 0 0 xs).1 : Nat) : Int)) rfl rfl (by rw [wr32m, Nat.mod_eq_of_lt hlt]) (Wops_run rfl rfl (Wops_run rfl rfl (Wops_run rfl rfl (Wops_run rfl rfl (Wops_run rfl rfl (K_fin [(2, _), (3, _), (4, _)] rfl (?_)))))))))
  exact K_ret (Told.mk _ rfl ⟨rfl, rfl⟩)
end Go.Dx.SYtkppbmhpcjjceaa
