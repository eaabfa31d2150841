/- OpNames: both lists of names, and the walk. -/
import Derived.Test.YtfhdeagbgdnkaaaOp1
namespace Go.Dx.SYtfhdeagbgdnkaaa
open Go.Proofs
set_option linter.unusedVariables false
set_option linter.unusedSimpArgs false

def is64 (xs : List Int) : List Value := xs.map (Value.int .i64)
def nm (ok : Int → Bool) (b : Int) (j : Nat) : List Int := ((List.range j).filter fun m : Nat => ok (b + m)).map fun m : Nat => b + m
theorem nm_succ (ok : Int → Bool) (b : Int) (j : Nat) : nm ok b (j + 1) = nm ok b j ++ if ok (b + j) = true then [b + j] else [] := by
  unfold nm
  rw [List.range_succ, List.filter_append, List.map_append]
  by_cases h : ok (b + j) = true <;> simp [h]
theorem nm_split (ok : Int → Bool) (b : Int) (i : Nat) : ∀ j, nm ok b (i + j) = nm ok b i ++ nm ok (b + i) j
  | 0 => by simp [nm]
  | j + 1 => by
    rw [← Nat.add_assoc, nm_succ, nm_split ok b i j, nm_succ, List.append_assoc]
    have e : b + ((i + j : Nat) : Int) = b + i + j := by omega
    rw [e]
theorem nm_none {ok : Int → Bool} {b : Int} : ∀ {j : Nat}, (∀ m : Nat, m < j → ok (b + m) = false) → nm ok b j = []
  | 0, _ => rfl
  | j + 1, h => by rw [nm_succ, nm_none fun m hm => h m (by omega), h j (by omega)]; rfl
theorem nm_same {ok ok' : Int → Bool} {b : Int} : ∀ {j : Nat}, (∀ m : Nat, m < j → ok (b + m) = ok' (b + m)) → nm ok b j = nm ok' b j
  | 0, _ => rfl
  | j + 1, h => by rw [nm_succ, nm_succ, nm_same fun m hm => h m (by omega), h j (by omega)]
theorem nm_len (ok : Int → Bool) (b : Int) : ∀ j, (nm ok b j).length ≤ j
  | 0 => Nat.le_refl _
  | j + 1 => by
    have := nm_len ok b j
    rw [nm_succ, List.length_append]
    split <;> simp <;> omega
theorem nm_ok {ok : Int → Bool} {b : Int} {j : Nat} {x : Int} (h : x ∈ nm ok b j) : ok x = true := by
  unfold nm at h
  obtain ⟨m, hm, rfl⟩ := List.mem_map.1 h
  exact (List.mem_filter.1 hm).2

noncomputable def kdd (n : Int) : Option (Int × Int) := match fnR T 400 17 [.int .i64 n] Heap.empty with
  | some (.tuple ⟨[.int .i64 a, .int .i64 b]⟩, _) => some (a, b)
  | _ => none
theorem C17 {h : Heap} {n a b : Int} (hk : kdd n = some (a, b)) : Fn Try.prog 17 [.int .i64 n] h fun v h' => v = .tuple ⟨[.int .i64 a, .int .i64 b]⟩ ∧ h = h' := by
  refine Fn.anywhere (R := fun v => v = .tuple ⟨[.int .i64 a, .int .i64 b]⟩) rfl (Q := fun v _ => v = .tuple ⟨[.int .i64 a, .int .i64 b]⟩) ?_ fun v h' q => ⟨by rw [q]; rfl, q⟩
  unfold kdd at hk
  split at hk
  · rename_i a' b' h' hq
    simp only [Option.some.injEq, Prod.mk.injEq] at hk
    obtain ⟨rfl, rfl⟩ := hk
    rw [fnR_eq] at hq
    refine (dfn_ok T.ok 400 _ _ _ _ _ hq).mono ?_
    rintro v1 h1 ⟨rfl, _⟩
    rfl
  · cases hk
noncomputable def okd (n : Int) : Bool := match kdd n with
  | some (_, b) => b == 0
  | none => false
noncomputable def both (n : Int) : Bool := match kdd n with
  | some (_, b) => (b == 0) == okk n
  | none => false
set_option maxRecDepth 100000 in
theorem both_a0 : allB (fun m => both (0 + (m : Int))) 64 0 = true := by kernel_rfl
set_option maxRecDepth 100000 in
theorem both_a1 : allB (fun m => both (0 + (m : Int))) 64 64 = true := by kernel_rfl
set_option maxRecDepth 100000 in
theorem both_a2 : allB (fun m => both (0 + (m : Int))) 64 128 = true := by kernel_rfl
set_option maxRecDepth 100000 in
theorem both_a3 : allB (fun m => both (0 + (m : Int))) 64 192 = true := by kernel_rfl
theorem both_a {m : Nat} (h : m < 256) : both (0 + (m : Int)) = true := by
  by_cases h0 : m < 64
  · exact allB_ok (g := fun m => both (0 + (m : Int))) 64 0 both_a0 m (by omega) (by omega)
  by_cases h1 : m < 128
  · exact allB_ok (g := fun m => both (0 + (m : Int))) 64 64 both_a1 m (by omega) (by omega)
  by_cases h2 : m < 192
  · exact allB_ok (g := fun m => both (0 + (m : Int))) 64 128 both_a2 m (by omega) (by omega)
  exact allB_ok (g := fun m => both (0 + (m : Int))) 64 192 both_a3 m (by omega) (by omega)
set_option maxRecDepth 100000 in
theorem both_b0 : allB (fun m => both (64512 + (m : Int))) 64 0 = true := by kernel_rfl
set_option maxRecDepth 100000 in
theorem both_b1 : allB (fun m => both (64512 + (m : Int))) 64 64 = true := by kernel_rfl
set_option maxRecDepth 100000 in
theorem both_b2 : allB (fun m => both (64512 + (m : Int))) 64 128 = true := by kernel_rfl
set_option maxRecDepth 100000 in
theorem both_b3 : allB (fun m => both (64512 + (m : Int))) 64 192 = true := by kernel_rfl
theorem both_b {m : Nat} (h : m < 256) : both (64512 + (m : Int)) = true := by
  by_cases h0 : m < 64
  · exact allB_ok (g := fun m => both (64512 + (m : Int))) 64 0 both_b0 m (by omega) (by omega)
  by_cases h1 : m < 128
  · exact allB_ok (g := fun m => both (64512 + (m : Int))) 64 64 both_b1 m (by omega) (by omega)
  by_cases h2 : m < 192
  · exact allB_ok (g := fun m => both (64512 + (m : Int))) 64 128 both_b2 m (by omega) (by omega)
  exact allB_ok (g := fun m => both (64512 + (m : Int))) 64 192 both_b3 m (by omega) (by omega)
theorem both_ok {n : Int} (h : both n = true) : (∃ a b, kdd n = some (a, b)) ∧ okd n = okk n := by
  unfold both at h
  unfold okd
  split at h
  · rename_i a b hk
    rw [hk]
    exact ⟨⟨a, b, rfl⟩, by simpa using h⟩
  · cases h
noncomputable def badd (n : Int) : Bool := match kdd n with
  | some (_, b) => !(b == 0)
  | none => false
theorem bad254 : badd 254 = true := by kernel_rfl
theorem kdd254 : (∃ a b, kdd 254 = some (a, b)) ∧ okd 254 = false := by
  have h := bad254
  unfold badd at h
  unfold okd
  split at h
  · rename_i a b hk
    rw [hk]
    exact ⟨⟨a, b, rfl⟩, by simpa using h⟩
  · cases h
theorem cs_gap : opCs.all (fun c => decide (c ≤ 253) || decide (64512 ≤ c)) = true := by decide
theorem kdd_mid {n : Int} (h1 : 254 ≤ n) (h2 : n < 64512) : kdd n = kdd 254 := by
  unfold kdd
  rw [fnR_eq, cfn_same (K := .i64) (x := n) (y := 254) (Cs := opCs) (G := opG) (fun c hc => by
    have := List.all_eq_true.1 cs_gap c hc
    simp at this
    omega) op_fns 400 17 (by decide) Heap.empty]
theorem kdd_all {n : Nat} (h : n < 64768) : ∃ a b, kdd ((0 : Int) + n) = some (a, b) := by
  by_cases h1 : n < 256
  · exact (both_ok (both_a (m := n) (by omega))).1
  by_cases h2 : n < 64512
  · rw [kdd_mid (by omega) (by omega)]; exact kdd254.1
  · have := (both_ok (both_b (m := n - 64512) (by omega))).1
    rw [show (0 : Int) + n = 64512 + ((n - 64512 : Nat) : Int) by omega]; exact this
noncomputable def names : List Int := nm okk 0 256 ++ nm okk 64512 256
theorem names_doc : nm okd 0 64768 = names := by
  have e : (64768 : Nat) = 256 + (64256 + 256) := rfl
  rw [e, nm_split, nm_split]
  have a : nm okd 0 256 = nm okk 0 256 := nm_same fun m hm => (both_ok (both_a (m := m) (by omega))).2
  have b : nm okd (0 + ((256 : Nat) : Int)) 64256 = [] := nm_none fun m hm => by
    have h := kdd254.2
    unfold okd at h ⊢
    rw [kdd_mid (by omega) (by omega)]; exact h
  have c : nm okd (0 + ((256 : Nat) : Int) + ((64256 : Nat) : Int)) 256 = nm okk 64512 256 := nm_same (b := 64512) fun m hm => (both_ok (both_b (m := m) (by omega))).2
  rw [a, b, c]; rfl
end Go.Dx.SYtfhdeagbgdnkaaa
