/- OpAll: runs of the kernel at numbers that lie alike, and the walk to them. -/
import Derived.Test.YtfhdeagbgdnkaaaOp0
import Derived.Test.YtfhdeagbgdnkaaaDx36
namespace Go.Dx.SYtfhdeagbgdnkaaa
open Go.Proofs
set_option linter.unusedVariables false
set_option linter.unusedSimpArgs false

def opCs : List Int := [0, 1, 2, 3, 4, 5, 11, 12, 13, 14, 15, 16, 17, 26, 27, 28, 32, 33, 34, 35, 36, 37, 38, 40, 41, 42, 43, 44, 45, 46, 47, 48, 49, 50, 51, 52, 53, 54, 55, 56, 57, 58, 59, 60, 61, 62, 63, 64, 65, 66, 67, 68, 69, 90, 91, 102, 103, 138, 139, 166, 167, 168, 171, 172, 173, 174, 191, 192, 196, 208, 209, 210, 253, 64512, 64519, 64520, 64521, 64522, 64523, 64524, 64525, 64526, 64527, 64528, 64529, 64768, 65023, 65024]
def opG : List Nat := [16, 17, 18, 19, 43, 44, 45]
def opF : Nat → List Nat
  | 16 => [0, 4]
  | 18 => [0, 3]
  | 19 => [0, 3]
  | _ => [0]
theorem op_fns : cfns .i64 opCs T opF opG = true := by kernel_rfl
theorem op_rest : ccode .i64 opCs opG [0] (SCode.rest 2 F3.code) = true := by kernel_rfl
noncomputable def oprun (y : Int) : Bool := tells F3.res (codeR (fnR T 400) 400 (SCode.rest 2 F3.code) [(0, .int .i64 y), (8, .bool false)] (flatH []))
def opL0 : List Int := [(-9223372036854775808), 0, 1, 2, 3, 4, 5, 6, 11, 12, 13, 14, 15, 16, 17, 18]
set_option maxRecDepth 100000 in
theorem op_runs0 : allI oprun opL0 = true := by kernel_rfl
def opL1 : List Int := [26, 27, 28, 29, 32, 33, 34, 35, 36, 37, 38, 39, 40, 41, 42, 43]
set_option maxRecDepth 100000 in
theorem op_runs1 : allI oprun opL1 = true := by kernel_rfl
def opL2 : List Int := [44, 45, 46, 47, 48, 49, 50, 51, 52, 53, 54, 55, 56, 57, 58, 59]
set_option maxRecDepth 100000 in
theorem op_runs2 : allI oprun opL2 = true := by kernel_rfl
def opL3 : List Int := [60, 61, 62, 63, 64, 65, 66, 67, 68, 69, 70, 90, 91, 92, 102, 103]
set_option maxRecDepth 100000 in
theorem op_runs3 : allI oprun opL3 = true := by kernel_rfl
def opL4 : List Int := [104, 138, 139, 140, 166, 167, 168, 169, 171, 172, 173, 174, 175, 191, 192, 193]
set_option maxRecDepth 100000 in
theorem op_runs4 : allI oprun opL4 = true := by kernel_rfl
def opL5 : List Int := [196, 197, 208, 209, 210, 211, 253, 254, 64512, 64513, 64519, 64520, 64521, 64522, 64523, 64524]
set_option maxRecDepth 100000 in
theorem op_runs5 : allI oprun opL5 = true := by kernel_rfl
def opL6 : List Int := [64525, 64526, 64527, 64528, 64529, 64530, 64768, 64769, 65023, 65024, 65025]
set_option maxRecDepth 100000 in
theorem op_runs6 : allI oprun opL6 = true := by kernel_rfl
def opAll : List Int := opL0 ++ (opL1 ++ (opL2 ++ (opL3 ++ (opL4 ++ (opL5 ++ (opL6))))))
theorem op_in : ((-9223372036854775809 + 1) :: opCs.flatMap fun c => [c, c + 1]).all (fun y => opAll.contains y) = true := by kernel_rfl
theorem op_sorted : List.Pairwise (· < ·) ((-9223372036854775809 : Int) :: opCs) := by decide
theorem op_at {y : Int} (h : y ∈ opAll) : oprun y = true := by
  simp only [opAll, List.mem_append] at h
  rcases h with h | h | h | h | h | h | h
  · exact allI_ok op_runs0 y h
  · exact allI_ok op_runs1 y h
  · exact allI_ok op_runs2 y h
  · exact allI_ok op_runs3 y h
  · exact allI_ok op_runs4 y h
  · exact allI_ok op_runs5 y h
  · exact allI_ok op_runs6 y h
theorem C3 {x : Int} (hx : -9223372036854775808 ≤ x) : Fn Try.prog 3 [.int .i64 x] (flatH []) fun v _ => v = .bool true := by
  obtain ⟨y, hy, _, hc⟩ := lies_alike (x := x) opCs (-9223372036854775809) (by omega) op_sorted
  have hr : oprun y = true := op_at (by have := List.all_eq_true.1 op_in y hy; simpa using this)
  refine fnK F3.fok rfl ?_
  refine K_reg (Wops_run rfl rfl (K_fin [(0, _)] rfl (?_)))
  refine K_ss (K_reg (Wops_call rfl C15op ?_))
  rintro _ _ ⟨rfl, rfl⟩
  refine Wops_run rfl rfl (K_fin [(0, _), (8, _)] rfl (?_))
  refine K_scond rfl (fun hc => by cases hc) (fun _ => ?_)
  refine K_sskip ?_
  refine W_tells (n := 400) (c := SCode.rest 2 F3.code) T.ok (ctells (K := .i64) (x := x) (y := y) (F := [0]) hc op_fns op_rest rfl ⟨fun s => ?_⟩ hr) fun _ => rfl
  by_cases hs : s = 0
  · subst hs; exact .inr ⟨by simp, rfl, rfl⟩
  · refine .inl ?_
    have e : Nat.beq 0 s = false := by rw [beq_iff]; simp [Ne.symm hs]
    simp only [Env.get, e, cond_false]; rfl
set_option maxRecDepth 100000 in
theorem opAll_fn {L : List (List Value)} {vs : List Value} (hG : FlatG Try.prog 0 [3] vs L) : Fn Try.prog 3 vs (flatH L) fun v _ => v = .bool true := by
  have hL := flat_scals [3] (by intro t ht e; simp at ht; subst ht; rw [Try.underlying3]; simp) 0 vs L hG
  subst hL
  obtain ⟨v, r, rfl, hv, hF⟩ := flat_scal (P := Try.prog) (k := 0) (t := 3) (ts := []) (L' := []) (by rw [Try.underlying3]; simp) hG
  obtain ⟨x, rfl, hx⟩ := scal_int Try.underlying3 hv
  obtain rfl := flat_nil hF
  exact C3 (by simp [Lit.wf, IntKind.min, IntKind.max, IntKind.signed, IntKind.bits] at hx; omega)
end Go.Dx.SYtfhdeagbgdnkaaa
