/- ValBranches: the kernel's runs, and the walk to them. -/
import Derived.Test.YtokfafjbdbdplaaDxVT
import Derived.Test.YtokfafjbdbdplaaDx34
namespace Go.Dx.SYtokfafjbdbdplaa
open Go.Proofs
set_option linter.unusedVariables false
set_option linter.unusedSimpArgs false

set_option maxRecDepth 100000 in
theorem begun34_run : isTrue (fnR T 400 34 [] Heap.empty) = true := by kernel_rfl
theorem C34 {h : Heap} : Fn Try.prog 34 [] h fun v h' => v = .bool true ∧ h = h' :=
  Fn.anywhere (R := fun v => v = .bool true) rfl (fn_of_true T.ok begun34_run) fun v h' q => ⟨by rw [q]; rfl, q⟩

noncomputable def brun (loop far : Bool) (v : Value) (h : Heap) : Bool := tells F12.res (codeR (fnR T 400) 400 (SCode.rest 3 F12.code) [(0, .bool loop), (1, v), (2, .bool far), (19, .bool false)] h)
set_option maxRecDepth 100000 in
theorem br_true_true : lsts 3 (brun true true) = true := by kernel_rfl
set_option maxRecDepth 100000 in
theorem br_true_false : lsts 3 (brun true false) = true := by kernel_rfl
set_option maxRecDepth 100000 in
theorem br_false_true : lsts 3 (brun false true) = true := by kernel_rfl
set_option maxRecDepth 100000 in
theorem br_false_false : lsts 3 (brun false false) = true := by kernel_rfl
theorem branches_runs : ∀ loop far, lsts 3 (brun loop far) = true
  | true, true => br_true_true
  | true, false => br_true_false
  | false, true => br_false_true
  | false, false => br_false_false
theorem C12 {loop far : Bool} {a : Option Addr} {n c : Nat} {L : List (List Value)} (hv : BoolsIn (.slice a n c) L) : Fn Try.prog 12 [.bool loop, .slice a n c, .bool far] (flatH L) fun v _ => v = .bool true := by
  refine fnK F12.fok rfl ?_
  refine K_reg (Wops_run rfl rfl (K_fin [(0, _), (1, _), (2, _)] rfl (?_)))
  refine K_ss (K_reg (Wops_call rfl C34 ?_))
  rintro _ _ ⟨rfl, rfl⟩
  refine Wops_run rfl rfl (K_fin [(0, _), (1, _), (2, _), (16, _)] rfl (?_))
  refine K_scond rfl (fun hc => by cases hc) (fun _ => ?_)
  refine K_sskip (K_ss (K_reg (Wops_run rfl rfl (Wops_run rfl rfl ?_))))
  by_cases hA : (3 : Int) < n
  · refine Wops_as (w := .bool true) rfl rfl (by rw [decide_eq_true hA]) (K_fin [(0, _), (1, _), (2, _), (19, _)] rfl (?_))
    refine K_scond rfl (fun _ => ?_) (fun hc => by cases hc)
    refine K_ss (K_reg (Wops_run rfl rfl (K_fin [(6, _)] rfl (?_))))
    exact K_sret (Told.mk _ rfl rfl)
  refine Wops_as (w := .bool false) rfl rfl (by rw [decide_eq_false hA]) (K_fin [(0, _), (1, _), (2, _), (19, _)] rfl (?_))
  refine K_scond rfl (fun hc => by cases hc) (fun _ => ?_)
  have h3 : n ≤ 3 := by omega
  refine K_sskip ?_
  have hr : brun loop far (.slice a n c) (flatH L) = true := lsts_ok (branches_runs loop far) hv h3
  exact W_tells (n := 400) (c := SCode.rest 3 F12.code) T.ok hr fun _ => rfl
set_option maxRecDepth 100000 in
theorem valBranches_fn {L : List (List Value)} {vs : List Value} (hG : FlatG Try.prog 0 [4, 99, 4] vs L) : Fn Try.prog 12 vs (flatH L) fun v _ => v = .bool true := by
  obtain ⟨v, r, rfl, hv, hF⟩ := flat_scal (P := Try.prog) (k := 0) (t := 4) (ts := [99, 4]) (L' := L) (by rw [Try.underlying4]; simp) hG
  obtain ⟨b, rfl⟩ := scal_bool Try.underlying4 hv
  obtain ⟨v, r, k, rfl, hb, hF2⟩ := bools_in (ts := [4]) Try.underlying99 Try.underlying4 hF fun k r L' => flat_scals [4] (by intro t ht e; simp at ht; subst ht; rw [Try.underlying4]; simp) k r L'
  obtain ⟨a, n, c, rfl⟩ := hb.nof
  obtain ⟨v, r, rfl, hv, hF3⟩ := flat_scal (P := Try.prog) (k := k) (t := 4) (ts := []) (L' := []) (by rw [Try.underlying4]; simp) hF2
  obtain ⟨b2, rfl⟩ := scal_bool Try.underlying4 hv
  obtain rfl := flat_nil hF3
  exact C12 hb
end Go.Dx.SYtokfafjbdbdplaa
