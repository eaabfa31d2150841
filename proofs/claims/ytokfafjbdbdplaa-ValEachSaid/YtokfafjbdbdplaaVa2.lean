/- ValEach: the walk to its runs. -/
import Derived.Test.YtokfafjbdbdplaaVa1
import Derived.Test.YtokfafjbdbdplaaVaE7
namespace Go.Dx.SYtokfafjbdbdplaa
open Go.Proofs
set_option linter.unusedVariables false
set_option linter.unusedSimpArgs false

theorem C9 {op : Int} {out : Bool} {a : Option Addr} {n c : Nat} {L : List (List Value)} (ho : 0 ≤ op ∧ op ≤ 255) (hv : BoolsIn (.slice a n c) L) : Fn Try.prog 9 [.int .u8 op, .slice a n c, .bool out] (flatH L) fun v _ => v = .bool true := by
  obtain ⟨m, hm, hme⟩ : ∃ m : Nat, m < 70 ∧ op.tmod 70 = m := by
    have h1 := Int.tmod_nonneg 70 ho.1
    have h2 := Int.tmod_lt_of_pos op (show (0 : Int) < 70 by omega)
    exact ⟨(op.tmod 70).toNat, by omega, by omega⟩
  refine fnK F9.fok rfl ?_
  refine K_reg (Wops_run rfl rfl (K_fin [(0, _), (1, _), (2, _)] rfl (?_)))
  refine K_ss (K_reg (Wops_call rfl C34 ?_))
  rintro _ _ ⟨rfl, rfl⟩
  refine Wops_run rfl rfl (K_fin [(0, _), (1, _), (2, _), (17, _)] rfl (?_))
  refine K_scond rfl (fun hc => by cases hc) (fun _ => ?_)
  refine K_sskip (K_ss (K_reg (Wops_run rfl rfl (Wops_run rfl rfl (Wops_run rfl rfl (K_fin [(0, _), (1, _), (2, _), (20, _)] rfl (?_)))))))
  refine K_scond rfl (fun hc => ?_) (fun hc => ?_)
  · refine K_ss (K_reg (Wops_run rfl rfl (K_fin [(6, _)] rfl (?_))))
    exact K_sret (Told.mk _ rfl rfl)
  have h3 : n ≤ 3 := by have := of_decide_eq_false hc; omega
  refine K_sskip (K_reg (Wops_run rfl rfl (Wops_as (w := .int .i64 op) rfl rfl (by rw [w64 (by omega)]) (Wops_rem rfl rfl (by decide) (Wops_as (w := .int .i64 ((69 + m : Nat) : Int)) rfl rfl (by rw [hme, w64 (by omega)]; rfl) (Wops_run rfl rfl (K_fin [(1, _), (2, _), (7, _)] rfl (?_))))))))
  have hr : erun (69 + m) out (.slice a n c) (flatH L) = true := lsts_ok (ve_all m out hm) hv h3
  exact W_tells (n := 400) (c := SCode.rest 4 F9.code) T.ok hr fun _ => rfl
theorem wf_u8 {n : Int} (h : (Lit.int .u8 n).wf = true) : 0 ≤ n ∧ n ≤ 255 := by
  simp [Lit.wf, IntKind.min, IntKind.max, IntKind.signed, IntKind.bits] at h; omega
set_option maxRecDepth 100000 in
theorem valEach_fn {L : List (List Value)} {vs : List Value} (hG : FlatG Try.prog 0 [5, 99, 4] vs L) : Fn Try.prog 9 vs (flatH L) fun v _ => v = .bool true := by
  obtain ⟨v, r, rfl, hv, hF⟩ := flat_scal (P := Try.prog) (k := 0) (t := 5) (ts := [99, 4]) (L' := L) (by rw [Try.underlying5]; simp) hG
  obtain ⟨b, rfl, hb0⟩ := scal_int Try.underlying5 hv
  obtain ⟨v, r, k, rfl, hb, hF2⟩ := bools_in (ts := [4]) Try.underlying99 Try.underlying4 hF fun k r L' => flat_scals [4] (by intro t ht e; simp at ht; subst ht; rw [Try.underlying4]; simp) k r L'
  obtain ⟨a, n, c, rfl⟩ := hb.nof
  obtain ⟨v, r, rfl, hv, hF3⟩ := flat_scal (P := Try.prog) (k := k) (t := 4) (ts := []) (L' := []) (by rw [Try.underlying4]; simp) hF2
  obtain ⟨b2, rfl⟩ := scal_bool Try.underlying4 hv
  obtain rfl := flat_nil hF3
  exact C9 (wf_u8 hb0) hb
end Go.Dx.SYtokfafjbdbdplaa
