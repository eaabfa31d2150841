/- ValDead: the walk to its runs. -/
import Derived.Test.YtokfafjbdbdplaaVa1
import Derived.Test.YtokfafjbdbdplaaVaD6
namespace Go.Dx.SYtokfafjbdbdplaa
open Go.Proofs
set_option linter.unusedVariables false
set_option linter.unusedSimpArgs false

theorem wf_u8 {n : Int} (h : (Lit.int .u8 n).wf = true) : 0 ≤ n ∧ n ≤ 255 := by
  simp [Lit.wf, IntKind.min, IntKind.max, IntKind.signed, IntKind.bits] at h; omega
theorem mcode10_0 : mcode .u8 3 0 (SCode.rest 3 F10.code) = true := by kernel_rfl
theorem mcode10_2 : mcode .u8 8 2 (SCode.rest 3 F10.code) = true := by kernel_rfl
theorem C10 {way drops : Int} {a : Option Addr} {n c : Nat} {L : List (List Value)} (hw : 0 ≤ way ∧ way ≤ 255) (hd : 0 ≤ drops ∧ drops ≤ 255) (hv : BoolsIn (.slice a n c) L) : Fn Try.prog 10 [.int .u8 way, .slice a n c, .int .u8 drops] (flatH L) fun v _ => v = .bool true := by
  obtain ⟨w, hw1, hw2⟩ : ∃ w : Nat, w < 3 ∧ way.tmod 3 = (w : Int).tmod 3 := by
    have h1 := Int.tmod_nonneg 3 hw.1
    have h2 := Int.tmod_lt_of_pos way (show (0 : Int) < 3 by omega)
    refine ⟨(way.tmod 3).toNat, by omega, ?_⟩
    rw [Int.toNat_of_nonneg h1, Int.tmod_eq_of_lt h1 h2]
  obtain ⟨d, hd1, hd2⟩ : ∃ d : Nat, d < 8 ∧ drops.tmod 8 = (d : Int).tmod 8 := by
    have h1 := Int.tmod_nonneg 8 hd.1
    have h2 := Int.tmod_lt_of_pos drops (show (0 : Int) < 8 by omega)
    refine ⟨(drops.tmod 8).toNat, by omega, ?_⟩
    rw [Int.toNat_of_nonneg h1, Int.tmod_eq_of_lt h1 h2]
  refine fnK F10.fok rfl ?_
  refine K_reg (Wops_run rfl rfl (K_fin [(0, _), (1, _), (2, _)] rfl (?_)))
  refine K_ss (K_reg (Wops_call rfl C34 ?_))
  rintro _ _ ⟨rfl, rfl⟩
  refine Wops_run rfl rfl (K_fin [(0, _), (1, _), (2, _), (17, _)] rfl (?_))
  refine K_scond rfl (fun hc => by cases hc) (fun _ => ?_)
  refine K_sskip (K_ss (K_reg (Wops_run rfl rfl (Wops_run rfl rfl ?_))))
  by_cases hA : (4 : Int) < n
  · refine Wops_as (w := .bool true) rfl rfl (by rw [decide_eq_true hA]) (K_fin [(0, _), (1, _), (2, _), (20, _)] rfl (?_))
    refine K_scond rfl (fun _ => ?_) (fun hc => by cases hc)
    refine K_ss (K_reg (Wops_run rfl rfl (K_fin [(6, _)] rfl (?_))))
    exact K_sret (Told.mk _ rfl rfl)
  refine Wops_as (w := .bool false) rfl rfl (by rw [decide_eq_false hA]) (K_fin [(0, _), (1, _), (2, _), (20, _)] rfl (?_))
  refine K_scond rfl (fun hc => by cases hc) (fun _ => ?_)
  refine K_sskip ?_
  have hr : drun w d (.slice a n c) (flatH L) = true := lsts_ok (vd_all w d hw1 hd1) hv (by omega)
  have g : ∀ (v0 v1 v2 v3 : Value) (s : Nat), Env.get [(0, v0), (1, v1), (2, v2), (20, v3)] s = if s = 0 then some v0 else if s = 1 then some v1 else if s = 2 then some v2 else if s = 20 then some v3 else none := by
    intro v0 v1 v2 v3 s
    have e : ∀ k : Nat, k.beq s = decide (s = k) := fun k => by
      by_cases h : s = k
      · subst h; rw [Nat.beq_refl, decide_eq_true rfl]
      · rw [decide_eq_false h, beq_iff]; simp [Ne.symm h]
    simp only [Env.get, e]
    by_cases h0 : s = 0 <;> by_cases h1 : s = 1 <;> by_cases h2 : s = 2 <;> by_cases h3 : s = 20 <;> simp [h0, h1, h2, h3]
  have hr1 : tells F10.res (codeR (fnR T 400) 400 (SCode.rest 3 F10.code) [(0, .int .u8 w), (1, .slice a n c), (2, .int .u8 drops), (20, .bool false)] (flatH L)) = true :=
    tells_rel (K := .u8) (m := 8) (x := drops) (y := d) (t := 2) (by decide) hd2 mcode10_2 (by decide) (RelM.of rfl rfl fun s hs => by rw [g, g]; simp [hs]) hr
  have hr2 : tells F10.res (codeR (fnR T 400) 400 (SCode.rest 3 F10.code) [(0, .int .u8 way), (1, .slice a n c), (2, .int .u8 drops), (20, .bool false)] (flatH L)) = true :=
    tells_rel (K := .u8) (m := 3) (x := way) (y := w) (t := 0) (by decide) hw2 mcode10_0 (by decide) (RelM.of rfl rfl fun s hs => by rw [g, g]; simp [hs]) hr1
  exact W_tells (n := 400) (c := SCode.rest 3 F10.code) T.ok hr2 fun _ => rfl
set_option maxRecDepth 100000 in
theorem valDead_fn {L : List (List Value)} {vs : List Value} (hG : FlatG Try.prog 0 [5, 99, 5] vs L) : Fn Try.prog 10 vs (flatH L) fun v _ => v = .bool true := by
  obtain ⟨v, r, rfl, hv, hF⟩ := flat_scal (P := Try.prog) (k := 0) (t := 5) (ts := [99, 5]) (L' := L) (by rw [Try.underlying5]; simp) hG
  obtain ⟨b, rfl, hb0⟩ := scal_int Try.underlying5 hv
  obtain ⟨v, r, k, rfl, hb, hF2⟩ := bools_in (ts := [5]) Try.underlying99 Try.underlying4 hF fun k r L' => flat_scals [5] (by intro t ht e; simp at ht; subst ht; rw [Try.underlying5]; simp) k r L'
  obtain ⟨a, n, c, rfl⟩ := hb.nof
  obtain ⟨v, r, rfl, hv, hF3⟩ := flat_scal (P := Try.prog) (k := k) (t := 5) (ts := []) (L' := []) (by rw [Try.underlying5]; simp) hF2
  obtain ⟨b2, rfl, hb2⟩ := scal_int Try.underlying5 hv
  obtain rfl := flat_nil hF3
  exact C10 (wf_u8 hb0) (wf_u8 hb2) hb
end Go.Dx.SYtokfafjbdbdplaa
