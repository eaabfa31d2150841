/- Texts merged: YtfhdeagbgdnkaaaMd4.lean. -/
import Derived.Test.YtfhdeagbgdnkaaaMx
namespace Go.Dx.SYtfhdeagbgdnkaaa
open Go.Proofs
section
/- Made modules: stmt (printed by gmd.py). -/
set_option linter.unusedVariables false
set_option linter.unusedSimpArgs false

set_option maxHeartbeats 4000000 in
/-- maker.stmt, where a number is left -/
theorem E59 {K : Kt} {R : Nat} (H : AllAt K R) {h : Heap} {s : St} {d : Int} (m : Mk K h s) (hl : s.n < K.xs.length) (r0 : K.xs.length ≤ s.n + (R + 1)) (p0 : pot K s ≤ 100000) :
    Fn Try.prog 59 [ptr K.pk, .int .i64 d] h fun v h' => Adds K h s s [] [] 0 h' := by
  have G0 := Go.refl m
  have n0 := Nat.le_refl s.n
  refine fnK F59.fok rfl ?_
  refine K_reg (Wops_bslice (l := ints .u8 [127, 126]) rfl rfl fun h1 n1 x1 g1 => ?_)
  have G1 := G0.ext0 x1
  refine Wops_run rfl rfl (Wops_run rfl rfl (Wops_run rfl rfl (Wops_ld (v := ptr K.pp) rfl G1.m.gk rfl ?_)))
  refine Wops_call rfl (G1.c48 (by decide)) ?_
  rintro _ h2 ⟨r2, n2, rfl, hr2, G2, hn2, hp2, hu2, hz2, x2⟩
  have g1x2 : At h2 h.next (.cells (ints .u8 [127, 126]) 1 false) := At.ext (S := (· = K.pp)) g1 x2 (by have := G0.m.lt; omega)
  obtain ⟨hu2', hpu2⟩ := hu2 hl
  have rr2 : K.xs.length ≤ n2 + R := by omega
  have NN2 := Nat.le_trans n0 hn2
  refine Wops_iaV rfl rfl ⟨by omega, by omega⟩ (Wops_ld (v := .int .u8 (([127, 126] : List Int).getD r2 0)) rfl g1x2 (by rw [Nat.zero_add, Nat.mul_one]; exact ints_getD (L := [127, 126]) (show r2 < 2 by omega)) ?_)
  refine Wops_run rfl rfl (K_fin [(0, _), (1, _), (4, _)] rfl (?_))
  obtain ⟨s3, G3, hn3, hp3⟩ : ∃ q, Go K h s h2 q [] ∧ ({ s with n := n2 } : St).n ≤ q.n ∧ pot K q ≤ pot K ({ s with n := n2 } : St) := ⟨_, G2, Nat.le_refl _, Int.le_refl _⟩
  have rr3 := Nat.le_trans rr2 (Nat.add_le_add_right hn3 R)
  have NN3 := Nat.le_trans NN2 hn3
  refine K_reg (Wops_run rfl rfl (Wops_run rfl rfl (Wops_run rfl rfl (Wops_ld (v := ptr K.pp) rfl G3.m.gk rfl ?_))))
  refine Wops_call rfl (G3.c48 (by decide)) ?_
  rintro _ h4 ⟨r4, n4, rfl, hr4, G4, hn4, hp4, hu4, hz4, x4⟩
  have rr4 := Nat.le_trans rr3 (Nat.add_le_add_right hn4 R)
  have NN4 := Nat.le_trans NN3 hn4
  refine K_fin [(0, _), (1, _), (4, _), (21, _)] rfl (?_)
  obtain ⟨s5, G5, hn5, hp5⟩ : ∃ q, Go K h s h4 q [] ∧ ({ s3 with n := n4 } : St).n ≤ q.n ∧ pot K q ≤ pot K ({ s3 with n := n4 } : St) := ⟨_, G4, Nat.le_refl _, Int.le_refl _⟩
  have rr5 := Nat.le_trans rr4 (Nat.add_le_add_right hn5 R)
  have NN5 := Nat.le_trans NN4 hn5
  refine K_block ?_
  refine K_ss (K_reg (Wops_run rfl rfl (Wops_run rfl rfl (K_fin [(0, _), (1, _), (4, _), (21, _), (25, _)] rfl (?_)))))
  refine K_scond rfl (fun hc => ?_) (fun hc => ?_)
  · refine K_sskip (K_cond rfl (fun hc => ?_) (fun hc => ?_))
    · refine K_reg (Wops_run rfl rfl (Wops_run rfl rfl (Wops_call rfl G5.c62 ?_)))
      rintro _ h6 ⟨v6, w6, n6, rfl, G6, hn6, hp6⟩
      have rr6 := Nat.le_trans rr5 (Nat.add_le_add_right hn6 R)
      have NN6 := Nat.le_trans NN5 hn6
      refine Wops_run rfl rfl (Wops_run rfl rfl (Wops_run rfl rfl (Wops_run rfl rfl (Wops_run rfl rfl (K_fin [(0, _), (1, _), (4, _), (5, _), (6, _)] rfl (?_))))))
      obtain ⟨s7, G7, hn7, hp7⟩ : ∃ q, Go K h s h6 q [] ∧ ({ s5 with n := n6 } : St).n ≤ q.n ∧ pot K q ≤ pot K ({ s5 with n := n6 } : St) := ⟨_, G6, Nat.le_refl _, Int.le_refl _⟩
      have rr7 := Nat.le_trans rr6 (Nat.add_le_add_right hn7 R)
      have NN7 := Nat.le_trans NN6 hn7
      refine K_reg (Wops_run rfl rfl (Wops_run rfl rfl (Wops_run rfl rfl (Wops_call rfl ((H.e _ _).go G7 rr7 (by omega)) ?_))))
      rintro _ h8 ⟨s8, G8, hn8, hp8⟩
      have rr8 := Nat.le_trans rr7 (Nat.add_le_add_right hn8 R)
      have NN8 := Nat.le_trans NN7 hn8
      refine K_fin [(0, _), (5, _), (6, _)] rfl (?_)
      refine K_reg (Wops_run rfl rfl (K_fin [(0, _), (5, _), (38, _)] rfl (?_)))
      refine K_cond rfl (fun hc => ?_) (fun hc => ?_)
      · refine K_last (Wops_run rfl rfl (Wops_run rfl rfl (Wops_call rfl (G8.c63 (st' := []) (by omega) (fun w q => .plain q (by decide))) ?_)))
        rintro _ h9 ⟨s9, G9, hn9, hp9⟩
        have rr9 := Nat.le_trans rr8 (Nat.add_le_add_right hn9 R)
        have NN9 := Nat.le_trans NN8 hn9
        refine K_finL [] rfl (?_)
        exact Told.mk [] rfl ⟨_, G9, NN9, by omega⟩
      · refine K_last (Wops_run rfl rfl (Wops_call rfl (G8.c64 (st' := []) (by omega) (fun w q => .plain q (by decide))) ?_))
        rintro _ h10 ⟨s10, G10, hn10, hp10⟩
        have rr10 := Nat.le_trans rr8 (Nat.add_le_add_right hn10 R)
        have NN10 := Nat.le_trans NN8 hn10
        refine K_finL [] rfl (?_)
        exact Told.mk [] rfl ⟨_, G10, NN10, by omega⟩
    · refine K_ss (K_reg (Wops_run rfl rfl (Wops_run rfl rfl (K_fin [(0, _), (1, _), (4, _), (21, _), (44, _)] rfl (?_)))))
      refine K_scond rfl (fun hc => ?_) (fun hc => ?_)
      · refine K_sskip (K_cond rfl (fun hc => ?_) (fun hc => ?_))
        · refine K_reg (Wops_run rfl rfl (Wops_run rfl rfl (Wops_run rfl rfl (Wops_call rfl ((H.e _ _).go G5 rr5 (by omega)) ?_))))
          rintro _ h11 ⟨s11, G11, hn11, hp11⟩
          have rr11 := Nat.le_trans rr5 (Nat.add_le_add_right hn11 R)
          have NN11 := Nat.le_trans NN5 hn11
          refine K_fin [(0, _), (4, _)] rfl (?_)
          refine K_reg (Wops_run rfl rfl (K_fin [(0, _), (4, _), (7, _)] rfl (?_)))
          refine K_ss (K_reg (Wops_run rfl rfl (Wops_run rfl rfl (K_fin [(0, _), (7, _), (52, _)] rfl (?_)))))
          refine K_scond rfl (fun hc => ?_) (fun hc => ?_)
          · refine K_reg (Wops_run rfl rfl (K_fin [(0, _), (7, _)] rfl (?_)))
            refine K_last (Wops_run rfl rfl (Wops_run rfl rfl (Wops_call rfl (G11.c63 (st' := []) (by omega) (fun w q => .plain q (by decide))) ?_)))
            rintro _ h12 ⟨s12, G12, hn12, hp12⟩
            have rr12 := Nat.le_trans rr11 (Nat.add_le_add_right hn12 R)
            have NN12 := Nat.le_trans NN11 hn12
            refine K_finL [] rfl (?_)
            exact Told.mk [] rfl ⟨_, G12, NN12, by omega⟩
          · refine K_sskip (K_last (Wops_run rfl rfl (Wops_run rfl rfl (Wops_call rfl (G11.c63 (st' := []) (by omega) (fun w q => .plain q (by decide))) ?_))))
            rintro _ h13 ⟨s13, G13, hn13, hp13⟩
            have rr13 := Nat.le_trans rr11 (Nat.add_le_add_right hn13 R)
            have NN13 := Nat.le_trans NN11 hn13
            refine K_finL [] rfl (?_)
            exact Told.mk [] rfl ⟨_, G13, NN13, by omega⟩
        · refine K_ss (K_reg (Wops_run rfl rfl (Wops_run rfl rfl (K_fin [(0, _), (1, _), (4, _), (21, _), (56, _)] rfl (?_)))))
          refine K_scond rfl (fun hc => ?_) (fun hc => ?_)
          · refine K_sskip (K_cond rfl (fun hc => ?_) (fun hc => ?_))
            · refine K_reg (Wops_run rfl rfl (Wops_run rfl rfl (Wops_run rfl rfl (Wops_call rfl ((H.e _ _).go G5 rr5 (by omega)) ?_))))
              rintro _ h14 ⟨s14, G14, hn14, hp14⟩
              have rr14 := Nat.le_trans rr5 (Nat.add_le_add_right hn14 R)
              have NN14 := Nat.le_trans NN5 hn14
              refine K_fin [(0, _), (1, _), (4, _)] rfl (?_)
              refine K_reg (Wops_run rfl rfl (Wops_run rfl rfl (Wops_run rfl rfl (Wops_run rfl rfl (Wops_call rfl ((H.e _ _).go G14 rr14 (by omega)) ?_)))))
              rintro _ h15 ⟨s15, G15, hn15, hp15⟩
              have rr15 := Nat.le_trans rr14 (Nat.add_le_add_right hn15 R)
              have NN15 := Nat.le_trans NN14 hn15
              refine K_fin [(0, _), (4, _)] rfl (?_)
              refine K_reg (Wops_bslice (l := ints .i64 [54, 58, 59]) rfl rfl fun h16 n16 x16 g16 => ?_)
              have G16 := G15.ext0 x16
              refine Wops_run rfl rfl (Wops_run rfl rfl (Wops_run rfl rfl (Wops_ld (v := ptr K.pp) rfl G16.m.gk rfl ?_)))
              refine Wops_call rfl (G16.c48 (by decide)) ?_
              rintro _ h17 ⟨r17, n17, rfl, hr17, G17, hn17, hp17, hu17, hz17, x17⟩
              have g16x17 : At h17 h15.next (.cells (ints .i64 [54, 58, 59]) 1 false) := At.ext (S := (· = K.pp)) g16 x17 (by have := G15.m.lt; omega)
              have rr17 := Nat.le_trans rr15 (Nat.add_le_add_right hn17 R)
              have NN17 := Nat.le_trans NN15 hn17
              refine Wops_iaV rfl rfl ⟨by omega, by omega⟩ (Wops_ld (v := .int .i64 (([54, 58, 59] : List Int).getD r17 0)) rfl g16x17 (by rw [Nat.zero_add, Nat.mul_one]; exact ints_getD (L := [54, 58, 59]) (show r17 < 3 by omega)) ?_)
              refine Wops_run rfl rfl (K_fin [(0, _), (4, _), (8, _)] rfl (?_))
              obtain ⟨s18, G18, hn18, hp18⟩ : ∃ q, Go K h s h17 q [] ∧ ({ s15 with n := n17 } : St).n ≤ q.n ∧ pot K q ≤ pot K ({ s15 with n := n17 } : St) := ⟨_, G17, Nat.le_refl _, Int.le_refl _⟩
              have rr18 := Nat.le_trans rr17 (Nat.add_le_add_right hn18 R)
              have NN18 := Nat.le_trans NN17 hn18
              refine K_ss (K_reg (Wops_run rfl rfl (Wops_run rfl rfl (K_fin [(0, _), (8, _), (77, _)] rfl (?_)))))
              refine K_scond rfl (fun hc => ?_) (fun hc => ?_)
              · refine K_reg (Wops_bslice (l := ints .i64 [55, 60, 61, 62]) rfl rfl fun h19 n19 x19 g19 => ?_)
                have G19 := G18.ext0 x19
                refine Wops_run rfl rfl (Wops_run rfl rfl (Wops_run rfl rfl (Wops_ld (v := ptr K.pp) rfl G19.m.gk rfl ?_)))
                refine Wops_call rfl (G19.c48 (by decide)) ?_
                rintro _ h20 ⟨r20, n20, rfl, hr20, G20, hn20, hp20, hu20, hz20, x20⟩
                have g19x20 : At h20 h17.next (.cells (ints .i64 [55, 60, 61, 62]) 1 false) := At.ext (S := (· = K.pp)) g19 x20 (by have := G18.m.lt; omega)
                have rr20 := Nat.le_trans rr18 (Nat.add_le_add_right hn20 R)
                have NN20 := Nat.le_trans NN18 hn20
                refine Wops_iaV rfl rfl ⟨by omega, by omega⟩ (Wops_ld (v := .int .i64 (([55, 60, 61, 62] : List Int).getD r20 0)) rfl g19x20 (by rw [Nat.zero_add, Nat.mul_one]; exact ints_getD (L := [55, 60, 61, 62]) (show r20 < 4 by omega)) ?_)
                refine Wops_run rfl rfl (K_fin [(0, _), (8, _)] rfl (?_))
                obtain ⟨s21, G21, hn21, hp21⟩ : ∃ q, Go K h s h20 q [] ∧ ({ s18 with n := n20 } : St).n ≤ q.n ∧ pot K q ≤ pot K ({ s18 with n := n20 } : St) := ⟨_, G20, Nat.le_refl _, Int.le_refl _⟩
                have rr21 := Nat.le_trans rr20 (Nat.add_le_add_right hn21 R)
                have NN21 := Nat.le_trans NN20 hn21
                refine K_last (Wops_run rfl rfl (Wops_run rfl rfl (Wops_run rfl rfl (Wops_run rfl rfl (Wops_ld (v := .slice s21.oa s21.ops.length s21.oc) rfl G21.m.gk rfl ?_)))))
                refine Wops_run rfl rfl (Wops_run rfl rfl (Wops_run rfl rfl (Wops_run rfl rfl (Wops_ld (v := ptr K.pp) rfl G21.m.gk rfl ?_))))
                refine Wops_call rfl (G21.c48 (by decide)) ?_
                rintro _ h22 ⟨r22, n22, rfl, hr22, G22, hn22, hp22, hu22, hz22, x22⟩
                have rr22 := Nat.le_trans rr21 (Nat.add_le_add_right hn22 R)
                have NN22 := Nat.le_trans NN21 hn22
                obtain ⟨lq23, oq23, _⟩ := G22.m.o
                refine Wops_chk rfl rfl G22.m.gk (v := .slice s21.oa s21.ops.length s21.oc) rfl oq23.sl.same ?_
                refine Wops_run rfl rfl (Wops_run rfl rfl (?_))
                obtain ⟨l24, o24, il24⟩ := G22.m.o
                have hops24 : s21.ops.length ≤ 100100 := pot_opsB (K := K) (s := ({ s21 with n := n22 } : St)) G22.m (by omega)
                refine Wops_bslice (l := [.int .i64 (([55, 60, 61, 62] : List Int).getD r20 0), .int .u32 0, _, .int .u64 0, .slice none 0 0, .int .i64 0]) rfl rfl fun h24 n24 x24 g24 => ?_
                refine Wops_app (m := 1) rfl rfl (o24.ext x24) rfl (OwS.new (n := 1) (c := 1) g24 rfl).sl.first ⟨by omega, by omega⟩ rfl rfl (by decide) fun hh24 a24 c24 xx24 oo24 b24 => ?_
                refine Wops_run rfl rfl (Wops_run rfl rfl (Wops_st (l := [.slice a24 (({ s21 with n := n22 } : St).ops.length + 1) c24]) rfl rfl rfl rfl ((G22.m.gk.ext x24).ext xx24 fun r => (G22.m.no _ r).2.1 rfl) (by simp) rfl fun h25 nn25 x25 g25 => ?_))
                obtain ⟨s25, G25, hn25, hp25⟩ := G22.push' (k := 1) (os := [(([55, 60, 61, 62] : List Int).getD r20 0)]) (st' := []) il24 x24 xx24 rfl oo24 b24 x25 g25 (.one rfl) (fun w q => .plain q (getD_all (L := ([55, 60, 61, 62] : List Int)) (by decide) (show r20 < 4 by omega)))
                have rr25 := Nat.le_trans rr22 (Nat.add_le_add_right hn25 R)
                have NN25 := Nat.le_trans NN22 hn25
                refine K_finL [] rfl (?_)
                exact Told.mk [] rfl ⟨_, G25, NN25, by omega⟩
              · refine K_sskip (K_last (Wops_run rfl rfl (Wops_run rfl rfl (Wops_run rfl rfl (Wops_run rfl rfl (Wops_ld (v := .slice s18.oa s18.ops.length s18.oc) rfl G18.m.gk rfl ?_))))))
                refine Wops_run rfl rfl (Wops_run rfl rfl (Wops_run rfl rfl (Wops_run rfl rfl (Wops_ld (v := ptr K.pp) rfl G18.m.gk rfl ?_))))
                refine Wops_call rfl (G18.c48 (by decide)) ?_
                rintro _ h26 ⟨r26, n26, rfl, hr26, G26, hn26, hp26, hu26, hz26, x26⟩
                have rr26 := Nat.le_trans rr18 (Nat.add_le_add_right hn26 R)
                have NN26 := Nat.le_trans NN18 hn26
                obtain ⟨lq27, oq27, _⟩ := G26.m.o
                refine Wops_chk rfl rfl G26.m.gk (v := .slice s18.oa s18.ops.length s18.oc) rfl oq27.sl.same ?_
                refine Wops_run rfl rfl (Wops_run rfl rfl (?_))
                obtain ⟨l28, o28, il28⟩ := G26.m.o
                have hops28 : s18.ops.length ≤ 100100 := pot_opsB (K := K) (s := ({ s18 with n := n26 } : St)) G26.m (by omega)
                refine Wops_bslice (l := [.int .i64 (([54, 58, 59] : List Int).getD r17 0), .int .u32 0, _, .int .u64 0, .slice none 0 0, .int .i64 0]) rfl rfl fun h28 n28 x28 g28 => ?_
                refine Wops_app (m := 1) rfl rfl (o28.ext x28) rfl (OwS.new (n := 1) (c := 1) g28 rfl).sl.first ⟨by omega, by omega⟩ rfl rfl (by decide) fun hh28 a28 c28 xx28 oo28 b28 => ?_
                refine Wops_run rfl rfl (Wops_run rfl rfl (Wops_st (l := [.slice a28 (({ s18 with n := n26 } : St).ops.length + 1) c28]) rfl rfl rfl rfl ((G26.m.gk.ext x28).ext xx28 fun r => (G26.m.no _ r).2.1 rfl) (by simp) rfl fun h29 nn29 x29 g29 => ?_))
                obtain ⟨s29, G29, hn29, hp29⟩ := G26.push' (k := 1) (os := [(([54, 58, 59] : List Int).getD r17 0)]) (st' := []) il28 x28 xx28 rfl oo28 b28 x29 g29 (.one rfl) (fun w q => .plain q (getD_all (L := ([54, 58, 59] : List Int)) (by decide) (show r17 < 3 by omega)))
                have rr29 := Nat.le_trans rr26 (Nat.add_le_add_right hn29 R)
                have NN29 := Nat.le_trans NN26 hn29
                refine K_finL [] rfl (?_)
                exact Told.mk [] rfl ⟨_, G29, NN29, by omega⟩
            · refine K_reg (Wops_run rfl rfl (Wops_run rfl rfl (K_fin [(0, _), (1, _), (21, _), (103, _)] rfl (?_))))
              refine K_cond rfl (fun hc => ?_) (fun hc => ?_)
              · refine K_reg (Wops_run rfl rfl (Wops_run rfl rfl (Wops_call rfl ((H.t _).go G5 rr5 (by omega)) ?_)))
                rintro _ h30 ⟨s30, G30, hn30, hp30⟩
                have rr30 := Nat.le_trans rr5 (Nat.add_le_add_right hn30 R)
                have NN30 := Nat.le_trans NN5 hn30
                refine K_fin [(0, _)] rfl (?_)
                refine K_last (Wops_run rfl rfl (Wops_bslice (l := ints .i64 [64522, 64523, 64523]) rfl rfl fun h31 n31 x31 g31 => ?_))
                have G31 := G30.ext0 x31
                refine Wops_run rfl rfl (Wops_run rfl rfl (Wops_run rfl rfl (Wops_ld (v := ptr K.pp) rfl G31.m.gk rfl ?_)))
                refine Wops_call rfl (G31.c48 (by decide)) ?_
                rintro _ h32 ⟨r32, n32, rfl, hr32, G32, hn32, hp32, hu32, hz32, x32⟩
                have g31x32 : At h32 h30.next (.cells (ints .i64 [64522, 64523, 64523]) 1 false) := At.ext (S := (· = K.pp)) g31 x32 (by have := G30.m.lt; omega)
                have rr32 := Nat.le_trans rr30 (Nat.add_le_add_right hn32 R)
                have NN32 := Nat.le_trans NN30 hn32
                refine Wops_iaV rfl rfl ⟨by omega, by omega⟩ (Wops_ld (v := .int .i64 (([64522, 64523, 64523] : List Int).getD r32 0)) rfl g31x32 (by rw [Nat.zero_add, Nat.mul_one]; exact ints_getD (L := [64522, 64523, 64523]) (show r32 < 3 by omega)) ?_)
                refine Wops_call rfl (G32.c64 (st' := []) (by omega) (fun w q => .plain q (getD_all (L := ([64522, 64523, 64523] : List Int)) (by decide) (show r32 < 3 by omega)))) ?_
                rintro _ h33 ⟨s33, G33, hn33, hp33⟩
                have rr33 := Nat.le_trans rr32 (Nat.add_le_add_right hn33 R)
                have NN33 := Nat.le_trans NN32 hn33
                refine K_finL [] rfl (?_)
                exact Told.mk [] rfl ⟨_, G33, NN33, by omega⟩
              · refine K_reg (Wops_run rfl rfl (Wops_run rfl rfl (K_fin [(0, _), (1, _), (21, _), (118, _)] rfl (?_))))
                refine K_cond rfl (fun hc => ?_) (fun hc => ?_)
                · refine K_reg (Wops_run rfl rfl (Wops_run rfl rfl (Wops_call rfl ((H.t _).go G5 rr5 (by omega)) ?_)))
                  rintro _ h34 ⟨s34, G34, hn34, hp34⟩
                  have rr34 := Nat.le_trans rr5 (Nat.add_le_add_right hn34 R)
                  have NN34 := Nat.le_trans NN5 hn34
                  refine K_fin [(0, _)] rfl (?_)
                  refine K_last (Wops_run rfl rfl (Wops_run rfl rfl (Wops_run rfl rfl (Wops_run rfl rfl (Wops_ld (v := ptr K.pp) rfl G34.m.gk rfl ?_)))))
                  refine Wops_call rfl (G34.c48 (by decide)) ?_
                  rintro _ h35 ⟨r35, n35, rfl, hr35, G35, hn35, hp35, hu35, hz35, x35⟩
                  have rr35 := Nat.le_trans rr34 (Nat.add_le_add_right hn35 R)
                  have NN35 := Nat.le_trans NN34 hn35
                  refine Wops_run rfl rfl (Wops_call rfl (G35.c63 (st' := []) (by omega) (fun w q => .plain q (by decide))) ?_)
                  rintro _ h36 ⟨s36, G36, hn36, hp36⟩
                  have rr36 := Nat.le_trans rr35 (Nat.add_le_add_right hn36 R)
                  have NN36 := Nat.le_trans NN35 hn36
                  refine K_finL [] rfl (?_)
                  exact Told.mk [] rfl ⟨_, G36, NN36, by omega⟩
                · refine K_reg (Wops_run rfl rfl (Wops_run rfl rfl (K_fin [(0, _), (1, _), (21, _), (131, _)] rfl (?_))))
                  refine K_cond rfl (fun hc => ?_) (fun hc => ?_)
                  · refine K_reg (Wops_run rfl rfl (Wops_run rfl rfl (Wops_call rfl ((H.t _).go G5 rr5 (by omega)) ?_)))
                    rintro _ h37 ⟨s37, G37, hn37, hp37⟩
                    have rr37 := Nat.le_trans rr5 (Nat.add_le_add_right hn37 R)
                    have NN37 := Nat.le_trans NN5 hn37
                    refine K_fin [(0, _)] rfl (?_)
                    refine K_last (Wops_run rfl rfl (Wops_run rfl rfl (Wops_run rfl rfl (Wops_run rfl rfl (Wops_ld (v := .slice s37.oa s37.ops.length s37.oc) rfl G37.m.gk rfl ?_)))))
                    refine Wops_bslice (l := ints .i64 [64524, 64526]) rfl rfl fun h38 n38 x38 g38 => ?_
                    have G38 := G37.ext0 x38
                    refine Wops_run rfl rfl (Wops_run rfl rfl (Wops_run rfl rfl (Wops_ld (v := ptr K.pp) rfl G38.m.gk rfl ?_)))
                    refine Wops_call rfl (G38.c48 (by decide)) ?_
                    rintro _ h39 ⟨r39, n39, rfl, hr39, G39, hn39, hp39, hu39, hz39, x39⟩
                    have g38x39 : At h39 h37.next (.cells (ints .i64 [64524, 64526]) 1 false) := At.ext (S := (· = K.pp)) g38 x39 (by have := G37.m.lt; omega)
                    have rr39 := Nat.le_trans rr37 (Nat.add_le_add_right hn39 R)
                    have NN39 := Nat.le_trans NN37 hn39
                    obtain ⟨lq40, oq40, _⟩ := G39.m.o
                    refine Wops_chk rfl rfl G39.m.gk (v := .slice s37.oa s37.ops.length s37.oc) rfl oq40.sl.same ?_
                    refine Wops_iaV rfl rfl ⟨by omega, by omega⟩ (Wops_ld (v := .int .i64 (([64524, 64526] : List Int).getD r39 0)) rfl g38x39 (by rw [Nat.zero_add, Nat.mul_one]; exact ints_getD (L := [64524, 64526]) (show r39 < 2 by omega)) ?_)
                    refine Wops_run rfl rfl (?_)
                    obtain ⟨l41, o41, il41⟩ := G39.m.o
                    have hops41 : s37.ops.length ≤ 100100 := pot_opsB (K := K) (s := ({ s37 with n := n39 } : St)) G39.m (by omega)
                    refine Wops_bslice (l := [.int .i64 (([64524, 64526] : List Int).getD r39 0), .int .u32 0, .int .u32 0, .int .u64 0, .slice none 0 0, .int .i64 0]) rfl rfl fun h41 n41 x41 g41 => ?_
                    refine Wops_app (m := 1) rfl rfl (o41.ext x41) rfl (OwS.new (n := 1) (c := 1) g41 rfl).sl.first ⟨by omega, by omega⟩ rfl rfl (by decide) fun hh41 a41 c41 xx41 oo41 b41 => ?_
                    refine Wops_run rfl rfl (Wops_run rfl rfl (Wops_st (l := [.slice a41 (({ s37 with n := n39 } : St).ops.length + 1) c41]) rfl rfl rfl rfl ((G39.m.gk.ext x41).ext xx41 fun r => (G39.m.no _ r).2.1 rfl) (by simp) rfl fun h42 nn42 x42 g42 => ?_))
                    obtain ⟨s42, G42, hn42, hp42⟩ := G39.push' (k := 1) (os := [(([64524, 64526] : List Int).getD r39 0)]) (st' := []) il41 x41 xx41 rfl oo41 b41 x42 g42 (.one rfl) (fun w q => .plain q (getD_all (L := ([64524, 64526] : List Int)) (by decide) (show r39 < 2 by omega)))
                    have rr42 := Nat.le_trans rr39 (Nat.add_le_add_right hn42 R)
                    have NN42 := Nat.le_trans NN39 hn42
                    refine K_finL [] rfl (?_)
                    exact Told.mk [] rfl ⟨_, G42, NN42, by omega⟩
                  · refine K_reg (Wops_run rfl rfl (Wops_run rfl rfl (K_fin [(0, _), (1, _), (21, _), (154, _)] rfl (?_))))
                    refine K_cond rfl (fun hc => ?_) (fun hc => ?_)
                    · refine K_reg (Wops_run rfl rfl (Wops_run rfl rfl (Wops_run rfl rfl (Wops_run rfl rfl (Wops_ld (v := ptr K.pp) rfl G5.m.gk rfl ?_)))))
                      refine Wops_call rfl (G5.c48 (by decide)) ?_
                      rintro _ h43 ⟨r43, n43, rfl, hr43, G43, hn43, hp43, hu43, hz43, x43⟩
                      have rr43 := Nat.le_trans rr5 (Nat.add_le_add_right hn43 R)
                      have NN43 := Nat.le_trans NN5 hn43
                      refine Wops_run rfl rfl (Wops_call rfl (G43.c60 (by omega)) ?_)
                      rintro _ h44 ⟨s44, G44, hn44, hp44⟩
                      have rr44 := Nat.le_trans rr43 (Nat.add_le_add_right hn44 R)
                      have NN44 := Nat.le_trans NN43 hn44
                      refine K_fin [(0, _)] rfl (?_)
                      refine K_reg (Wops_run rfl rfl (Wops_call rfl (G44.c75 (by omega)) ?_))
                      rintro _ h45 ⟨s45, G45, hn45, hp45⟩
                      have rr45 := Nat.le_trans rr44 (Nat.add_le_add_right hn45 R)
                      have NN45 := Nat.le_trans NN44 hn45
                      refine K_fin [(0, _)] rfl (?_)
                      refine K_last (Wops_run rfl rfl (Wops_call rfl (G45.c63 (st' := []) (by omega) (fun w q => .plain q (by decide))) ?_))
                      rintro _ h46 ⟨s46, G46, hn46, hp46⟩
                      have rr46 := Nat.le_trans rr45 (Nat.add_le_add_right hn46 R)
                      have NN46 := Nat.le_trans NN45 hn46
                      refine K_finL [] rfl (?_)
                      exact Told.mk [] rfl ⟨_, G46, NN46, by omega⟩
                    · refine K_reg (Wops_run rfl rfl (Wops_run rfl rfl (K_fin [(0, _), (1, _), (21, _), (168, _)] rfl (?_))))
                      refine K_cond rfl (fun hc => ?_) (fun hc => ?_)
                      · refine K_last (Wops_run rfl rfl (Wops_run rfl rfl (Wops_call rfl ((H.lo _).go G5 rr5 (by omega)) ?_)))
                        rintro _ h47 ⟨s47, G47, hn47, hp47⟩
                        have rr47 := Nat.le_trans rr5 (Nat.add_le_add_right hn47 R)
                        have NN47 := Nat.le_trans NN5 hn47
                        refine K_finL [] rfl (?_)
                        exact Told.mk [] rfl ⟨_, G47, NN47, by omega⟩
                      · refine K_reg (Wops_run rfl rfl (Wops_run rfl rfl (K_fin [(0, _), (1, _), (21, _), (173, _)] rfl (?_))))
                        refine K_cond rfl (fun hc => ?_) (fun hc => ?_)
                        · refine K_last (Wops_run rfl rfl (Wops_bslice (l := ints .i64 [64521, 64525]) rfl rfl fun h48 n48 x48 g48 => ?_))
                          have G48 := G5.ext0 x48
                          refine Wops_run rfl rfl (Wops_run rfl rfl (Wops_run rfl rfl (Wops_ld (v := ptr K.pp) rfl G48.m.gk rfl ?_)))
                          refine Wops_run rfl rfl (Wops_run rfl rfl (Wops_run rfl rfl (Wops_ld (v := ptr K.pp) rfl G48.m.gk rfl ?_)))
                          refine Wops_call rfl (G48.c48 (by decide)) ?_
                          rintro _ h49 ⟨r49, n49, rfl, hr49, G49, hn49, hp49, hu49, hz49, x49⟩
                          have g48x49 : At h49 h4.next (.cells (ints .i64 [64521, 64525]) 1 false) := At.ext (S := (· = K.pp)) g48 x49 (by have := G5.m.lt; omega)
                          have rr49 := Nat.le_trans rr5 (Nat.add_le_add_right hn49 R)
                          have NN49 := Nat.le_trans NN5 hn49
                          refine Wops_chk rfl rfl G49.m.gk (v := ptr K.pp) rfl (by simp [sameV, sameCell]) ?_
                          refine Wops_iaV rfl rfl ⟨by omega, by omega⟩ (Wops_ld (v := .int .i64 (([64521, 64525] : List Int).getD r49 0)) rfl g48x49 (by rw [Nat.zero_add, Nat.mul_one]; exact ints_getD (L := [64521, 64525]) (show r49 < 2 by omega)) ?_)
                          refine Wops_call rfl (G49.c48 (by decide)) ?_
                          rintro _ h50 ⟨r50, n50, rfl, hr50, G50, hn50, hp50, hu50, hz50, x50⟩
                          have g48x49x50 : At h50 h4.next (.cells (ints .i64 [64521, 64525]) 1 false) := At.ext (S := (· = K.pp)) g48x49 x50 (by have := G5.m.lt; omega)
                          have rr50 := Nat.le_trans rr49 (Nat.add_le_add_right hn50 R)
                          have NN50 := Nat.le_trans NN49 hn50
                          refine Wops_chk rfl rfl g48x49x50 (v := .int .i64 (([64521, 64525] : List Int).getD r49 0)) (by rw [Nat.zero_add, Nat.mul_one]; exact ints_getD (L := ([64521, 64525] : List Int)) (show r49 < 2 by omega)) (by simp [sameV, sameCell]) ?_
                          refine Wops_run rfl rfl (Wops_call rfl (G50.c63 (st' := []) (by omega) (fun w q => .plain q (getD_all (L := ([64521, 64525] : List Int)) (by decide) (show r49 < 2 by omega)))) ?_)
                          rintro _ h51 ⟨s51, G51, hn51, hp51⟩
                          have rr51 := Nat.le_trans rr50 (Nat.add_le_add_right hn51 R)
                          have NN51 := Nat.le_trans NN50 hn51
                          refine K_finL [] rfl (?_)
                          exact Told.mk [] rfl ⟨_, G51, NN51, by omega⟩
                        · refine K_reg (Wops_run rfl rfl (Wops_run rfl rfl (K_fin [(0, _), (1, _), (191, _)] rfl (?_))))
                          refine K_cond rfl (fun hc => ?_) (fun hc => ?_)
                          · refine K_reg (Wops_run rfl rfl (Wops_run rfl rfl (Wops_run rfl rfl (Wops_run rfl rfl (Wops_ld (v := ptr K.pp) rfl G5.m.gk rfl ?_)))))
                            refine Wops_call rfl (G5.c48 (by decide)) ?_
                            rintro _ h52 ⟨r52, n52, rfl, hr52, G52, hn52, hp52, hu52, hz52, x52⟩
                            have rr52 := Nat.le_trans rr5 (Nat.add_le_add_right hn52 R)
                            have NN52 := Nat.le_trans NN5 hn52
                            refine Wops_run rfl rfl (Wops_call rfl (G52.c60 (by omega)) ?_)
                            rintro _ h53 ⟨s53, G53, hn53, hp53⟩
                            have rr53 := Nat.le_trans rr52 (Nat.add_le_add_right hn53 R)
                            have NN53 := Nat.le_trans NN52 hn53
                            refine K_fin [(0, _)] rfl (?_)
                            refine K_reg (Wops_run rfl rfl (Wops_call rfl (G53.c75 (by omega)) ?_))
                            rintro _ h54 ⟨s54, G54, hn54, hp54⟩
                            have rr54 := Nat.le_trans rr53 (Nat.add_le_add_right hn54 R)
                            have NN54 := Nat.le_trans NN53 hn54
                            refine K_fin [(0, _)] rfl (?_)
                            refine K_reg (Wops_run rfl rfl (Wops_run rfl rfl (Wops_run rfl rfl (Wops_run rfl rfl (Wops_ld (v := ptr K.pp) rfl G54.m.gk rfl ?_)))))
                            refine Wops_call rfl (G54.c48 (by decide)) ?_
                            rintro _ h55 ⟨r55, n55, rfl, hr55, G55, hn55, hp55, hu55, hz55, x55⟩
                            have rr55 := Nat.le_trans rr54 (Nat.add_le_add_right hn55 R)
                            have NN55 := Nat.le_trans NN54 hn55
                            refine Wops_run rfl rfl (Wops_call rfl (G55.c60 (by omega)) ?_)
                            rintro _ h56 ⟨s56, G56, hn56, hp56⟩
                            have rr56 := Nat.le_trans rr55 (Nat.add_le_add_right hn56 R)
                            have NN56 := Nat.le_trans NN55 hn56
                            refine K_fin [(0, _)] rfl (?_)
                            refine K_last (Wops_run rfl rfl (Wops_call rfl (G56.c63 (st' := []) (by omega) (fun w q => .plain q (by decide))) ?_))
                            rintro _ h57 ⟨s57, G57, hn57, hp57⟩
                            have rr57 := Nat.le_trans rr56 (Nat.add_le_add_right hn57 R)
                            have NN57 := Nat.le_trans NN56 hn57
                            refine K_finL [] rfl (?_)
                            exact Told.mk [] rfl ⟨_, G57, NN57, by omega⟩
                          · refine K_last (Wops_run rfl rfl (Wops_run rfl rfl (Wops_call rfl ((H.j _).go G5 rr5 (by omega)) ?_)))
                            rintro _ h58 ⟨s58, G58, hn58, hp58⟩
                            have rr58 := Nat.le_trans rr5 (Nat.add_le_add_right hn58 R)
                            have NN58 := Nat.le_trans NN5 hn58
                            refine K_finL [] rfl (?_)
                            exact Told.mk [] rfl ⟨_, G58, NN58, by omega⟩
          · refine K_reg (Wops_run rfl rfl (Wops_run rfl rfl (K_fin [(0, _), (1, _), (4, _), (21, _), (56, _)] rfl (?_))))
            refine K_cond rfl (fun hc => ?_) (fun hc => ?_)
            · refine K_reg (Wops_run rfl rfl (Wops_run rfl rfl (Wops_run rfl rfl (Wops_call rfl ((H.e _ _).go G5 rr5 (by omega)) ?_))))
              rintro _ h59 ⟨s59, G59, hn59, hp59⟩
              have rr59 := Nat.le_trans rr5 (Nat.add_le_add_right hn59 R)
              have NN59 := Nat.le_trans NN5 hn59
              refine K_fin [(0, _), (1, _), (4, _)] rfl (?_)
              refine K_reg (Wops_run rfl rfl (Wops_run rfl rfl (Wops_run rfl rfl (Wops_run rfl rfl (Wops_call rfl ((H.e _ _).go G59 rr59 (by omega)) ?_)))))
              rintro _ h60 ⟨s60, G60, hn60, hp60⟩
              have rr60 := Nat.le_trans rr59 (Nat.add_le_add_right hn60 R)
              have NN60 := Nat.le_trans NN59 hn60
              refine K_fin [(0, _), (4, _)] rfl (?_)
              refine K_reg (Wops_bslice (l := ints .i64 [54, 58, 59]) rfl rfl fun h61 n61 x61 g61 => ?_)
              have G61 := G60.ext0 x61
              refine Wops_run rfl rfl (Wops_run rfl rfl (Wops_run rfl rfl (Wops_ld (v := ptr K.pp) rfl G61.m.gk rfl ?_)))
              refine Wops_call rfl (G61.c48 (by decide)) ?_
              rintro _ h62 ⟨r62, n62, rfl, hr62, G62, hn62, hp62, hu62, hz62, x62⟩
              have g61x62 : At h62 h60.next (.cells (ints .i64 [54, 58, 59]) 1 false) := At.ext (S := (· = K.pp)) g61 x62 (by have := G60.m.lt; omega)
              have rr62 := Nat.le_trans rr60 (Nat.add_le_add_right hn62 R)
              have NN62 := Nat.le_trans NN60 hn62
              refine Wops_iaV rfl rfl ⟨by omega, by omega⟩ (Wops_ld (v := .int .i64 (([54, 58, 59] : List Int).getD r62 0)) rfl g61x62 (by rw [Nat.zero_add, Nat.mul_one]; exact ints_getD (L := [54, 58, 59]) (show r62 < 3 by omega)) ?_)
              refine Wops_run rfl rfl (K_fin [(0, _), (4, _), (8, _)] rfl (?_))
              obtain ⟨s63, G63, hn63, hp63⟩ : ∃ q, Go K h s h62 q [] ∧ ({ s60 with n := n62 } : St).n ≤ q.n ∧ pot K q ≤ pot K ({ s60 with n := n62 } : St) := ⟨_, G62, Nat.le_refl _, Int.le_refl _⟩
              have rr63 := Nat.le_trans rr62 (Nat.add_le_add_right hn63 R)
              have NN63 := Nat.le_trans NN62 hn63
              refine K_ss (K_reg (Wops_run rfl rfl (Wops_run rfl rfl (K_fin [(0, _), (8, _), (77, _)] rfl (?_)))))
              refine K_scond rfl (fun hc => ?_) (fun hc => ?_)
              · refine K_reg (Wops_bslice (l := ints .i64 [55, 60, 61, 62]) rfl rfl fun h64 n64 x64 g64 => ?_)
                have G64 := G63.ext0 x64
                refine Wops_run rfl rfl (Wops_run rfl rfl (Wops_run rfl rfl (Wops_ld (v := ptr K.pp) rfl G64.m.gk rfl ?_)))
                refine Wops_call rfl (G64.c48 (by decide)) ?_
                rintro _ h65 ⟨r65, n65, rfl, hr65, G65, hn65, hp65, hu65, hz65, x65⟩
                have g64x65 : At h65 h62.next (.cells (ints .i64 [55, 60, 61, 62]) 1 false) := At.ext (S := (· = K.pp)) g64 x65 (by have := G63.m.lt; omega)
                have rr65 := Nat.le_trans rr63 (Nat.add_le_add_right hn65 R)
                have NN65 := Nat.le_trans NN63 hn65
                refine Wops_iaV rfl rfl ⟨by omega, by omega⟩ (Wops_ld (v := .int .i64 (([55, 60, 61, 62] : List Int).getD r65 0)) rfl g64x65 (by rw [Nat.zero_add, Nat.mul_one]; exact ints_getD (L := [55, 60, 61, 62]) (show r65 < 4 by omega)) ?_)
                refine Wops_run rfl rfl (K_fin [(0, _), (8, _)] rfl (?_))
                obtain ⟨s66, G66, hn66, hp66⟩ : ∃ q, Go K h s h65 q [] ∧ ({ s63 with n := n65 } : St).n ≤ q.n ∧ pot K q ≤ pot K ({ s63 with n := n65 } : St) := ⟨_, G65, Nat.le_refl _, Int.le_refl _⟩
                have rr66 := Nat.le_trans rr65 (Nat.add_le_add_right hn66 R)
                have NN66 := Nat.le_trans NN65 hn66
                refine K_last (Wops_run rfl rfl (Wops_run rfl rfl (Wops_run rfl rfl (Wops_run rfl rfl (Wops_ld (v := .slice s66.oa s66.ops.length s66.oc) rfl G66.m.gk rfl ?_)))))
                refine Wops_run rfl rfl (Wops_run rfl rfl (Wops_run rfl rfl (Wops_run rfl rfl (Wops_ld (v := ptr K.pp) rfl G66.m.gk rfl ?_))))
                refine Wops_call rfl (G66.c48 (by decide)) ?_
                rintro _ h67 ⟨r67, n67, rfl, hr67, G67, hn67, hp67, hu67, hz67, x67⟩
                have rr67 := Nat.le_trans rr66 (Nat.add_le_add_right hn67 R)
                have NN67 := Nat.le_trans NN66 hn67
                obtain ⟨lq68, oq68, _⟩ := G67.m.o
                refine Wops_chk rfl rfl G67.m.gk (v := .slice s66.oa s66.ops.length s66.oc) rfl oq68.sl.same ?_
                refine Wops_run rfl rfl (Wops_run rfl rfl (?_))
                obtain ⟨l69, o69, il69⟩ := G67.m.o
                have hops69 : s66.ops.length ≤ 100100 := pot_opsB (K := K) (s := ({ s66 with n := n67 } : St)) G67.m (by omega)
                refine Wops_bslice (l := [.int .i64 (([55, 60, 61, 62] : List Int).getD r65 0), .int .u32 0, _, .int .u64 0, .slice none 0 0, .int .i64 0]) rfl rfl fun h69 n69 x69 g69 => ?_
                refine Wops_app (m := 1) rfl rfl (o69.ext x69) rfl (OwS.new (n := 1) (c := 1) g69 rfl).sl.first ⟨by omega, by omega⟩ rfl rfl (by decide) fun hh69 a69 c69 xx69 oo69 b69 => ?_
                refine Wops_run rfl rfl (Wops_run rfl rfl (Wops_st (l := [.slice a69 (({ s66 with n := n67 } : St).ops.length + 1) c69]) rfl rfl rfl rfl ((G67.m.gk.ext x69).ext xx69 fun r => (G67.m.no _ r).2.1 rfl) (by simp) rfl fun h70 nn70 x70 g70 => ?_))
                obtain ⟨s70, G70, hn70, hp70⟩ := G67.push' (k := 1) (os := [(([55, 60, 61, 62] : List Int).getD r65 0)]) (st' := []) il69 x69 xx69 rfl oo69 b69 x70 g70 (.one rfl) (fun w q => .plain q (getD_all (L := ([55, 60, 61, 62] : List Int)) (by decide) (show r65 < 4 by omega)))
                have rr70 := Nat.le_trans rr67 (Nat.add_le_add_right hn70 R)
                have NN70 := Nat.le_trans NN67 hn70
                refine K_finL [] rfl (?_)
                exact Told.mk [] rfl ⟨_, G70, NN70, by omega⟩
              · refine K_sskip (K_last (Wops_run rfl rfl (Wops_run rfl rfl (Wops_run rfl rfl (Wops_run rfl rfl (Wops_ld (v := .slice s63.oa s63.ops.length s63.oc) rfl G63.m.gk rfl ?_))))))
                refine Wops_run rfl rfl (Wops_run rfl rfl (Wops_run rfl rfl (Wops_run rfl rfl (Wops_ld (v := ptr K.pp) rfl G63.m.gk rfl ?_))))
                refine Wops_call rfl (G63.c48 (by decide)) ?_
                rintro _ h71 ⟨r71, n71, rfl, hr71, G71, hn71, hp71, hu71, hz71, x71⟩
                have rr71 := Nat.le_trans rr63 (Nat.add_le_add_right hn71 R)
                have NN71 := Nat.le_trans NN63 hn71
                obtain ⟨lq72, oq72, _⟩ := G71.m.o
                refine Wops_chk rfl rfl G71.m.gk (v := .slice s63.oa s63.ops.length s63.oc) rfl oq72.sl.same ?_
                refine Wops_run rfl rfl (Wops_run rfl rfl (?_))
                obtain ⟨l73, o73, il73⟩ := G71.m.o
                have hops73 : s63.ops.length ≤ 100100 := pot_opsB (K := K) (s := ({ s63 with n := n71 } : St)) G71.m (by omega)
                refine Wops_bslice (l := [.int .i64 (([54, 58, 59] : List Int).getD r62 0), .int .u32 0, _, .int .u64 0, .slice none 0 0, .int .i64 0]) rfl rfl fun h73 n73 x73 g73 => ?_
                refine Wops_app (m := 1) rfl rfl (o73.ext x73) rfl (OwS.new (n := 1) (c := 1) g73 rfl).sl.first ⟨by omega, by omega⟩ rfl rfl (by decide) fun hh73 a73 c73 xx73 oo73 b73 => ?_
                refine Wops_run rfl rfl (Wops_run rfl rfl (Wops_st (l := [.slice a73 (({ s63 with n := n71 } : St).ops.length + 1) c73]) rfl rfl rfl rfl ((G71.m.gk.ext x73).ext xx73 fun r => (G71.m.no _ r).2.1 rfl) (by simp) rfl fun h74 nn74 x74 g74 => ?_))
                obtain ⟨s74, G74, hn74, hp74⟩ := G71.push' (k := 1) (os := [(([54, 58, 59] : List Int).getD r62 0)]) (st' := []) il73 x73 xx73 rfl oo73 b73 x74 g74 (.one rfl) (fun w q => .plain q (getD_all (L := ([54, 58, 59] : List Int)) (by decide) (show r62 < 3 by omega)))
                have rr74 := Nat.le_trans rr71 (Nat.add_le_add_right hn74 R)
                have NN74 := Nat.le_trans NN71 hn74
                refine K_finL [] rfl (?_)
                exact Told.mk [] rfl ⟨_, G74, NN74, by omega⟩
            · refine K_reg (Wops_run rfl rfl (Wops_run rfl rfl (K_fin [(0, _), (1, _), (21, _), (103, _)] rfl (?_))))
              refine K_cond rfl (fun hc => ?_) (fun hc => ?_)
              · refine K_reg (Wops_run rfl rfl (Wops_run rfl rfl (Wops_call rfl ((H.t _).go G5 rr5 (by omega)) ?_)))
                rintro _ h75 ⟨s75, G75, hn75, hp75⟩
                have rr75 := Nat.le_trans rr5 (Nat.add_le_add_right hn75 R)
                have NN75 := Nat.le_trans NN5 hn75
                refine K_fin [(0, _)] rfl (?_)
                refine K_last (Wops_run rfl rfl (Wops_bslice (l := ints .i64 [64522, 64523, 64523]) rfl rfl fun h76 n76 x76 g76 => ?_))
                have G76 := G75.ext0 x76
                refine Wops_run rfl rfl (Wops_run rfl rfl (Wops_run rfl rfl (Wops_ld (v := ptr K.pp) rfl G76.m.gk rfl ?_)))
                refine Wops_call rfl (G76.c48 (by decide)) ?_
                rintro _ h77 ⟨r77, n77, rfl, hr77, G77, hn77, hp77, hu77, hz77, x77⟩
                have g76x77 : At h77 h75.next (.cells (ints .i64 [64522, 64523, 64523]) 1 false) := At.ext (S := (· = K.pp)) g76 x77 (by have := G75.m.lt; omega)
                have rr77 := Nat.le_trans rr75 (Nat.add_le_add_right hn77 R)
                have NN77 := Nat.le_trans NN75 hn77
                refine Wops_iaV rfl rfl ⟨by omega, by omega⟩ (Wops_ld (v := .int .i64 (([64522, 64523, 64523] : List Int).getD r77 0)) rfl g76x77 (by rw [Nat.zero_add, Nat.mul_one]; exact ints_getD (L := [64522, 64523, 64523]) (show r77 < 3 by omega)) ?_)
                refine Wops_call rfl (G77.c64 (st' := []) (by omega) (fun w q => .plain q (getD_all (L := ([64522, 64523, 64523] : List Int)) (by decide) (show r77 < 3 by omega)))) ?_
                rintro _ h78 ⟨s78, G78, hn78, hp78⟩
                have rr78 := Nat.le_trans rr77 (Nat.add_le_add_right hn78 R)
                have NN78 := Nat.le_trans NN77 hn78
                refine K_finL [] rfl (?_)
                exact Told.mk [] rfl ⟨_, G78, NN78, by omega⟩
              · refine K_reg (Wops_run rfl rfl (Wops_run rfl rfl (K_fin [(0, _), (1, _), (21, _), (118, _)] rfl (?_))))
                refine K_cond rfl (fun hc => ?_) (fun hc => ?_)
                · refine K_reg (Wops_run rfl rfl (Wops_run rfl rfl (Wops_call rfl ((H.t _).go G5 rr5 (by omega)) ?_)))
                  rintro _ h79 ⟨s79, G79, hn79, hp79⟩
                  have rr79 := Nat.le_trans rr5 (Nat.add_le_add_right hn79 R)
                  have NN79 := Nat.le_trans NN5 hn79
                  refine K_fin [(0, _)] rfl (?_)
                  refine K_last (Wops_run rfl rfl (Wops_run rfl rfl (Wops_run rfl rfl (Wops_run rfl rfl (Wops_ld (v := ptr K.pp) rfl G79.m.gk rfl ?_)))))
                  refine Wops_call rfl (G79.c48 (by decide)) ?_
                  rintro _ h80 ⟨r80, n80, rfl, hr80, G80, hn80, hp80, hu80, hz80, x80⟩
                  have rr80 := Nat.le_trans rr79 (Nat.add_le_add_right hn80 R)
                  have NN80 := Nat.le_trans NN79 hn80
                  refine Wops_run rfl rfl (Wops_call rfl (G80.c63 (st' := []) (by omega) (fun w q => .plain q (by decide))) ?_)
                  rintro _ h81 ⟨s81, G81, hn81, hp81⟩
                  have rr81 := Nat.le_trans rr80 (Nat.add_le_add_right hn81 R)
                  have NN81 := Nat.le_trans NN80 hn81
                  refine K_finL [] rfl (?_)
                  exact Told.mk [] rfl ⟨_, G81, NN81, by omega⟩
                · refine K_reg (Wops_run rfl rfl (Wops_run rfl rfl (K_fin [(0, _), (1, _), (21, _), (131, _)] rfl (?_))))
                  refine K_cond rfl (fun hc => ?_) (fun hc => ?_)
                  · refine K_reg (Wops_run rfl rfl (Wops_run rfl rfl (Wops_call rfl ((H.t _).go G5 rr5 (by omega)) ?_)))
                    rintro _ h82 ⟨s82, G82, hn82, hp82⟩
                    have rr82 := Nat.le_trans rr5 (Nat.add_le_add_right hn82 R)
                    have NN82 := Nat.le_trans NN5 hn82
                    refine K_fin [(0, _)] rfl (?_)
                    refine K_last (Wops_run rfl rfl (Wops_run rfl rfl (Wops_run rfl rfl (Wops_run rfl rfl (Wops_ld (v := .slice s82.oa s82.ops.length s82.oc) rfl G82.m.gk rfl ?_)))))
                    refine Wops_bslice (l := ints .i64 [64524, 64526]) rfl rfl fun h83 n83 x83 g83 => ?_
                    have G83 := G82.ext0 x83
                    refine Wops_run rfl rfl (Wops_run rfl rfl (Wops_run rfl rfl (Wops_ld (v := ptr K.pp) rfl G83.m.gk rfl ?_)))
                    refine Wops_call rfl (G83.c48 (by decide)) ?_
                    rintro _ h84 ⟨r84, n84, rfl, hr84, G84, hn84, hp84, hu84, hz84, x84⟩
                    have g83x84 : At h84 h82.next (.cells (ints .i64 [64524, 64526]) 1 false) := At.ext (S := (· = K.pp)) g83 x84 (by have := G82.m.lt; omega)
                    have rr84 := Nat.le_trans rr82 (Nat.add_le_add_right hn84 R)
                    have NN84 := Nat.le_trans NN82 hn84
                    obtain ⟨lq85, oq85, _⟩ := G84.m.o
                    refine Wops_chk rfl rfl G84.m.gk (v := .slice s82.oa s82.ops.length s82.oc) rfl oq85.sl.same ?_
                    refine Wops_iaV rfl rfl ⟨by omega, by omega⟩ (Wops_ld (v := .int .i64 (([64524, 64526] : List Int).getD r84 0)) rfl g83x84 (by rw [Nat.zero_add, Nat.mul_one]; exact ints_getD (L := [64524, 64526]) (show r84 < 2 by omega)) ?_)
                    refine Wops_run rfl rfl (?_)
                    obtain ⟨l86, o86, il86⟩ := G84.m.o
                    have hops86 : s82.ops.length ≤ 100100 := pot_opsB (K := K) (s := ({ s82 with n := n84 } : St)) G84.m (by omega)
                    refine Wops_bslice (l := [.int .i64 (([64524, 64526] : List Int).getD r84 0), .int .u32 0, .int .u32 0, .int .u64 0, .slice none 0 0, .int .i64 0]) rfl rfl fun h86 n86 x86 g86 => ?_
                    refine Wops_app (m := 1) rfl rfl (o86.ext x86) rfl (OwS.new (n := 1) (c := 1) g86 rfl).sl.first ⟨by omega, by omega⟩ rfl rfl (by decide) fun hh86 a86 c86 xx86 oo86 b86 => ?_
                    refine Wops_run rfl rfl (Wops_run rfl rfl (Wops_st (l := [.slice a86 (({ s82 with n := n84 } : St).ops.length + 1) c86]) rfl rfl rfl rfl ((G84.m.gk.ext x86).ext xx86 fun r => (G84.m.no _ r).2.1 rfl) (by simp) rfl fun h87 nn87 x87 g87 => ?_))
                    obtain ⟨s87, G87, hn87, hp87⟩ := G84.push' (k := 1) (os := [(([64524, 64526] : List Int).getD r84 0)]) (st' := []) il86 x86 xx86 rfl oo86 b86 x87 g87 (.one rfl) (fun w q => .plain q (getD_all (L := ([64524, 64526] : List Int)) (by decide) (show r84 < 2 by omega)))
                    have rr87 := Nat.le_trans rr84 (Nat.add_le_add_right hn87 R)
                    have NN87 := Nat.le_trans NN84 hn87
                    refine K_finL [] rfl (?_)
                    exact Told.mk [] rfl ⟨_, G87, NN87, by omega⟩
                  · refine K_reg (Wops_run rfl rfl (Wops_run rfl rfl (K_fin [(0, _), (1, _), (21, _), (154, _)] rfl (?_))))
                    refine K_cond rfl (fun hc => ?_) (fun hc => ?_)
                    · refine K_reg (Wops_run rfl rfl (Wops_run rfl rfl (Wops_run rfl rfl (Wops_run rfl rfl (Wops_ld (v := ptr K.pp) rfl G5.m.gk rfl ?_)))))
                      refine Wops_call rfl (G5.c48 (by decide)) ?_
                      rintro _ h88 ⟨r88, n88, rfl, hr88, G88, hn88, hp88, hu88, hz88, x88⟩
                      have rr88 := Nat.le_trans rr5 (Nat.add_le_add_right hn88 R)
                      have NN88 := Nat.le_trans NN5 hn88
                      refine Wops_run rfl rfl (Wops_call rfl (G88.c60 (by omega)) ?_)
                      rintro _ h89 ⟨s89, G89, hn89, hp89⟩
                      have rr89 := Nat.le_trans rr88 (Nat.add_le_add_right hn89 R)
                      have NN89 := Nat.le_trans NN88 hn89
                      refine K_fin [(0, _)] rfl (?_)
                      refine K_reg (Wops_run rfl rfl (Wops_call rfl (G89.c75 (by omega)) ?_))
                      rintro _ h90 ⟨s90, G90, hn90, hp90⟩
                      have rr90 := Nat.le_trans rr89 (Nat.add_le_add_right hn90 R)
                      have NN90 := Nat.le_trans NN89 hn90
                      refine K_fin [(0, _)] rfl (?_)
                      refine K_last (Wops_run rfl rfl (Wops_call rfl (G90.c63 (st' := []) (by omega) (fun w q => .plain q (by decide))) ?_))
                      rintro _ h91 ⟨s91, G91, hn91, hp91⟩
                      have rr91 := Nat.le_trans rr90 (Nat.add_le_add_right hn91 R)
                      have NN91 := Nat.le_trans NN90 hn91
                      refine K_finL [] rfl (?_)
                      exact Told.mk [] rfl ⟨_, G91, NN91, by omega⟩
                    · refine K_reg (Wops_run rfl rfl (Wops_run rfl rfl (K_fin [(0, _), (1, _), (21, _), (168, _)] rfl (?_))))
                      refine K_cond rfl (fun hc => ?_) (fun hc => ?_)
                      · refine K_last (Wops_run rfl rfl (Wops_run rfl rfl (Wops_call rfl ((H.lo _).go G5 rr5 (by omega)) ?_)))
                        rintro _ h92 ⟨s92, G92, hn92, hp92⟩
                        have rr92 := Nat.le_trans rr5 (Nat.add_le_add_right hn92 R)
                        have NN92 := Nat.le_trans NN5 hn92
                        refine K_finL [] rfl (?_)
                        exact Told.mk [] rfl ⟨_, G92, NN92, by omega⟩
                      · refine K_reg (Wops_run rfl rfl (Wops_run rfl rfl (K_fin [(0, _), (1, _), (21, _), (173, _)] rfl (?_))))
                        refine K_cond rfl (fun hc => ?_) (fun hc => ?_)
                        · refine K_last (Wops_run rfl rfl (Wops_bslice (l := ints .i64 [64521, 64525]) rfl rfl fun h93 n93 x93 g93 => ?_))
                          have G93 := G5.ext0 x93
                          refine Wops_run rfl rfl (Wops_run rfl rfl (Wops_run rfl rfl (Wops_ld (v := ptr K.pp) rfl G93.m.gk rfl ?_)))
                          refine Wops_run rfl rfl (Wops_run rfl rfl (Wops_run rfl rfl (Wops_ld (v := ptr K.pp) rfl G93.m.gk rfl ?_)))
                          refine Wops_call rfl (G93.c48 (by decide)) ?_
                          rintro _ h94 ⟨r94, n94, rfl, hr94, G94, hn94, hp94, hu94, hz94, x94⟩
                          have g93x94 : At h94 h4.next (.cells (ints .i64 [64521, 64525]) 1 false) := At.ext (S := (· = K.pp)) g93 x94 (by have := G5.m.lt; omega)
                          have rr94 := Nat.le_trans rr5 (Nat.add_le_add_right hn94 R)
                          have NN94 := Nat.le_trans NN5 hn94
                          refine Wops_chk rfl rfl G94.m.gk (v := ptr K.pp) rfl (by simp [sameV, sameCell]) ?_
                          refine Wops_iaV rfl rfl ⟨by omega, by omega⟩ (Wops_ld (v := .int .i64 (([64521, 64525] : List Int).getD r94 0)) rfl g93x94 (by rw [Nat.zero_add, Nat.mul_one]; exact ints_getD (L := [64521, 64525]) (show r94 < 2 by omega)) ?_)
                          refine Wops_call rfl (G94.c48 (by decide)) ?_
                          rintro _ h95 ⟨r95, n95, rfl, hr95, G95, hn95, hp95, hu95, hz95, x95⟩
                          have g93x94x95 : At h95 h4.next (.cells (ints .i64 [64521, 64525]) 1 false) := At.ext (S := (· = K.pp)) g93x94 x95 (by have := G5.m.lt; omega)
                          have rr95 := Nat.le_trans rr94 (Nat.add_le_add_right hn95 R)
                          have NN95 := Nat.le_trans NN94 hn95
                          refine Wops_chk rfl rfl g93x94x95 (v := .int .i64 (([64521, 64525] : List Int).getD r94 0)) (by rw [Nat.zero_add, Nat.mul_one]; exact ints_getD (L := ([64521, 64525] : List Int)) (show r94 < 2 by omega)) (by simp [sameV, sameCell]) ?_
                          refine Wops_run rfl rfl (Wops_call rfl (G95.c63 (st' := []) (by omega) (fun w q => .plain q (getD_all (L := ([64521, 64525] : List Int)) (by decide) (show r94 < 2 by omega)))) ?_)
                          rintro _ h96 ⟨s96, G96, hn96, hp96⟩
                          have rr96 := Nat.le_trans rr95 (Nat.add_le_add_right hn96 R)
                          have NN96 := Nat.le_trans NN95 hn96
                          refine K_finL [] rfl (?_)
                          exact Told.mk [] rfl ⟨_, G96, NN96, by omega⟩
                        · refine K_reg (Wops_run rfl rfl (Wops_run rfl rfl (K_fin [(0, _), (1, _), (191, _)] rfl (?_))))
                          refine K_cond rfl (fun hc => ?_) (fun hc => ?_)
                          · refine K_reg (Wops_run rfl rfl (Wops_run rfl rfl (Wops_run rfl rfl (Wops_run rfl rfl (Wops_ld (v := ptr K.pp) rfl G5.m.gk rfl ?_)))))
                            refine Wops_call rfl (G5.c48 (by decide)) ?_
                            rintro _ h97 ⟨r97, n97, rfl, hr97, G97, hn97, hp97, hu97, hz97, x97⟩
                            have rr97 := Nat.le_trans rr5 (Nat.add_le_add_right hn97 R)
                            have NN97 := Nat.le_trans NN5 hn97
                            refine Wops_run rfl rfl (Wops_call rfl (G97.c60 (by omega)) ?_)
                            rintro _ h98 ⟨s98, G98, hn98, hp98⟩
                            have rr98 := Nat.le_trans rr97 (Nat.add_le_add_right hn98 R)
                            have NN98 := Nat.le_trans NN97 hn98
                            refine K_fin [(0, _)] rfl (?_)
                            refine K_reg (Wops_run rfl rfl (Wops_call rfl (G98.c75 (by omega)) ?_))
                            rintro _ h99 ⟨s99, G99, hn99, hp99⟩
                            have rr99 := Nat.le_trans rr98 (Nat.add_le_add_right hn99 R)
                            have NN99 := Nat.le_trans NN98 hn99
                            refine K_fin [(0, _)] rfl (?_)
                            refine K_reg (Wops_run rfl rfl (Wops_run rfl rfl (Wops_run rfl rfl (Wops_run rfl rfl (Wops_ld (v := ptr K.pp) rfl G99.m.gk rfl ?_)))))
                            refine Wops_call rfl (G99.c48 (by decide)) ?_
                            rintro _ h100 ⟨r100, n100, rfl, hr100, G100, hn100, hp100, hu100, hz100, x100⟩
                            have rr100 := Nat.le_trans rr99 (Nat.add_le_add_right hn100 R)
                            have NN100 := Nat.le_trans NN99 hn100
                            refine Wops_run rfl rfl (Wops_call rfl (G100.c60 (by omega)) ?_)
                            rintro _ h101 ⟨s101, G101, hn101, hp101⟩
                            have rr101 := Nat.le_trans rr100 (Nat.add_le_add_right hn101 R)
                            have NN101 := Nat.le_trans NN100 hn101
                            refine K_fin [(0, _)] rfl (?_)
                            refine K_last (Wops_run rfl rfl (Wops_call rfl (G101.c63 (st' := []) (by omega) (fun w q => .plain q (by decide))) ?_))
                            rintro _ h102 ⟨s102, G102, hn102, hp102⟩
                            have rr102 := Nat.le_trans rr101 (Nat.add_le_add_right hn102 R)
                            have NN102 := Nat.le_trans NN101 hn102
                            refine K_finL [] rfl (?_)
                            exact Told.mk [] rfl ⟨_, G102, NN102, by omega⟩
                          · refine K_last (Wops_run rfl rfl (Wops_run rfl rfl (Wops_call rfl ((H.j _).go G5 rr5 (by omega)) ?_)))
                            rintro _ h103 ⟨s103, G103, hn103, hp103⟩
                            have rr103 := Nat.le_trans rr5 (Nat.add_le_add_right hn103 R)
                            have NN103 := Nat.le_trans NN5 hn103
                            refine K_finL [] rfl (?_)
                            exact Told.mk [] rfl ⟨_, G103, NN103, by omega⟩
      · refine K_reg (Wops_run rfl rfl (Wops_run rfl rfl (K_fin [(0, _), (1, _), (4, _), (21, _), (44, _)] rfl (?_))))
        refine K_cond rfl (fun hc => ?_) (fun hc => ?_)
        · refine K_reg (Wops_run rfl rfl (Wops_run rfl rfl (Wops_run rfl rfl (Wops_call rfl ((H.e _ _).go G5 rr5 (by omega)) ?_))))
          rintro _ h104 ⟨s104, G104, hn104, hp104⟩
          have rr104 := Nat.le_trans rr5 (Nat.add_le_add_right hn104 R)
          have NN104 := Nat.le_trans NN5 hn104
          refine K_fin [(0, _), (4, _)] rfl (?_)
          refine K_reg (Wops_run rfl rfl (K_fin [(0, _), (4, _), (7, _)] rfl (?_)))
          refine K_ss (K_reg (Wops_run rfl rfl (Wops_run rfl rfl (K_fin [(0, _), (7, _), (52, _)] rfl (?_)))))
          refine K_scond rfl (fun hc => ?_) (fun hc => ?_)
          · refine K_reg (Wops_run rfl rfl (K_fin [(0, _), (7, _)] rfl (?_)))
            refine K_last (Wops_run rfl rfl (Wops_run rfl rfl (Wops_call rfl (G104.c63 (st' := []) (by omega) (fun w q => .plain q (by decide))) ?_)))
            rintro _ h105 ⟨s105, G105, hn105, hp105⟩
            have rr105 := Nat.le_trans rr104 (Nat.add_le_add_right hn105 R)
            have NN105 := Nat.le_trans NN104 hn105
            refine K_finL [] rfl (?_)
            exact Told.mk [] rfl ⟨_, G105, NN105, by omega⟩
          · refine K_sskip (K_last (Wops_run rfl rfl (Wops_run rfl rfl (Wops_call rfl (G104.c63 (st' := []) (by omega) (fun w q => .plain q (by decide))) ?_))))
            rintro _ h106 ⟨s106, G106, hn106, hp106⟩
            have rr106 := Nat.le_trans rr104 (Nat.add_le_add_right hn106 R)
            have NN106 := Nat.le_trans NN104 hn106
            refine K_finL [] rfl (?_)
            exact Told.mk [] rfl ⟨_, G106, NN106, by omega⟩
        · refine K_ss (K_reg (Wops_run rfl rfl (Wops_run rfl rfl (K_fin [(0, _), (1, _), (4, _), (21, _), (56, _)] rfl (?_)))))
          refine K_scond rfl (fun hc => ?_) (fun hc => ?_)
          · refine K_sskip (K_cond rfl (fun hc => ?_) (fun hc => ?_))
            · refine K_reg (Wops_run rfl rfl (Wops_run rfl rfl (Wops_run rfl rfl (Wops_call rfl ((H.e _ _).go G5 rr5 (by omega)) ?_))))
              rintro _ h107 ⟨s107, G107, hn107, hp107⟩
              have rr107 := Nat.le_trans rr5 (Nat.add_le_add_right hn107 R)
              have NN107 := Nat.le_trans NN5 hn107
              refine K_fin [(0, _), (1, _), (4, _)] rfl (?_)
              refine K_reg (Wops_run rfl rfl (Wops_run rfl rfl (Wops_run rfl rfl (Wops_run rfl rfl (Wops_call rfl ((H.e _ _).go G107 rr107 (by omega)) ?_)))))
              rintro _ h108 ⟨s108, G108, hn108, hp108⟩
              have rr108 := Nat.le_trans rr107 (Nat.add_le_add_right hn108 R)
              have NN108 := Nat.le_trans NN107 hn108
              refine K_fin [(0, _), (4, _)] rfl (?_)
              refine K_reg (Wops_bslice (l := ints .i64 [54, 58, 59]) rfl rfl fun h109 n109 x109 g109 => ?_)
              have G109 := G108.ext0 x109
              refine Wops_run rfl rfl (Wops_run rfl rfl (Wops_run rfl rfl (Wops_ld (v := ptr K.pp) rfl G109.m.gk rfl ?_)))
              refine Wops_call rfl (G109.c48 (by decide)) ?_
              rintro _ h110 ⟨r110, n110, rfl, hr110, G110, hn110, hp110, hu110, hz110, x110⟩
              have g109x110 : At h110 h108.next (.cells (ints .i64 [54, 58, 59]) 1 false) := At.ext (S := (· = K.pp)) g109 x110 (by have := G108.m.lt; omega)
              have rr110 := Nat.le_trans rr108 (Nat.add_le_add_right hn110 R)
              have NN110 := Nat.le_trans NN108 hn110
              refine Wops_iaV rfl rfl ⟨by omega, by omega⟩ (Wops_ld (v := .int .i64 (([54, 58, 59] : List Int).getD r110 0)) rfl g109x110 (by rw [Nat.zero_add, Nat.mul_one]; exact ints_getD (L := [54, 58, 59]) (show r110 < 3 by omega)) ?_)
              refine Wops_run rfl rfl (K_fin [(0, _), (4, _), (8, _)] rfl (?_))
              obtain ⟨s111, G111, hn111, hp111⟩ : ∃ q, Go K h s h110 q [] ∧ ({ s108 with n := n110 } : St).n ≤ q.n ∧ pot K q ≤ pot K ({ s108 with n := n110 } : St) := ⟨_, G110, Nat.le_refl _, Int.le_refl _⟩
              have rr111 := Nat.le_trans rr110 (Nat.add_le_add_right hn111 R)
              have NN111 := Nat.le_trans NN110 hn111
              refine K_ss (K_reg (Wops_run rfl rfl (Wops_run rfl rfl (K_fin [(0, _), (8, _), (77, _)] rfl (?_)))))
              refine K_scond rfl (fun hc => ?_) (fun hc => ?_)
              · refine K_reg (Wops_bslice (l := ints .i64 [55, 60, 61, 62]) rfl rfl fun h112 n112 x112 g112 => ?_)
                have G112 := G111.ext0 x112
                refine Wops_run rfl rfl (Wops_run rfl rfl (Wops_run rfl rfl (Wops_ld (v := ptr K.pp) rfl G112.m.gk rfl ?_)))
                refine Wops_call rfl (G112.c48 (by decide)) ?_
                rintro _ h113 ⟨r113, n113, rfl, hr113, G113, hn113, hp113, hu113, hz113, x113⟩
                have g112x113 : At h113 h110.next (.cells (ints .i64 [55, 60, 61, 62]) 1 false) := At.ext (S := (· = K.pp)) g112 x113 (by have := G111.m.lt; omega)
                have rr113 := Nat.le_trans rr111 (Nat.add_le_add_right hn113 R)
                have NN113 := Nat.le_trans NN111 hn113
                refine Wops_iaV rfl rfl ⟨by omega, by omega⟩ (Wops_ld (v := .int .i64 (([55, 60, 61, 62] : List Int).getD r113 0)) rfl g112x113 (by rw [Nat.zero_add, Nat.mul_one]; exact ints_getD (L := [55, 60, 61, 62]) (show r113 < 4 by omega)) ?_)
                refine Wops_run rfl rfl (K_fin [(0, _), (8, _)] rfl (?_))
                obtain ⟨s114, G114, hn114, hp114⟩ : ∃ q, Go K h s h113 q [] ∧ ({ s111 with n := n113 } : St).n ≤ q.n ∧ pot K q ≤ pot K ({ s111 with n := n113 } : St) := ⟨_, G113, Nat.le_refl _, Int.le_refl _⟩
                have rr114 := Nat.le_trans rr113 (Nat.add_le_add_right hn114 R)
                have NN114 := Nat.le_trans NN113 hn114
                refine K_last (Wops_run rfl rfl (Wops_run rfl rfl (Wops_run rfl rfl (Wops_run rfl rfl (Wops_ld (v := .slice s114.oa s114.ops.length s114.oc) rfl G114.m.gk rfl ?_)))))
                refine Wops_run rfl rfl (Wops_run rfl rfl (Wops_run rfl rfl (Wops_run rfl rfl (Wops_ld (v := ptr K.pp) rfl G114.m.gk rfl ?_))))
                refine Wops_call rfl (G114.c48 (by decide)) ?_
                rintro _ h115 ⟨r115, n115, rfl, hr115, G115, hn115, hp115, hu115, hz115, x115⟩
                have rr115 := Nat.le_trans rr114 (Nat.add_le_add_right hn115 R)
                have NN115 := Nat.le_trans NN114 hn115
                obtain ⟨lq116, oq116, _⟩ := G115.m.o
                refine Wops_chk rfl rfl G115.m.gk (v := .slice s114.oa s114.ops.length s114.oc) rfl oq116.sl.same ?_
                refine Wops_run rfl rfl (Wops_run rfl rfl (?_))
                obtain ⟨l117, o117, il117⟩ := G115.m.o
                have hops117 : s114.ops.length ≤ 100100 := pot_opsB (K := K) (s := ({ s114 with n := n115 } : St)) G115.m (by omega)
                refine Wops_bslice (l := [.int .i64 (([55, 60, 61, 62] : List Int).getD r113 0), .int .u32 0, _, .int .u64 0, .slice none 0 0, .int .i64 0]) rfl rfl fun h117 n117 x117 g117 => ?_
                refine Wops_app (m := 1) rfl rfl (o117.ext x117) rfl (OwS.new (n := 1) (c := 1) g117 rfl).sl.first ⟨by omega, by omega⟩ rfl rfl (by decide) fun hh117 a117 c117 xx117 oo117 b117 => ?_
                refine Wops_run rfl rfl (Wops_run rfl rfl (Wops_st (l := [.slice a117 (({ s114 with n := n115 } : St).ops.length + 1) c117]) rfl rfl rfl rfl ((G115.m.gk.ext x117).ext xx117 fun r => (G115.m.no _ r).2.1 rfl) (by simp) rfl fun h118 nn118 x118 g118 => ?_))
                obtain ⟨s118, G118, hn118, hp118⟩ := G115.push' (k := 1) (os := [(([55, 60, 61, 62] : List Int).getD r113 0)]) (st' := []) il117 x117 xx117 rfl oo117 b117 x118 g118 (.one rfl) (fun w q => .plain q (getD_all (L := ([55, 60, 61, 62] : List Int)) (by decide) (show r113 < 4 by omega)))
                have rr118 := Nat.le_trans rr115 (Nat.add_le_add_right hn118 R)
                have NN118 := Nat.le_trans NN115 hn118
                refine K_finL [] rfl (?_)
                exact Told.mk [] rfl ⟨_, G118, NN118, by omega⟩
              · refine K_sskip (K_last (Wops_run rfl rfl (Wops_run rfl rfl (Wops_run rfl rfl (Wops_run rfl rfl (Wops_ld (v := .slice s111.oa s111.ops.length s111.oc) rfl G111.m.gk rfl ?_))))))
                refine Wops_run rfl rfl (Wops_run rfl rfl (Wops_run rfl rfl (Wops_run rfl rfl (Wops_ld (v := ptr K.pp) rfl G111.m.gk rfl ?_))))
                refine Wops_call rfl (G111.c48 (by decide)) ?_
                rintro _ h119 ⟨r119, n119, rfl, hr119, G119, hn119, hp119, hu119, hz119, x119⟩
                have rr119 := Nat.le_trans rr111 (Nat.add_le_add_right hn119 R)
                have NN119 := Nat.le_trans NN111 hn119
                obtain ⟨lq120, oq120, _⟩ := G119.m.o
                refine Wops_chk rfl rfl G119.m.gk (v := .slice s111.oa s111.ops.length s111.oc) rfl oq120.sl.same ?_
                refine Wops_run rfl rfl (Wops_run rfl rfl (?_))
                obtain ⟨l121, o121, il121⟩ := G119.m.o
                have hops121 : s111.ops.length ≤ 100100 := pot_opsB (K := K) (s := ({ s111 with n := n119 } : St)) G119.m (by omega)
                refine Wops_bslice (l := [.int .i64 (([54, 58, 59] : List Int).getD r110 0), .int .u32 0, _, .int .u64 0, .slice none 0 0, .int .i64 0]) rfl rfl fun h121 n121 x121 g121 => ?_
                refine Wops_app (m := 1) rfl rfl (o121.ext x121) rfl (OwS.new (n := 1) (c := 1) g121 rfl).sl.first ⟨by omega, by omega⟩ rfl rfl (by decide) fun hh121 a121 c121 xx121 oo121 b121 => ?_
                refine Wops_run rfl rfl (Wops_run rfl rfl (Wops_st (l := [.slice a121 (({ s111 with n := n119 } : St).ops.length + 1) c121]) rfl rfl rfl rfl ((G119.m.gk.ext x121).ext xx121 fun r => (G119.m.no _ r).2.1 rfl) (by simp) rfl fun h122 nn122 x122 g122 => ?_))
                obtain ⟨s122, G122, hn122, hp122⟩ := G119.push' (k := 1) (os := [(([54, 58, 59] : List Int).getD r110 0)]) (st' := []) il121 x121 xx121 rfl oo121 b121 x122 g122 (.one rfl) (fun w q => .plain q (getD_all (L := ([54, 58, 59] : List Int)) (by decide) (show r110 < 3 by omega)))
                have rr122 := Nat.le_trans rr119 (Nat.add_le_add_right hn122 R)
                have NN122 := Nat.le_trans NN119 hn122
                refine K_finL [] rfl (?_)
                exact Told.mk [] rfl ⟨_, G122, NN122, by omega⟩
            · refine K_reg (Wops_run rfl rfl (Wops_run rfl rfl (K_fin [(0, _), (1, _), (21, _), (103, _)] rfl (?_))))
              refine K_cond rfl (fun hc => ?_) (fun hc => ?_)
              · refine K_reg (Wops_run rfl rfl (Wops_run rfl rfl (Wops_call rfl ((H.t _).go G5 rr5 (by omega)) ?_)))
                rintro _ h123 ⟨s123, G123, hn123, hp123⟩
                have rr123 := Nat.le_trans rr5 (Nat.add_le_add_right hn123 R)
                have NN123 := Nat.le_trans NN5 hn123
                refine K_fin [(0, _)] rfl (?_)
                refine K_last (Wops_run rfl rfl (Wops_bslice (l := ints .i64 [64522, 64523, 64523]) rfl rfl fun h124 n124 x124 g124 => ?_))
                have G124 := G123.ext0 x124
                refine Wops_run rfl rfl (Wops_run rfl rfl (Wops_run rfl rfl (Wops_ld (v := ptr K.pp) rfl G124.m.gk rfl ?_)))
                refine Wops_call rfl (G124.c48 (by decide)) ?_
                rintro _ h125 ⟨r125, n125, rfl, hr125, G125, hn125, hp125, hu125, hz125, x125⟩
                have g124x125 : At h125 h123.next (.cells (ints .i64 [64522, 64523, 64523]) 1 false) := At.ext (S := (· = K.pp)) g124 x125 (by have := G123.m.lt; omega)
                have rr125 := Nat.le_trans rr123 (Nat.add_le_add_right hn125 R)
                have NN125 := Nat.le_trans NN123 hn125
                refine Wops_iaV rfl rfl ⟨by omega, by omega⟩ (Wops_ld (v := .int .i64 (([64522, 64523, 64523] : List Int).getD r125 0)) rfl g124x125 (by rw [Nat.zero_add, Nat.mul_one]; exact ints_getD (L := [64522, 64523, 64523]) (show r125 < 3 by omega)) ?_)
                refine Wops_call rfl (G125.c64 (st' := []) (by omega) (fun w q => .plain q (getD_all (L := ([64522, 64523, 64523] : List Int)) (by decide) (show r125 < 3 by omega)))) ?_
                rintro _ h126 ⟨s126, G126, hn126, hp126⟩
                have rr126 := Nat.le_trans rr125 (Nat.add_le_add_right hn126 R)
                have NN126 := Nat.le_trans NN125 hn126
                refine K_finL [] rfl (?_)
                exact Told.mk [] rfl ⟨_, G126, NN126, by omega⟩
              · refine K_reg (Wops_run rfl rfl (Wops_run rfl rfl (K_fin [(0, _), (1, _), (21, _), (118, _)] rfl (?_))))
                refine K_cond rfl (fun hc => ?_) (fun hc => ?_)
                · refine K_reg (Wops_run rfl rfl (Wops_run rfl rfl (Wops_call rfl ((H.t _).go G5 rr5 (by omega)) ?_)))
                  rintro _ h127 ⟨s127, G127, hn127, hp127⟩
                  have rr127 := Nat.le_trans rr5 (Nat.add_le_add_right hn127 R)
                  have NN127 := Nat.le_trans NN5 hn127
                  refine K_fin [(0, _)] rfl (?_)
                  refine K_last (Wops_run rfl rfl (Wops_run rfl rfl (Wops_run rfl rfl (Wops_run rfl rfl (Wops_ld (v := ptr K.pp) rfl G127.m.gk rfl ?_)))))
                  refine Wops_call rfl (G127.c48 (by decide)) ?_
                  rintro _ h128 ⟨r128, n128, rfl, hr128, G128, hn128, hp128, hu128, hz128, x128⟩
                  have rr128 := Nat.le_trans rr127 (Nat.add_le_add_right hn128 R)
                  have NN128 := Nat.le_trans NN127 hn128
                  refine Wops_run rfl rfl (Wops_call rfl (G128.c63 (st' := []) (by omega) (fun w q => .plain q (by decide))) ?_)
                  rintro _ h129 ⟨s129, G129, hn129, hp129⟩
                  have rr129 := Nat.le_trans rr128 (Nat.add_le_add_right hn129 R)
                  have NN129 := Nat.le_trans NN128 hn129
                  refine K_finL [] rfl (?_)
                  exact Told.mk [] rfl ⟨_, G129, NN129, by omega⟩
                · refine K_reg (Wops_run rfl rfl (Wops_run rfl rfl (K_fin [(0, _), (1, _), (21, _), (131, _)] rfl (?_))))
                  refine K_cond rfl (fun hc => ?_) (fun hc => ?_)
                  · refine K_reg (Wops_run rfl rfl (Wops_run rfl rfl (Wops_call rfl ((H.t _).go G5 rr5 (by omega)) ?_)))
                    rintro _ h130 ⟨s130, G130, hn130, hp130⟩
                    have rr130 := Nat.le_trans rr5 (Nat.add_le_add_right hn130 R)
                    have NN130 := Nat.le_trans NN5 hn130
                    refine K_fin [(0, _)] rfl (?_)
                    refine K_last (Wops_run rfl rfl (Wops_run rfl rfl (Wops_run rfl rfl (Wops_run rfl rfl (Wops_ld (v := .slice s130.oa s130.ops.length s130.oc) rfl G130.m.gk rfl ?_)))))
                    refine Wops_bslice (l := ints .i64 [64524, 64526]) rfl rfl fun h131 n131 x131 g131 => ?_
                    have G131 := G130.ext0 x131
                    refine Wops_run rfl rfl (Wops_run rfl rfl (Wops_run rfl rfl (Wops_ld (v := ptr K.pp) rfl G131.m.gk rfl ?_)))
                    refine Wops_call rfl (G131.c48 (by decide)) ?_
                    rintro _ h132 ⟨r132, n132, rfl, hr132, G132, hn132, hp132, hu132, hz132, x132⟩
                    have g131x132 : At h132 h130.next (.cells (ints .i64 [64524, 64526]) 1 false) := At.ext (S := (· = K.pp)) g131 x132 (by have := G130.m.lt; omega)
                    have rr132 := Nat.le_trans rr130 (Nat.add_le_add_right hn132 R)
                    have NN132 := Nat.le_trans NN130 hn132
                    obtain ⟨lq133, oq133, _⟩ := G132.m.o
                    refine Wops_chk rfl rfl G132.m.gk (v := .slice s130.oa s130.ops.length s130.oc) rfl oq133.sl.same ?_
                    refine Wops_iaV rfl rfl ⟨by omega, by omega⟩ (Wops_ld (v := .int .i64 (([64524, 64526] : List Int).getD r132 0)) rfl g131x132 (by rw [Nat.zero_add, Nat.mul_one]; exact ints_getD (L := [64524, 64526]) (show r132 < 2 by omega)) ?_)
                    refine Wops_run rfl rfl (?_)
                    obtain ⟨l134, o134, il134⟩ := G132.m.o
                    have hops134 : s130.ops.length ≤ 100100 := pot_opsB (K := K) (s := ({ s130 with n := n132 } : St)) G132.m (by omega)
                    refine Wops_bslice (l := [.int .i64 (([64524, 64526] : List Int).getD r132 0), .int .u32 0, .int .u32 0, .int .u64 0, .slice none 0 0, .int .i64 0]) rfl rfl fun h134 n134 x134 g134 => ?_
                    refine Wops_app (m := 1) rfl rfl (o134.ext x134) rfl (OwS.new (n := 1) (c := 1) g134 rfl).sl.first ⟨by omega, by omega⟩ rfl rfl (by decide) fun hh134 a134 c134 xx134 oo134 b134 => ?_
                    refine Wops_run rfl rfl (Wops_run rfl rfl (Wops_st (l := [.slice a134 (({ s130 with n := n132 } : St).ops.length + 1) c134]) rfl rfl rfl rfl ((G132.m.gk.ext x134).ext xx134 fun r => (G132.m.no _ r).2.1 rfl) (by simp) rfl fun h135 nn135 x135 g135 => ?_))
                    obtain ⟨s135, G135, hn135, hp135⟩ := G132.push' (k := 1) (os := [(([64524, 64526] : List Int).getD r132 0)]) (st' := []) il134 x134 xx134 rfl oo134 b134 x135 g135 (.one rfl) (fun w q => .plain q (getD_all (L := ([64524, 64526] : List Int)) (by decide) (show r132 < 2 by omega)))
                    have rr135 := Nat.le_trans rr132 (Nat.add_le_add_right hn135 R)
                    have NN135 := Nat.le_trans NN132 hn135
                    refine K_finL [] rfl (?_)
                    exact Told.mk [] rfl ⟨_, G135, NN135, by omega⟩
                  · refine K_reg (Wops_run rfl rfl (Wops_run rfl rfl (K_fin [(0, _), (1, _), (21, _), (154, _)] rfl (?_))))
                    refine K_cond rfl (fun hc => ?_) (fun hc => ?_)
                    · refine K_reg (Wops_run rfl rfl (Wops_run rfl rfl (Wops_run rfl rfl (Wops_run rfl rfl (Wops_ld (v := ptr K.pp) rfl G5.m.gk rfl ?_)))))
                      refine Wops_call rfl (G5.c48 (by decide)) ?_
                      rintro _ h136 ⟨r136, n136, rfl, hr136, G136, hn136, hp136, hu136, hz136, x136⟩
                      have rr136 := Nat.le_trans rr5 (Nat.add_le_add_right hn136 R)
                      have NN136 := Nat.le_trans NN5 hn136
                      refine Wops_run rfl rfl (Wops_call rfl (G136.c60 (by omega)) ?_)
                      rintro _ h137 ⟨s137, G137, hn137, hp137⟩
                      have rr137 := Nat.le_trans rr136 (Nat.add_le_add_right hn137 R)
                      have NN137 := Nat.le_trans NN136 hn137
                      refine K_fin [(0, _)] rfl (?_)
                      refine K_reg (Wops_run rfl rfl (Wops_call rfl (G137.c75 (by omega)) ?_))
                      rintro _ h138 ⟨s138, G138, hn138, hp138⟩
                      have rr138 := Nat.le_trans rr137 (Nat.add_le_add_right hn138 R)
                      have NN138 := Nat.le_trans NN137 hn138
                      refine K_fin [(0, _)] rfl (?_)
                      refine K_last (Wops_run rfl rfl (Wops_call rfl (G138.c63 (st' := []) (by omega) (fun w q => .plain q (by decide))) ?_))
                      rintro _ h139 ⟨s139, G139, hn139, hp139⟩
                      have rr139 := Nat.le_trans rr138 (Nat.add_le_add_right hn139 R)
                      have NN139 := Nat.le_trans NN138 hn139
                      refine K_finL [] rfl (?_)
                      exact Told.mk [] rfl ⟨_, G139, NN139, by omega⟩
                    · refine K_reg (Wops_run rfl rfl (Wops_run rfl rfl (K_fin [(0, _), (1, _), (21, _), (168, _)] rfl (?_))))
                      refine K_cond rfl (fun hc => ?_) (fun hc => ?_)
                      · refine K_last (Wops_run rfl rfl (Wops_run rfl rfl (Wops_call rfl ((H.lo _).go G5 rr5 (by omega)) ?_)))
                        rintro _ h140 ⟨s140, G140, hn140, hp140⟩
                        have rr140 := Nat.le_trans rr5 (Nat.add_le_add_right hn140 R)
                        have NN140 := Nat.le_trans NN5 hn140
                        refine K_finL [] rfl (?_)
                        exact Told.mk [] rfl ⟨_, G140, NN140, by omega⟩
                      · refine K_reg (Wops_run rfl rfl (Wops_run rfl rfl (K_fin [(0, _), (1, _), (21, _), (173, _)] rfl (?_))))
                        refine K_cond rfl (fun hc => ?_) (fun hc => ?_)
                        · refine K_last (Wops_run rfl rfl (Wops_bslice (l := ints .i64 [64521, 64525]) rfl rfl fun h141 n141 x141 g141 => ?_))
                          have G141 := G5.ext0 x141
                          refine Wops_run rfl rfl (Wops_run rfl rfl (Wops_run rfl rfl (Wops_ld (v := ptr K.pp) rfl G141.m.gk rfl ?_)))
                          refine Wops_run rfl rfl (Wops_run rfl rfl (Wops_run rfl rfl (Wops_ld (v := ptr K.pp) rfl G141.m.gk rfl ?_)))
                          refine Wops_call rfl (G141.c48 (by decide)) ?_
                          rintro _ h142 ⟨r142, n142, rfl, hr142, G142, hn142, hp142, hu142, hz142, x142⟩
                          have g141x142 : At h142 h4.next (.cells (ints .i64 [64521, 64525]) 1 false) := At.ext (S := (· = K.pp)) g141 x142 (by have := G5.m.lt; omega)
                          have rr142 := Nat.le_trans rr5 (Nat.add_le_add_right hn142 R)
                          have NN142 := Nat.le_trans NN5 hn142
                          refine Wops_chk rfl rfl G142.m.gk (v := ptr K.pp) rfl (by simp [sameV, sameCell]) ?_
                          refine Wops_iaV rfl rfl ⟨by omega, by omega⟩ (Wops_ld (v := .int .i64 (([64521, 64525] : List Int).getD r142 0)) rfl g141x142 (by rw [Nat.zero_add, Nat.mul_one]; exact ints_getD (L := [64521, 64525]) (show r142 < 2 by omega)) ?_)
                          refine Wops_call rfl (G142.c48 (by decide)) ?_
                          rintro _ h143 ⟨r143, n143, rfl, hr143, G143, hn143, hp143, hu143, hz143, x143⟩
                          have g141x142x143 : At h143 h4.next (.cells (ints .i64 [64521, 64525]) 1 false) := At.ext (S := (· = K.pp)) g141x142 x143 (by have := G5.m.lt; omega)
                          have rr143 := Nat.le_trans rr142 (Nat.add_le_add_right hn143 R)
                          have NN143 := Nat.le_trans NN142 hn143
                          refine Wops_chk rfl rfl g141x142x143 (v := .int .i64 (([64521, 64525] : List Int).getD r142 0)) (by rw [Nat.zero_add, Nat.mul_one]; exact ints_getD (L := ([64521, 64525] : List Int)) (show r142 < 2 by omega)) (by simp [sameV, sameCell]) ?_
                          refine Wops_run rfl rfl (Wops_call rfl (G143.c63 (st' := []) (by omega) (fun w q => .plain q (getD_all (L := ([64521, 64525] : List Int)) (by decide) (show r142 < 2 by omega)))) ?_)
                          rintro _ h144 ⟨s144, G144, hn144, hp144⟩
                          have rr144 := Nat.le_trans rr143 (Nat.add_le_add_right hn144 R)
                          have NN144 := Nat.le_trans NN143 hn144
                          refine K_finL [] rfl (?_)
                          exact Told.mk [] rfl ⟨_, G144, NN144, by omega⟩
                        · refine K_reg (Wops_run rfl rfl (Wops_run rfl rfl (K_fin [(0, _), (1, _), (191, _)] rfl (?_))))
                          refine K_cond rfl (fun hc => ?_) (fun hc => ?_)
                          · refine K_reg (Wops_run rfl rfl (Wops_run rfl rfl (Wops_run rfl rfl (Wops_run rfl rfl (Wops_ld (v := ptr K.pp) rfl G5.m.gk rfl ?_)))))
                            refine Wops_call rfl (G5.c48 (by decide)) ?_
                            rintro _ h145 ⟨r145, n145, rfl, hr145, G145, hn145, hp145, hu145, hz145, x145⟩
                            have rr145 := Nat.le_trans rr5 (Nat.add_le_add_right hn145 R)
                            have NN145 := Nat.le_trans NN5 hn145
                            refine Wops_run rfl rfl (Wops_call rfl (G145.c60 (by omega)) ?_)
                            rintro _ h146 ⟨s146, G146, hn146, hp146⟩
                            have rr146 := Nat.le_trans rr145 (Nat.add_le_add_right hn146 R)
                            have NN146 := Nat.le_trans NN145 hn146
                            refine K_fin [(0, _)] rfl (?_)
                            refine K_reg (Wops_run rfl rfl (Wops_call rfl (G146.c75 (by omega)) ?_))
                            rintro _ h147 ⟨s147, G147, hn147, hp147⟩
                            have rr147 := Nat.le_trans rr146 (Nat.add_le_add_right hn147 R)
                            have NN147 := Nat.le_trans NN146 hn147
                            refine K_fin [(0, _)] rfl (?_)
                            refine K_reg (Wops_run rfl rfl (Wops_run rfl rfl (Wops_run rfl rfl (Wops_run rfl rfl (Wops_ld (v := ptr K.pp) rfl G147.m.gk rfl ?_)))))
                            refine Wops_call rfl (G147.c48 (by decide)) ?_
                            rintro _ h148 ⟨r148, n148, rfl, hr148, G148, hn148, hp148, hu148, hz148, x148⟩
                            have rr148 := Nat.le_trans rr147 (Nat.add_le_add_right hn148 R)
                            have NN148 := Nat.le_trans NN147 hn148
                            refine Wops_run rfl rfl (Wops_call rfl (G148.c60 (by omega)) ?_)
                            rintro _ h149 ⟨s149, G149, hn149, hp149⟩
                            have rr149 := Nat.le_trans rr148 (Nat.add_le_add_right hn149 R)
                            have NN149 := Nat.le_trans NN148 hn149
                            refine K_fin [(0, _)] rfl (?_)
                            refine K_last (Wops_run rfl rfl (Wops_call rfl (G149.c63 (st' := []) (by omega) (fun w q => .plain q (by decide))) ?_))
                            rintro _ h150 ⟨s150, G150, hn150, hp150⟩
                            have rr150 := Nat.le_trans rr149 (Nat.add_le_add_right hn150 R)
                            have NN150 := Nat.le_trans NN149 hn150
                            refine K_finL [] rfl (?_)
                            exact Told.mk [] rfl ⟨_, G150, NN150, by omega⟩
                          · refine K_last (Wops_run rfl rfl (Wops_run rfl rfl (Wops_call rfl ((H.j _).go G5 rr5 (by omega)) ?_)))
                            rintro _ h151 ⟨s151, G151, hn151, hp151⟩
                            have rr151 := Nat.le_trans rr5 (Nat.add_le_add_right hn151 R)
                            have NN151 := Nat.le_trans NN5 hn151
                            refine K_finL [] rfl (?_)
                            exact Told.mk [] rfl ⟨_, G151, NN151, by omega⟩
          · refine K_reg (Wops_run rfl rfl (Wops_run rfl rfl (K_fin [(0, _), (1, _), (4, _), (21, _), (56, _)] rfl (?_))))
            refine K_cond rfl (fun hc => ?_) (fun hc => ?_)
            · refine K_reg (Wops_run rfl rfl (Wops_run rfl rfl (Wops_run rfl rfl (Wops_call rfl ((H.e _ _).go G5 rr5 (by omega)) ?_))))
              rintro _ h152 ⟨s152, G152, hn152, hp152⟩
              have rr152 := Nat.le_trans rr5 (Nat.add_le_add_right hn152 R)
              have NN152 := Nat.le_trans NN5 hn152
              refine K_fin [(0, _), (1, _), (4, _)] rfl (?_)
              refine K_reg (Wops_run rfl rfl (Wops_run rfl rfl (Wops_run rfl rfl (Wops_run rfl rfl (Wops_call rfl ((H.e _ _).go G152 rr152 (by omega)) ?_)))))
              rintro _ h153 ⟨s153, G153, hn153, hp153⟩
              have rr153 := Nat.le_trans rr152 (Nat.add_le_add_right hn153 R)
              have NN153 := Nat.le_trans NN152 hn153
              refine K_fin [(0, _), (4, _)] rfl (?_)
              refine K_reg (Wops_bslice (l := ints .i64 [54, 58, 59]) rfl rfl fun h154 n154 x154 g154 => ?_)
              have G154 := G153.ext0 x154
              refine Wops_run rfl rfl (Wops_run rfl rfl (Wops_run rfl rfl (Wops_ld (v := ptr K.pp) rfl G154.m.gk rfl ?_)))
              refine Wops_call rfl (G154.c48 (by decide)) ?_
              rintro _ h155 ⟨r155, n155, rfl, hr155, G155, hn155, hp155, hu155, hz155, x155⟩
              have g154x155 : At h155 h153.next (.cells (ints .i64 [54, 58, 59]) 1 false) := At.ext (S := (· = K.pp)) g154 x155 (by have := G153.m.lt; omega)
              have rr155 := Nat.le_trans rr153 (Nat.add_le_add_right hn155 R)
              have NN155 := Nat.le_trans NN153 hn155
              refine Wops_iaV rfl rfl ⟨by omega, by omega⟩ (Wops_ld (v := .int .i64 (([54, 58, 59] : List Int).getD r155 0)) rfl g154x155 (by rw [Nat.zero_add, Nat.mul_one]; exact ints_getD (L := [54, 58, 59]) (show r155 < 3 by omega)) ?_)
              refine Wops_run rfl rfl (K_fin [(0, _), (4, _), (8, _)] rfl (?_))
              obtain ⟨s156, G156, hn156, hp156⟩ : ∃ q, Go K h s h155 q [] ∧ ({ s153 with n := n155 } : St).n ≤ q.n ∧ pot K q ≤ pot K ({ s153 with n := n155 } : St) := ⟨_, G155, Nat.le_refl _, Int.le_refl _⟩
              have rr156 := Nat.le_trans rr155 (Nat.add_le_add_right hn156 R)
              have NN156 := Nat.le_trans NN155 hn156
              refine K_ss (K_reg (Wops_run rfl rfl (Wops_run rfl rfl (K_fin [(0, _), (8, _), (77, _)] rfl (?_)))))
              refine K_scond rfl (fun hc => ?_) (fun hc => ?_)
              · refine K_reg (Wops_bslice (l := ints .i64 [55, 60, 61, 62]) rfl rfl fun h157 n157 x157 g157 => ?_)
                have G157 := G156.ext0 x157
                refine Wops_run rfl rfl (Wops_run rfl rfl (Wops_run rfl rfl (Wops_ld (v := ptr K.pp) rfl G157.m.gk rfl ?_)))
                refine Wops_call rfl (G157.c48 (by decide)) ?_
                rintro _ h158 ⟨r158, n158, rfl, hr158, G158, hn158, hp158, hu158, hz158, x158⟩
                have g157x158 : At h158 h155.next (.cells (ints .i64 [55, 60, 61, 62]) 1 false) := At.ext (S := (· = K.pp)) g157 x158 (by have := G156.m.lt; omega)
                have rr158 := Nat.le_trans rr156 (Nat.add_le_add_right hn158 R)
                have NN158 := Nat.le_trans NN156 hn158
                refine Wops_iaV rfl rfl ⟨by omega, by omega⟩ (Wops_ld (v := .int .i64 (([55, 60, 61, 62] : List Int).getD r158 0)) rfl g157x158 (by rw [Nat.zero_add, Nat.mul_one]; exact ints_getD (L := [55, 60, 61, 62]) (show r158 < 4 by omega)) ?_)
                refine Wops_run rfl rfl (K_fin [(0, _), (8, _)] rfl (?_))
                obtain ⟨s159, G159, hn159, hp159⟩ : ∃ q, Go K h s h158 q [] ∧ ({ s156 with n := n158 } : St).n ≤ q.n ∧ pot K q ≤ pot K ({ s156 with n := n158 } : St) := ⟨_, G158, Nat.le_refl _, Int.le_refl _⟩
                have rr159 := Nat.le_trans rr158 (Nat.add_le_add_right hn159 R)
                have NN159 := Nat.le_trans NN158 hn159
                refine K_last (Wops_run rfl rfl (Wops_run rfl rfl (Wops_run rfl rfl (Wops_run rfl rfl (Wops_ld (v := .slice s159.oa s159.ops.length s159.oc) rfl G159.m.gk rfl ?_)))))
                refine Wops_run rfl rfl (Wops_run rfl rfl (Wops_run rfl rfl (Wops_run rfl rfl (Wops_ld (v := ptr K.pp) rfl G159.m.gk rfl ?_))))
                refine Wops_call rfl (G159.c48 (by decide)) ?_
                rintro _ h160 ⟨r160, n160, rfl, hr160, G160, hn160, hp160, hu160, hz160, x160⟩
                have rr160 := Nat.le_trans rr159 (Nat.add_le_add_right hn160 R)
                have NN160 := Nat.le_trans NN159 hn160
                obtain ⟨lq161, oq161, _⟩ := G160.m.o
                refine Wops_chk rfl rfl G160.m.gk (v := .slice s159.oa s159.ops.length s159.oc) rfl oq161.sl.same ?_
                refine Wops_run rfl rfl (Wops_run rfl rfl (?_))
                obtain ⟨l162, o162, il162⟩ := G160.m.o
                have hops162 : s159.ops.length ≤ 100100 := pot_opsB (K := K) (s := ({ s159 with n := n160 } : St)) G160.m (by omega)
                refine Wops_bslice (l := [.int .i64 (([55, 60, 61, 62] : List Int).getD r158 0), .int .u32 0, _, .int .u64 0, .slice none 0 0, .int .i64 0]) rfl rfl fun h162 n162 x162 g162 => ?_
                refine Wops_app (m := 1) rfl rfl (o162.ext x162) rfl (OwS.new (n := 1) (c := 1) g162 rfl).sl.first ⟨by omega, by omega⟩ rfl rfl (by decide) fun hh162 a162 c162 xx162 oo162 b162 => ?_
                refine Wops_run rfl rfl (Wops_run rfl rfl (Wops_st (l := [.slice a162 (({ s159 with n := n160 } : St).ops.length + 1) c162]) rfl rfl rfl rfl ((G160.m.gk.ext x162).ext xx162 fun r => (G160.m.no _ r).2.1 rfl) (by simp) rfl fun h163 nn163 x163 g163 => ?_))
                obtain ⟨s163, G163, hn163, hp163⟩ := G160.push' (k := 1) (os := [(([55, 60, 61, 62] : List Int).getD r158 0)]) (st' := []) il162 x162 xx162 rfl oo162 b162 x163 g163 (.one rfl) (fun w q => .plain q (getD_all (L := ([55, 60, 61, 62] : List Int)) (by decide) (show r158 < 4 by omega)))
                have rr163 := Nat.le_trans rr160 (Nat.add_le_add_right hn163 R)
                have NN163 := Nat.le_trans NN160 hn163
                refine K_finL [] rfl (?_)
                exact Told.mk [] rfl ⟨_, G163, NN163, by omega⟩
              · refine K_sskip (K_last (Wops_run rfl rfl (Wops_run rfl rfl (Wops_run rfl rfl (Wops_run rfl rfl (Wops_ld (v := .slice s156.oa s156.ops.length s156.oc) rfl G156.m.gk rfl ?_))))))
                refine Wops_run rfl rfl (Wops_run rfl rfl (Wops_run rfl rfl (Wops_run rfl rfl (Wops_ld (v := ptr K.pp) rfl G156.m.gk rfl ?_))))
                refine Wops_call rfl (G156.c48 (by decide)) ?_
                rintro _ h164 ⟨r164, n164, rfl, hr164, G164, hn164, hp164, hu164, hz164, x164⟩
                have rr164 := Nat.le_trans rr156 (Nat.add_le_add_right hn164 R)
                have NN164 := Nat.le_trans NN156 hn164
                obtain ⟨lq165, oq165, _⟩ := G164.m.o
                refine Wops_chk rfl rfl G164.m.gk (v := .slice s156.oa s156.ops.length s156.oc) rfl oq165.sl.same ?_
                refine Wops_run rfl rfl (Wops_run rfl rfl (?_))
                obtain ⟨l166, o166, il166⟩ := G164.m.o
                have hops166 : s156.ops.length ≤ 100100 := pot_opsB (K := K) (s := ({ s156 with n := n164 } : St)) G164.m (by omega)
                refine Wops_bslice (l := [.int .i64 (([54, 58, 59] : List Int).getD r155 0), .int .u32 0, _, .int .u64 0, .slice none 0 0, .int .i64 0]) rfl rfl fun h166 n166 x166 g166 => ?_
                refine Wops_app (m := 1) rfl rfl (o166.ext x166) rfl (OwS.new (n := 1) (c := 1) g166 rfl).sl.first ⟨by omega, by omega⟩ rfl rfl (by decide) fun hh166 a166 c166 xx166 oo166 b166 => ?_
                refine Wops_run rfl rfl (Wops_run rfl rfl (Wops_st (l := [.slice a166 (({ s156 with n := n164 } : St).ops.length + 1) c166]) rfl rfl rfl rfl ((G164.m.gk.ext x166).ext xx166 fun r => (G164.m.no _ r).2.1 rfl) (by simp) rfl fun h167 nn167 x167 g167 => ?_))
                obtain ⟨s167, G167, hn167, hp167⟩ := G164.push' (k := 1) (os := [(([54, 58, 59] : List Int).getD r155 0)]) (st' := []) il166 x166 xx166 rfl oo166 b166 x167 g167 (.one rfl) (fun w q => .plain q (getD_all (L := ([54, 58, 59] : List Int)) (by decide) (show r155 < 3 by omega)))
                have rr167 := Nat.le_trans rr164 (Nat.add_le_add_right hn167 R)
                have NN167 := Nat.le_trans NN164 hn167
                refine K_finL [] rfl (?_)
                exact Told.mk [] rfl ⟨_, G167, NN167, by omega⟩
            · refine K_reg (Wops_run rfl rfl (Wops_run rfl rfl (K_fin [(0, _), (1, _), (21, _), (103, _)] rfl (?_))))
              refine K_cond rfl (fun hc => ?_) (fun hc => ?_)
              · refine K_reg (Wops_run rfl rfl (Wops_run rfl rfl (Wops_call rfl ((H.t _).go G5 rr5 (by omega)) ?_)))
                rintro _ h168 ⟨s168, G168, hn168, hp168⟩
                have rr168 := Nat.le_trans rr5 (Nat.add_le_add_right hn168 R)
                have NN168 := Nat.le_trans NN5 hn168
                refine K_fin [(0, _)] rfl (?_)
                refine K_last (Wops_run rfl rfl (Wops_bslice (l := ints .i64 [64522, 64523, 64523]) rfl rfl fun h169 n169 x169 g169 => ?_))
                have G169 := G168.ext0 x169
                refine Wops_run rfl rfl (Wops_run rfl rfl (Wops_run rfl rfl (Wops_ld (v := ptr K.pp) rfl G169.m.gk rfl ?_)))
                refine Wops_call rfl (G169.c48 (by decide)) ?_
                rintro _ h170 ⟨r170, n170, rfl, hr170, G170, hn170, hp170, hu170, hz170, x170⟩
                have g169x170 : At h170 h168.next (.cells (ints .i64 [64522, 64523, 64523]) 1 false) := At.ext (S := (· = K.pp)) g169 x170 (by have := G168.m.lt; omega)
                have rr170 := Nat.le_trans rr168 (Nat.add_le_add_right hn170 R)
                have NN170 := Nat.le_trans NN168 hn170
                refine Wops_iaV rfl rfl ⟨by omega, by omega⟩ (Wops_ld (v := .int .i64 (([64522, 64523, 64523] : List Int).getD r170 0)) rfl g169x170 (by rw [Nat.zero_add, Nat.mul_one]; exact ints_getD (L := [64522, 64523, 64523]) (show r170 < 3 by omega)) ?_)
                refine Wops_call rfl (G170.c64 (st' := []) (by omega) (fun w q => .plain q (getD_all (L := ([64522, 64523, 64523] : List Int)) (by decide) (show r170 < 3 by omega)))) ?_
                rintro _ h171 ⟨s171, G171, hn171, hp171⟩
                have rr171 := Nat.le_trans rr170 (Nat.add_le_add_right hn171 R)
                have NN171 := Nat.le_trans NN170 hn171
                refine K_finL [] rfl (?_)
                exact Told.mk [] rfl ⟨_, G171, NN171, by omega⟩
              · refine K_reg (Wops_run rfl rfl (Wops_run rfl rfl (K_fin [(0, _), (1, _), (21, _), (118, _)] rfl (?_))))
                refine K_cond rfl (fun hc => ?_) (fun hc => ?_)
                · refine K_reg (Wops_run rfl rfl (Wops_run rfl rfl (Wops_call rfl ((H.t _).go G5 rr5 (by omega)) ?_)))
                  rintro _ h172 ⟨s172, G172, hn172, hp172⟩
                  have rr172 := Nat.le_trans rr5 (Nat.add_le_add_right hn172 R)
                  have NN172 := Nat.le_trans NN5 hn172
                  refine K_fin [(0, _)] rfl (?_)
                  refine K_last (Wops_run rfl rfl (Wops_run rfl rfl (Wops_run rfl rfl (Wops_run rfl rfl (Wops_ld (v := ptr K.pp) rfl G172.m.gk rfl ?_)))))
                  refine Wops_call rfl (G172.c48 (by decide)) ?_
                  rintro _ h173 ⟨r173, n173, rfl, hr173, G173, hn173, hp173, hu173, hz173, x173⟩
                  have rr173 := Nat.le_trans rr172 (Nat.add_le_add_right hn173 R)
                  have NN173 := Nat.le_trans NN172 hn173
                  refine Wops_run rfl rfl (Wops_call rfl (G173.c63 (st' := []) (by omega) (fun w q => .plain q (by decide))) ?_)
                  rintro _ h174 ⟨s174, G174, hn174, hp174⟩
                  have rr174 := Nat.le_trans rr173 (Nat.add_le_add_right hn174 R)
                  have NN174 := Nat.le_trans NN173 hn174
                  refine K_finL [] rfl (?_)
                  exact Told.mk [] rfl ⟨_, G174, NN174, by omega⟩
                · refine K_reg (Wops_run rfl rfl (Wops_run rfl rfl (K_fin [(0, _), (1, _), (21, _), (131, _)] rfl (?_))))
                  refine K_cond rfl (fun hc => ?_) (fun hc => ?_)
                  · refine K_reg (Wops_run rfl rfl (Wops_run rfl rfl (Wops_call rfl ((H.t _).go G5 rr5 (by omega)) ?_)))
                    rintro _ h175 ⟨s175, G175, hn175, hp175⟩
                    have rr175 := Nat.le_trans rr5 (Nat.add_le_add_right hn175 R)
                    have NN175 := Nat.le_trans NN5 hn175
                    refine K_fin [(0, _)] rfl (?_)
                    refine K_last (Wops_run rfl rfl (Wops_run rfl rfl (Wops_run rfl rfl (Wops_run rfl rfl (Wops_ld (v := .slice s175.oa s175.ops.length s175.oc) rfl G175.m.gk rfl ?_)))))
                    refine Wops_bslice (l := ints .i64 [64524, 64526]) rfl rfl fun h176 n176 x176 g176 => ?_
                    have G176 := G175.ext0 x176
                    refine Wops_run rfl rfl (Wops_run rfl rfl (Wops_run rfl rfl (Wops_ld (v := ptr K.pp) rfl G176.m.gk rfl ?_)))
                    refine Wops_call rfl (G176.c48 (by decide)) ?_
                    rintro _ h177 ⟨r177, n177, rfl, hr177, G177, hn177, hp177, hu177, hz177, x177⟩
                    have g176x177 : At h177 h175.next (.cells (ints .i64 [64524, 64526]) 1 false) := At.ext (S := (· = K.pp)) g176 x177 (by have := G175.m.lt; omega)
                    have rr177 := Nat.le_trans rr175 (Nat.add_le_add_right hn177 R)
                    have NN177 := Nat.le_trans NN175 hn177
                    obtain ⟨lq178, oq178, _⟩ := G177.m.o
                    refine Wops_chk rfl rfl G177.m.gk (v := .slice s175.oa s175.ops.length s175.oc) rfl oq178.sl.same ?_
                    refine Wops_iaV rfl rfl ⟨by omega, by omega⟩ (Wops_ld (v := .int .i64 (([64524, 64526] : List Int).getD r177 0)) rfl g176x177 (by rw [Nat.zero_add, Nat.mul_one]; exact ints_getD (L := [64524, 64526]) (show r177 < 2 by omega)) ?_)
                    refine Wops_run rfl rfl (?_)
                    obtain ⟨l179, o179, il179⟩ := G177.m.o
                    have hops179 : s175.ops.length ≤ 100100 := pot_opsB (K := K) (s := ({ s175 with n := n177 } : St)) G177.m (by omega)
                    refine Wops_bslice (l := [.int .i64 (([64524, 64526] : List Int).getD r177 0), .int .u32 0, .int .u32 0, .int .u64 0, .slice none 0 0, .int .i64 0]) rfl rfl fun h179 n179 x179 g179 => ?_
                    refine Wops_app (m := 1) rfl rfl (o179.ext x179) rfl (OwS.new (n := 1) (c := 1) g179 rfl).sl.first ⟨by omega, by omega⟩ rfl rfl (by decide) fun hh179 a179 c179 xx179 oo179 b179 => ?_
                    refine Wops_run rfl rfl (Wops_run rfl rfl (Wops_st (l := [.slice a179 (({ s175 with n := n177 } : St).ops.length + 1) c179]) rfl rfl rfl rfl ((G177.m.gk.ext x179).ext xx179 fun r => (G177.m.no _ r).2.1 rfl) (by simp) rfl fun h180 nn180 x180 g180 => ?_))
                    obtain ⟨s180, G180, hn180, hp180⟩ := G177.push' (k := 1) (os := [(([64524, 64526] : List Int).getD r177 0)]) (st' := []) il179 x179 xx179 rfl oo179 b179 x180 g180 (.one rfl) (fun w q => .plain q (getD_all (L := ([64524, 64526] : List Int)) (by decide) (show r177 < 2 by omega)))
                    have rr180 := Nat.le_trans rr177 (Nat.add_le_add_right hn180 R)
                    have NN180 := Nat.le_trans NN177 hn180
                    refine K_finL [] rfl (?_)
                    exact Told.mk [] rfl ⟨_, G180, NN180, by omega⟩
                  · refine K_reg (Wops_run rfl rfl (Wops_run rfl rfl (K_fin [(0, _), (1, _), (21, _), (154, _)] rfl (?_))))
                    refine K_cond rfl (fun hc => ?_) (fun hc => ?_)
                    · refine K_reg (Wops_run rfl rfl (Wops_run rfl rfl (Wops_run rfl rfl (Wops_run rfl rfl (Wops_ld (v := ptr K.pp) rfl G5.m.gk rfl ?_)))))
                      refine Wops_call rfl (G5.c48 (by decide)) ?_
                      rintro _ h181 ⟨r181, n181, rfl, hr181, G181, hn181, hp181, hu181, hz181, x181⟩
                      have rr181 := Nat.le_trans rr5 (Nat.add_le_add_right hn181 R)
                      have NN181 := Nat.le_trans NN5 hn181
                      refine Wops_run rfl rfl (Wops_call rfl (G181.c60 (by omega)) ?_)
                      rintro _ h182 ⟨s182, G182, hn182, hp182⟩
                      have rr182 := Nat.le_trans rr181 (Nat.add_le_add_right hn182 R)
                      have NN182 := Nat.le_trans NN181 hn182
                      refine K_fin [(0, _)] rfl (?_)
                      refine K_reg (Wops_run rfl rfl (Wops_call rfl (G182.c75 (by omega)) ?_))
                      rintro _ h183 ⟨s183, G183, hn183, hp183⟩
                      have rr183 := Nat.le_trans rr182 (Nat.add_le_add_right hn183 R)
                      have NN183 := Nat.le_trans NN182 hn183
                      refine K_fin [(0, _)] rfl (?_)
                      refine K_last (Wops_run rfl rfl (Wops_call rfl (G183.c63 (st' := []) (by omega) (fun w q => .plain q (by decide))) ?_))
                      rintro _ h184 ⟨s184, G184, hn184, hp184⟩
                      have rr184 := Nat.le_trans rr183 (Nat.add_le_add_right hn184 R)
                      have NN184 := Nat.le_trans NN183 hn184
                      refine K_finL [] rfl (?_)
                      exact Told.mk [] rfl ⟨_, G184, NN184, by omega⟩
                    · refine K_reg (Wops_run rfl rfl (Wops_run rfl rfl (K_fin [(0, _), (1, _), (21, _), (168, _)] rfl (?_))))
                      refine K_cond rfl (fun hc => ?_) (fun hc => ?_)
                      · refine K_last (Wops_run rfl rfl (Wops_run rfl rfl (Wops_call rfl ((H.lo _).go G5 rr5 (by omega)) ?_)))
                        rintro _ h185 ⟨s185, G185, hn185, hp185⟩
                        have rr185 := Nat.le_trans rr5 (Nat.add_le_add_right hn185 R)
                        have NN185 := Nat.le_trans NN5 hn185
                        refine K_finL [] rfl (?_)
                        exact Told.mk [] rfl ⟨_, G185, NN185, by omega⟩
                      · refine K_reg (Wops_run rfl rfl (Wops_run rfl rfl (K_fin [(0, _), (1, _), (21, _), (173, _)] rfl (?_))))
                        refine K_cond rfl (fun hc => ?_) (fun hc => ?_)
                        · refine K_last (Wops_run rfl rfl (Wops_bslice (l := ints .i64 [64521, 64525]) rfl rfl fun h186 n186 x186 g186 => ?_))
                          have G186 := G5.ext0 x186
                          refine Wops_run rfl rfl (Wops_run rfl rfl (Wops_run rfl rfl (Wops_ld (v := ptr K.pp) rfl G186.m.gk rfl ?_)))
                          refine Wops_run rfl rfl (Wops_run rfl rfl (Wops_run rfl rfl (Wops_ld (v := ptr K.pp) rfl G186.m.gk rfl ?_)))
                          refine Wops_call rfl (G186.c48 (by decide)) ?_
                          rintro _ h187 ⟨r187, n187, rfl, hr187, G187, hn187, hp187, hu187, hz187, x187⟩
                          have g186x187 : At h187 h4.next (.cells (ints .i64 [64521, 64525]) 1 false) := At.ext (S := (· = K.pp)) g186 x187 (by have := G5.m.lt; omega)
                          have rr187 := Nat.le_trans rr5 (Nat.add_le_add_right hn187 R)
                          have NN187 := Nat.le_trans NN5 hn187
                          refine Wops_chk rfl rfl G187.m.gk (v := ptr K.pp) rfl (by simp [sameV, sameCell]) ?_
                          refine Wops_iaV rfl rfl ⟨by omega, by omega⟩ (Wops_ld (v := .int .i64 (([64521, 64525] : List Int).getD r187 0)) rfl g186x187 (by rw [Nat.zero_add, Nat.mul_one]; exact ints_getD (L := [64521, 64525]) (show r187 < 2 by omega)) ?_)
                          refine Wops_call rfl (G187.c48 (by decide)) ?_
                          rintro _ h188 ⟨r188, n188, rfl, hr188, G188, hn188, hp188, hu188, hz188, x188⟩
                          have g186x187x188 : At h188 h4.next (.cells (ints .i64 [64521, 64525]) 1 false) := At.ext (S := (· = K.pp)) g186x187 x188 (by have := G5.m.lt; omega)
                          have rr188 := Nat.le_trans rr187 (Nat.add_le_add_right hn188 R)
                          have NN188 := Nat.le_trans NN187 hn188
                          refine Wops_chk rfl rfl g186x187x188 (v := .int .i64 (([64521, 64525] : List Int).getD r187 0)) (by rw [Nat.zero_add, Nat.mul_one]; exact ints_getD (L := ([64521, 64525] : List Int)) (show r187 < 2 by omega)) (by simp [sameV, sameCell]) ?_
                          refine Wops_run rfl rfl (Wops_call rfl (G188.c63 (st' := []) (by omega) (fun w q => .plain q (getD_all (L := ([64521, 64525] : List Int)) (by decide) (show r187 < 2 by omega)))) ?_)
                          rintro _ h189 ⟨s189, G189, hn189, hp189⟩
                          have rr189 := Nat.le_trans rr188 (Nat.add_le_add_right hn189 R)
                          have NN189 := Nat.le_trans NN188 hn189
                          refine K_finL [] rfl (?_)
                          exact Told.mk [] rfl ⟨_, G189, NN189, by omega⟩
                        · refine K_reg (Wops_run rfl rfl (Wops_run rfl rfl (K_fin [(0, _), (1, _), (191, _)] rfl (?_))))
                          refine K_cond rfl (fun hc => ?_) (fun hc => ?_)
                          · refine K_reg (Wops_run rfl rfl (Wops_run rfl rfl (Wops_run rfl rfl (Wops_run rfl rfl (Wops_ld (v := ptr K.pp) rfl G5.m.gk rfl ?_)))))
                            refine Wops_call rfl (G5.c48 (by decide)) ?_
                            rintro _ h190 ⟨r190, n190, rfl, hr190, G190, hn190, hp190, hu190, hz190, x190⟩
                            have rr190 := Nat.le_trans rr5 (Nat.add_le_add_right hn190 R)
                            have NN190 := Nat.le_trans NN5 hn190
                            refine Wops_run rfl rfl (Wops_call rfl (G190.c60 (by omega)) ?_)
                            rintro _ h191 ⟨s191, G191, hn191, hp191⟩
                            have rr191 := Nat.le_trans rr190 (Nat.add_le_add_right hn191 R)
                            have NN191 := Nat.le_trans NN190 hn191
                            refine K_fin [(0, _)] rfl (?_)
                            refine K_reg (Wops_run rfl rfl (Wops_call rfl (G191.c75 (by omega)) ?_))
                            rintro _ h192 ⟨s192, G192, hn192, hp192⟩
                            have rr192 := Nat.le_trans rr191 (Nat.add_le_add_right hn192 R)
                            have NN192 := Nat.le_trans NN191 hn192
                            refine K_fin [(0, _)] rfl (?_)
                            refine K_reg (Wops_run rfl rfl (Wops_run rfl rfl (Wops_run rfl rfl (Wops_run rfl rfl (Wops_ld (v := ptr K.pp) rfl G192.m.gk rfl ?_)))))
                            refine Wops_call rfl (G192.c48 (by decide)) ?_
                            rintro _ h193 ⟨r193, n193, rfl, hr193, G193, hn193, hp193, hu193, hz193, x193⟩
                            have rr193 := Nat.le_trans rr192 (Nat.add_le_add_right hn193 R)
                            have NN193 := Nat.le_trans NN192 hn193
                            refine Wops_run rfl rfl (Wops_call rfl (G193.c60 (by omega)) ?_)
                            rintro _ h194 ⟨s194, G194, hn194, hp194⟩
                            have rr194 := Nat.le_trans rr193 (Nat.add_le_add_right hn194 R)
                            have NN194 := Nat.le_trans NN193 hn194
                            refine K_fin [(0, _)] rfl (?_)
                            refine K_last (Wops_run rfl rfl (Wops_call rfl (G194.c63 (st' := []) (by omega) (fun w q => .plain q (by decide))) ?_))
                            rintro _ h195 ⟨s195, G195, hn195, hp195⟩
                            have rr195 := Nat.le_trans rr194 (Nat.add_le_add_right hn195 R)
                            have NN195 := Nat.le_trans NN194 hn195
                            refine K_finL [] rfl (?_)
                            exact Told.mk [] rfl ⟨_, G195, NN195, by omega⟩
                          · refine K_last (Wops_run rfl rfl (Wops_run rfl rfl (Wops_call rfl ((H.j _).go G5 rr5 (by omega)) ?_)))
                            rintro _ h196 ⟨s196, G196, hn196, hp196⟩
                            have rr196 := Nat.le_trans rr5 (Nat.add_le_add_right hn196 R)
                            have NN196 := Nat.le_trans NN5 hn196
                            refine K_finL [] rfl (?_)
                            exact Told.mk [] rfl ⟨_, G196, NN196, by omega⟩
  · refine K_reg (Wops_run rfl rfl (Wops_run rfl rfl (K_fin [(0, _), (1, _), (4, _), (21, _), (25, _)] rfl (?_))))
    refine K_cond rfl (fun hc => ?_) (fun hc => ?_)
    · refine K_reg (Wops_run rfl rfl (Wops_run rfl rfl (Wops_call rfl G5.c62 ?_)))
      rintro _ h197 ⟨v197, w197, n197, rfl, G197, hn197, hp197⟩
      have rr197 := Nat.le_trans rr5 (Nat.add_le_add_right hn197 R)
      have NN197 := Nat.le_trans NN5 hn197
      refine Wops_run rfl rfl (Wops_run rfl rfl (Wops_run rfl rfl (Wops_run rfl rfl (Wops_run rfl rfl (K_fin [(0, _), (1, _), (4, _), (5, _), (6, _)] rfl (?_))))))
      obtain ⟨s198, G198, hn198, hp198⟩ : ∃ q, Go K h s h197 q [] ∧ ({ s5 with n := n197 } : St).n ≤ q.n ∧ pot K q ≤ pot K ({ s5 with n := n197 } : St) := ⟨_, G197, Nat.le_refl _, Int.le_refl _⟩
      have rr198 := Nat.le_trans rr197 (Nat.add_le_add_right hn198 R)
      have NN198 := Nat.le_trans NN197 hn198
      refine K_reg (Wops_run rfl rfl (Wops_run rfl rfl (Wops_run rfl rfl (Wops_call rfl ((H.e _ _).go G198 rr198 (by omega)) ?_))))
      rintro _ h199 ⟨s199, G199, hn199, hp199⟩
      have rr199 := Nat.le_trans rr198 (Nat.add_le_add_right hn199 R)
      have NN199 := Nat.le_trans NN198 hn199
      refine K_fin [(0, _), (5, _), (6, _)] rfl (?_)
      refine K_reg (Wops_run rfl rfl (K_fin [(0, _), (5, _), (38, _)] rfl (?_)))
      refine K_cond rfl (fun hc => ?_) (fun hc => ?_)
      · refine K_last (Wops_run rfl rfl (Wops_run rfl rfl (Wops_call rfl (G199.c63 (st' := []) (by omega) (fun w q => .plain q (by decide))) ?_)))
        rintro _ h200 ⟨s200, G200, hn200, hp200⟩
        have rr200 := Nat.le_trans rr199 (Nat.add_le_add_right hn200 R)
        have NN200 := Nat.le_trans NN199 hn200
        refine K_finL [] rfl (?_)
        exact Told.mk [] rfl ⟨_, G200, NN200, by omega⟩
      · refine K_last (Wops_run rfl rfl (Wops_call rfl (G199.c64 (st' := []) (by omega) (fun w q => .plain q (by decide))) ?_))
        rintro _ h201 ⟨s201, G201, hn201, hp201⟩
        have rr201 := Nat.le_trans rr199 (Nat.add_le_add_right hn201 R)
        have NN201 := Nat.le_trans NN199 hn201
        refine K_finL [] rfl (?_)
        exact Told.mk [] rfl ⟨_, G201, NN201, by omega⟩
    · refine K_ss (K_reg (Wops_run rfl rfl (Wops_run rfl rfl (K_fin [(0, _), (1, _), (4, _), (21, _), (44, _)] rfl (?_)))))
      refine K_scond rfl (fun hc => ?_) (fun hc => ?_)
      · refine K_sskip (K_cond rfl (fun hc => ?_) (fun hc => ?_))
        · refine K_reg (Wops_run rfl rfl (Wops_run rfl rfl (Wops_run rfl rfl (Wops_call rfl ((H.e _ _).go G5 rr5 (by omega)) ?_))))
          rintro _ h202 ⟨s202, G202, hn202, hp202⟩
          have rr202 := Nat.le_trans rr5 (Nat.add_le_add_right hn202 R)
          have NN202 := Nat.le_trans NN5 hn202
          refine K_fin [(0, _), (4, _)] rfl (?_)
          refine K_reg (Wops_run rfl rfl (K_fin [(0, _), (4, _), (7, _)] rfl (?_)))
          refine K_ss (K_reg (Wops_run rfl rfl (Wops_run rfl rfl (K_fin [(0, _), (7, _), (52, _)] rfl (?_)))))
          refine K_scond rfl (fun hc => ?_) (fun hc => ?_)
          · refine K_reg (Wops_run rfl rfl (K_fin [(0, _), (7, _)] rfl (?_)))
            refine K_last (Wops_run rfl rfl (Wops_run rfl rfl (Wops_call rfl (G202.c63 (st' := []) (by omega) (fun w q => .plain q (by decide))) ?_)))
            rintro _ h203 ⟨s203, G203, hn203, hp203⟩
            have rr203 := Nat.le_trans rr202 (Nat.add_le_add_right hn203 R)
            have NN203 := Nat.le_trans NN202 hn203
            refine K_finL [] rfl (?_)
            exact Told.mk [] rfl ⟨_, G203, NN203, by omega⟩
          · refine K_sskip (K_last (Wops_run rfl rfl (Wops_run rfl rfl (Wops_call rfl (G202.c63 (st' := []) (by omega) (fun w q => .plain q (by decide))) ?_))))
            rintro _ h204 ⟨s204, G204, hn204, hp204⟩
            have rr204 := Nat.le_trans rr202 (Nat.add_le_add_right hn204 R)
            have NN204 := Nat.le_trans NN202 hn204
            refine K_finL [] rfl (?_)
            exact Told.mk [] rfl ⟨_, G204, NN204, by omega⟩
        · refine K_ss (K_reg (Wops_run rfl rfl (Wops_run rfl rfl (K_fin [(0, _), (1, _), (4, _), (21, _), (56, _)] rfl (?_)))))
          refine K_scond rfl (fun hc => ?_) (fun hc => ?_)
          · refine K_sskip (K_cond rfl (fun hc => ?_) (fun hc => ?_))
            · refine K_reg (Wops_run rfl rfl (Wops_run rfl rfl (Wops_run rfl rfl (Wops_call rfl ((H.e _ _).go G5 rr5 (by omega)) ?_))))
              rintro _ h205 ⟨s205, G205, hn205, hp205⟩
              have rr205 := Nat.le_trans rr5 (Nat.add_le_add_right hn205 R)
              have NN205 := Nat.le_trans NN5 hn205
              refine K_fin [(0, _), (1, _), (4, _)] rfl (?_)
              refine K_reg (Wops_run rfl rfl (Wops_run rfl rfl (Wops_run rfl rfl (Wops_run rfl rfl (Wops_call rfl ((H.e _ _).go G205 rr205 (by omega)) ?_)))))
              rintro _ h206 ⟨s206, G206, hn206, hp206⟩
              have rr206 := Nat.le_trans rr205 (Nat.add_le_add_right hn206 R)
              have NN206 := Nat.le_trans NN205 hn206
              refine K_fin [(0, _), (4, _)] rfl (?_)
              refine K_reg (Wops_bslice (l := ints .i64 [54, 58, 59]) rfl rfl fun h207 n207 x207 g207 => ?_)
              have G207 := G206.ext0 x207
              refine Wops_run rfl rfl (Wops_run rfl rfl (Wops_run rfl rfl (Wops_ld (v := ptr K.pp) rfl G207.m.gk rfl ?_)))
              refine Wops_call rfl (G207.c48 (by decide)) ?_
              rintro _ h208 ⟨r208, n208, rfl, hr208, G208, hn208, hp208, hu208, hz208, x208⟩
              have g207x208 : At h208 h206.next (.cells (ints .i64 [54, 58, 59]) 1 false) := At.ext (S := (· = K.pp)) g207 x208 (by have := G206.m.lt; omega)
              have rr208 := Nat.le_trans rr206 (Nat.add_le_add_right hn208 R)
              have NN208 := Nat.le_trans NN206 hn208
              refine Wops_iaV rfl rfl ⟨by omega, by omega⟩ (Wops_ld (v := .int .i64 (([54, 58, 59] : List Int).getD r208 0)) rfl g207x208 (by rw [Nat.zero_add, Nat.mul_one]; exact ints_getD (L := [54, 58, 59]) (show r208 < 3 by omega)) ?_)
              refine Wops_run rfl rfl (K_fin [(0, _), (4, _), (8, _)] rfl (?_))
              obtain ⟨s209, G209, hn209, hp209⟩ : ∃ q, Go K h s h208 q [] ∧ ({ s206 with n := n208 } : St).n ≤ q.n ∧ pot K q ≤ pot K ({ s206 with n := n208 } : St) := ⟨_, G208, Nat.le_refl _, Int.le_refl _⟩
              have rr209 := Nat.le_trans rr208 (Nat.add_le_add_right hn209 R)
              have NN209 := Nat.le_trans NN208 hn209
              refine K_ss (K_reg (Wops_run rfl rfl (Wops_run rfl rfl (K_fin [(0, _), (8, _), (77, _)] rfl (?_)))))
              refine K_scond rfl (fun hc => ?_) (fun hc => ?_)
              · refine K_reg (Wops_bslice (l := ints .i64 [55, 60, 61, 62]) rfl rfl fun h210 n210 x210 g210 => ?_)
                have G210 := G209.ext0 x210
                refine Wops_run rfl rfl (Wops_run rfl rfl (Wops_run rfl rfl (Wops_ld (v := ptr K.pp) rfl G210.m.gk rfl ?_)))
                refine Wops_call rfl (G210.c48 (by decide)) ?_
                rintro _ h211 ⟨r211, n211, rfl, hr211, G211, hn211, hp211, hu211, hz211, x211⟩
                have g210x211 : At h211 h208.next (.cells (ints .i64 [55, 60, 61, 62]) 1 false) := At.ext (S := (· = K.pp)) g210 x211 (by have := G209.m.lt; omega)
                have rr211 := Nat.le_trans rr209 (Nat.add_le_add_right hn211 R)
                have NN211 := Nat.le_trans NN209 hn211
                refine Wops_iaV rfl rfl ⟨by omega, by omega⟩ (Wops_ld (v := .int .i64 (([55, 60, 61, 62] : List Int).getD r211 0)) rfl g210x211 (by rw [Nat.zero_add, Nat.mul_one]; exact ints_getD (L := [55, 60, 61, 62]) (show r211 < 4 by omega)) ?_)
                refine Wops_run rfl rfl (K_fin [(0, _), (8, _)] rfl (?_))
                obtain ⟨s212, G212, hn212, hp212⟩ : ∃ q, Go K h s h211 q [] ∧ ({ s209 with n := n211 } : St).n ≤ q.n ∧ pot K q ≤ pot K ({ s209 with n := n211 } : St) := ⟨_, G211, Nat.le_refl _, Int.le_refl _⟩
                have rr212 := Nat.le_trans rr211 (Nat.add_le_add_right hn212 R)
                have NN212 := Nat.le_trans NN211 hn212
                refine K_last (Wops_run rfl rfl (Wops_run rfl rfl (Wops_run rfl rfl (Wops_run rfl rfl (Wops_ld (v := .slice s212.oa s212.ops.length s212.oc) rfl G212.m.gk rfl ?_)))))
                refine Wops_run rfl rfl (Wops_run rfl rfl (Wops_run rfl rfl (Wops_run rfl rfl (Wops_ld (v := ptr K.pp) rfl G212.m.gk rfl ?_))))
                refine Wops_call rfl (G212.c48 (by decide)) ?_
                rintro _ h213 ⟨r213, n213, rfl, hr213, G213, hn213, hp213, hu213, hz213, x213⟩
                have rr213 := Nat.le_trans rr212 (Nat.add_le_add_right hn213 R)
                have NN213 := Nat.le_trans NN212 hn213
                obtain ⟨lq214, oq214, _⟩ := G213.m.o
                refine Wops_chk rfl rfl G213.m.gk (v := .slice s212.oa s212.ops.length s212.oc) rfl oq214.sl.same ?_
                refine Wops_run rfl rfl (Wops_run rfl rfl (?_))
                obtain ⟨l215, o215, il215⟩ := G213.m.o
                have hops215 : s212.ops.length ≤ 100100 := pot_opsB (K := K) (s := ({ s212 with n := n213 } : St)) G213.m (by omega)
                refine Wops_bslice (l := [.int .i64 (([55, 60, 61, 62] : List Int).getD r211 0), .int .u32 0, _, .int .u64 0, .slice none 0 0, .int .i64 0]) rfl rfl fun h215 n215 x215 g215 => ?_
                refine Wops_app (m := 1) rfl rfl (o215.ext x215) rfl (OwS.new (n := 1) (c := 1) g215 rfl).sl.first ⟨by omega, by omega⟩ rfl rfl (by decide) fun hh215 a215 c215 xx215 oo215 b215 => ?_
                refine Wops_run rfl rfl (Wops_run rfl rfl (Wops_st (l := [.slice a215 (({ s212 with n := n213 } : St).ops.length + 1) c215]) rfl rfl rfl rfl ((G213.m.gk.ext x215).ext xx215 fun r => (G213.m.no _ r).2.1 rfl) (by simp) rfl fun h216 nn216 x216 g216 => ?_))
                obtain ⟨s216, G216, hn216, hp216⟩ := G213.push' (k := 1) (os := [(([55, 60, 61, 62] : List Int).getD r211 0)]) (st' := []) il215 x215 xx215 rfl oo215 b215 x216 g216 (.one rfl) (fun w q => .plain q (getD_all (L := ([55, 60, 61, 62] : List Int)) (by decide) (show r211 < 4 by omega)))
                have rr216 := Nat.le_trans rr213 (Nat.add_le_add_right hn216 R)
                have NN216 := Nat.le_trans NN213 hn216
                refine K_finL [] rfl (?_)
                exact Told.mk [] rfl ⟨_, G216, NN216, by omega⟩
              · refine K_sskip (K_last (Wops_run rfl rfl (Wops_run rfl rfl (Wops_run rfl rfl (Wops_run rfl rfl (Wops_ld (v := .slice s209.oa s209.ops.length s209.oc) rfl G209.m.gk rfl ?_))))))
                refine Wops_run rfl rfl (Wops_run rfl rfl (Wops_run rfl rfl (Wops_run rfl rfl (Wops_ld (v := ptr K.pp) rfl G209.m.gk rfl ?_))))
                refine Wops_call rfl (G209.c48 (by decide)) ?_
                rintro _ h217 ⟨r217, n217, rfl, hr217, G217, hn217, hp217, hu217, hz217, x217⟩
                have rr217 := Nat.le_trans rr209 (Nat.add_le_add_right hn217 R)
                have NN217 := Nat.le_trans NN209 hn217
                obtain ⟨lq218, oq218, _⟩ := G217.m.o
                refine Wops_chk rfl rfl G217.m.gk (v := .slice s209.oa s209.ops.length s209.oc) rfl oq218.sl.same ?_
                refine Wops_run rfl rfl (Wops_run rfl rfl (?_))
                obtain ⟨l219, o219, il219⟩ := G217.m.o
                have hops219 : s209.ops.length ≤ 100100 := pot_opsB (K := K) (s := ({ s209 with n := n217 } : St)) G217.m (by omega)
                refine Wops_bslice (l := [.int .i64 (([54, 58, 59] : List Int).getD r208 0), .int .u32 0, _, .int .u64 0, .slice none 0 0, .int .i64 0]) rfl rfl fun h219 n219 x219 g219 => ?_
                refine Wops_app (m := 1) rfl rfl (o219.ext x219) rfl (OwS.new (n := 1) (c := 1) g219 rfl).sl.first ⟨by omega, by omega⟩ rfl rfl (by decide) fun hh219 a219 c219 xx219 oo219 b219 => ?_
                refine Wops_run rfl rfl (Wops_run rfl rfl (Wops_st (l := [.slice a219 (({ s209 with n := n217 } : St).ops.length + 1) c219]) rfl rfl rfl rfl ((G217.m.gk.ext x219).ext xx219 fun r => (G217.m.no _ r).2.1 rfl) (by simp) rfl fun h220 nn220 x220 g220 => ?_))
                obtain ⟨s220, G220, hn220, hp220⟩ := G217.push' (k := 1) (os := [(([54, 58, 59] : List Int).getD r208 0)]) (st' := []) il219 x219 xx219 rfl oo219 b219 x220 g220 (.one rfl) (fun w q => .plain q (getD_all (L := ([54, 58, 59] : List Int)) (by decide) (show r208 < 3 by omega)))
                have rr220 := Nat.le_trans rr217 (Nat.add_le_add_right hn220 R)
                have NN220 := Nat.le_trans NN217 hn220
                refine K_finL [] rfl (?_)
                exact Told.mk [] rfl ⟨_, G220, NN220, by omega⟩
            · refine K_reg (Wops_run rfl rfl (Wops_run rfl rfl (K_fin [(0, _), (1, _), (21, _), (103, _)] rfl (?_))))
              refine K_cond rfl (fun hc => ?_) (fun hc => ?_)
              · refine K_reg (Wops_run rfl rfl (Wops_run rfl rfl (Wops_call rfl ((H.t _).go G5 rr5 (by omega)) ?_)))
                rintro _ h221 ⟨s221, G221, hn221, hp221⟩
                have rr221 := Nat.le_trans rr5 (Nat.add_le_add_right hn221 R)
                have NN221 := Nat.le_trans NN5 hn221
                refine K_fin [(0, _)] rfl (?_)
                refine K_last (Wops_run rfl rfl (Wops_bslice (l := ints .i64 [64522, 64523, 64523]) rfl rfl fun h222 n222 x222 g222 => ?_))
                have G222 := G221.ext0 x222
                refine Wops_run rfl rfl (Wops_run rfl rfl (Wops_run rfl rfl (Wops_ld (v := ptr K.pp) rfl G222.m.gk rfl ?_)))
                refine Wops_call rfl (G222.c48 (by decide)) ?_
                rintro _ h223 ⟨r223, n223, rfl, hr223, G223, hn223, hp223, hu223, hz223, x223⟩
                have g222x223 : At h223 h221.next (.cells (ints .i64 [64522, 64523, 64523]) 1 false) := At.ext (S := (· = K.pp)) g222 x223 (by have := G221.m.lt; omega)
                have rr223 := Nat.le_trans rr221 (Nat.add_le_add_right hn223 R)
                have NN223 := Nat.le_trans NN221 hn223
                refine Wops_iaV rfl rfl ⟨by omega, by omega⟩ (Wops_ld (v := .int .i64 (([64522, 64523, 64523] : List Int).getD r223 0)) rfl g222x223 (by rw [Nat.zero_add, Nat.mul_one]; exact ints_getD (L := [64522, 64523, 64523]) (show r223 < 3 by omega)) ?_)
                refine Wops_call rfl (G223.c64 (st' := []) (by omega) (fun w q => .plain q (getD_all (L := ([64522, 64523, 64523] : List Int)) (by decide) (show r223 < 3 by omega)))) ?_
                rintro _ h224 ⟨s224, G224, hn224, hp224⟩
                have rr224 := Nat.le_trans rr223 (Nat.add_le_add_right hn224 R)
                have NN224 := Nat.le_trans NN223 hn224
                refine K_finL [] rfl (?_)
                exact Told.mk [] rfl ⟨_, G224, NN224, by omega⟩
              · refine K_reg (Wops_run rfl rfl (Wops_run rfl rfl (K_fin [(0, _), (1, _), (21, _), (118, _)] rfl (?_))))
                refine K_cond rfl (fun hc => ?_) (fun hc => ?_)
                · refine K_reg (Wops_run rfl rfl (Wops_run rfl rfl (Wops_call rfl ((H.t _).go G5 rr5 (by omega)) ?_)))
                  rintro _ h225 ⟨s225, G225, hn225, hp225⟩
                  have rr225 := Nat.le_trans rr5 (Nat.add_le_add_right hn225 R)
                  have NN225 := Nat.le_trans NN5 hn225
                  refine K_fin [(0, _)] rfl (?_)
                  refine K_last (Wops_run rfl rfl (Wops_run rfl rfl (Wops_run rfl rfl (Wops_run rfl rfl (Wops_ld (v := ptr K.pp) rfl G225.m.gk rfl ?_)))))
                  refine Wops_call rfl (G225.c48 (by decide)) ?_
                  rintro _ h226 ⟨r226, n226, rfl, hr226, G226, hn226, hp226, hu226, hz226, x226⟩
                  have rr226 := Nat.le_trans rr225 (Nat.add_le_add_right hn226 R)
                  have NN226 := Nat.le_trans NN225 hn226
                  refine Wops_run rfl rfl (Wops_call rfl (G226.c63 (st' := []) (by omega) (fun w q => .plain q (by decide))) ?_)
                  rintro _ h227 ⟨s227, G227, hn227, hp227⟩
                  have rr227 := Nat.le_trans rr226 (Nat.add_le_add_right hn227 R)
                  have NN227 := Nat.le_trans NN226 hn227
                  refine K_finL [] rfl (?_)
                  exact Told.mk [] rfl ⟨_, G227, NN227, by omega⟩
                · refine K_reg (Wops_run rfl rfl (Wops_run rfl rfl (K_fin [(0, _), (1, _), (21, _), (131, _)] rfl (?_))))
                  refine K_cond rfl (fun hc => ?_) (fun hc => ?_)
                  · refine K_reg (Wops_run rfl rfl (Wops_run rfl rfl (Wops_call rfl ((H.t _).go G5 rr5 (by omega)) ?_)))
                    rintro _ h228 ⟨s228, G228, hn228, hp228⟩
                    have rr228 := Nat.le_trans rr5 (Nat.add_le_add_right hn228 R)
                    have NN228 := Nat.le_trans NN5 hn228
                    refine K_fin [(0, _)] rfl (?_)
                    refine K_last (Wops_run rfl rfl (Wops_run rfl rfl (Wops_run rfl rfl (Wops_run rfl rfl (Wops_ld (v := .slice s228.oa s228.ops.length s228.oc) rfl G228.m.gk rfl ?_)))))
                    refine Wops_bslice (l := ints .i64 [64524, 64526]) rfl rfl fun h229 n229 x229 g229 => ?_
                    have G229 := G228.ext0 x229
                    refine Wops_run rfl rfl (Wops_run rfl rfl (Wops_run rfl rfl (Wops_ld (v := ptr K.pp) rfl G229.m.gk rfl ?_)))
                    refine Wops_call rfl (G229.c48 (by decide)) ?_
                    rintro _ h230 ⟨r230, n230, rfl, hr230, G230, hn230, hp230, hu230, hz230, x230⟩
                    have g229x230 : At h230 h228.next (.cells (ints .i64 [64524, 64526]) 1 false) := At.ext (S := (· = K.pp)) g229 x230 (by have := G228.m.lt; omega)
                    have rr230 := Nat.le_trans rr228 (Nat.add_le_add_right hn230 R)
                    have NN230 := Nat.le_trans NN228 hn230
                    obtain ⟨lq231, oq231, _⟩ := G230.m.o
                    refine Wops_chk rfl rfl G230.m.gk (v := .slice s228.oa s228.ops.length s228.oc) rfl oq231.sl.same ?_
                    refine Wops_iaV rfl rfl ⟨by omega, by omega⟩ (Wops_ld (v := .int .i64 (([64524, 64526] : List Int).getD r230 0)) rfl g229x230 (by rw [Nat.zero_add, Nat.mul_one]; exact ints_getD (L := [64524, 64526]) (show r230 < 2 by omega)) ?_)
                    refine Wops_run rfl rfl (?_)
                    obtain ⟨l232, o232, il232⟩ := G230.m.o
                    have hops232 : s228.ops.length ≤ 100100 := pot_opsB (K := K) (s := ({ s228 with n := n230 } : St)) G230.m (by omega)
                    refine Wops_bslice (l := [.int .i64 (([64524, 64526] : List Int).getD r230 0), .int .u32 0, .int .u32 0, .int .u64 0, .slice none 0 0, .int .i64 0]) rfl rfl fun h232 n232 x232 g232 => ?_
                    refine Wops_app (m := 1) rfl rfl (o232.ext x232) rfl (OwS.new (n := 1) (c := 1) g232 rfl).sl.first ⟨by omega, by omega⟩ rfl rfl (by decide) fun hh232 a232 c232 xx232 oo232 b232 => ?_
                    refine Wops_run rfl rfl (Wops_run rfl rfl (Wops_st (l := [.slice a232 (({ s228 with n := n230 } : St).ops.length + 1) c232]) rfl rfl rfl rfl ((G230.m.gk.ext x232).ext xx232 fun r => (G230.m.no _ r).2.1 rfl) (by simp) rfl fun h233 nn233 x233 g233 => ?_))
                    obtain ⟨s233, G233, hn233, hp233⟩ := G230.push' (k := 1) (os := [(([64524, 64526] : List Int).getD r230 0)]) (st' := []) il232 x232 xx232 rfl oo232 b232 x233 g233 (.one rfl) (fun w q => .plain q (getD_all (L := ([64524, 64526] : List Int)) (by decide) (show r230 < 2 by omega)))
                    have rr233 := Nat.le_trans rr230 (Nat.add_le_add_right hn233 R)
                    have NN233 := Nat.le_trans NN230 hn233
                    refine K_finL [] rfl (?_)
                    exact Told.mk [] rfl ⟨_, G233, NN233, by omega⟩
                  · refine K_reg (Wops_run rfl rfl (Wops_run rfl rfl (K_fin [(0, _), (1, _), (21, _), (154, _)] rfl (?_))))
                    refine K_cond rfl (fun hc => ?_) (fun hc => ?_)
                    · refine K_reg (Wops_run rfl rfl (Wops_run rfl rfl (Wops_run rfl rfl (Wops_run rfl rfl (Wops_ld (v := ptr K.pp) rfl G5.m.gk rfl ?_)))))
                      refine Wops_call rfl (G5.c48 (by decide)) ?_
                      rintro _ h234 ⟨r234, n234, rfl, hr234, G234, hn234, hp234, hu234, hz234, x234⟩
                      have rr234 := Nat.le_trans rr5 (Nat.add_le_add_right hn234 R)
                      have NN234 := Nat.le_trans NN5 hn234
                      refine Wops_run rfl rfl (Wops_call rfl (G234.c60 (by omega)) ?_)
                      rintro _ h235 ⟨s235, G235, hn235, hp235⟩
                      have rr235 := Nat.le_trans rr234 (Nat.add_le_add_right hn235 R)
                      have NN235 := Nat.le_trans NN234 hn235
                      refine K_fin [(0, _)] rfl (?_)
                      refine K_reg (Wops_run rfl rfl (Wops_call rfl (G235.c75 (by omega)) ?_))
                      rintro _ h236 ⟨s236, G236, hn236, hp236⟩
                      have rr236 := Nat.le_trans rr235 (Nat.add_le_add_right hn236 R)
                      have NN236 := Nat.le_trans NN235 hn236
                      refine K_fin [(0, _)] rfl (?_)
                      refine K_last (Wops_run rfl rfl (Wops_call rfl (G236.c63 (st' := []) (by omega) (fun w q => .plain q (by decide))) ?_))
                      rintro _ h237 ⟨s237, G237, hn237, hp237⟩
                      have rr237 := Nat.le_trans rr236 (Nat.add_le_add_right hn237 R)
                      have NN237 := Nat.le_trans NN236 hn237
                      refine K_finL [] rfl (?_)
                      exact Told.mk [] rfl ⟨_, G237, NN237, by omega⟩
                    · refine K_reg (Wops_run rfl rfl (Wops_run rfl rfl (K_fin [(0, _), (1, _), (21, _), (168, _)] rfl (?_))))
                      refine K_cond rfl (fun hc => ?_) (fun hc => ?_)
                      · refine K_last (Wops_run rfl rfl (Wops_run rfl rfl (Wops_call rfl ((H.lo _).go G5 rr5 (by omega)) ?_)))
                        rintro _ h238 ⟨s238, G238, hn238, hp238⟩
                        have rr238 := Nat.le_trans rr5 (Nat.add_le_add_right hn238 R)
                        have NN238 := Nat.le_trans NN5 hn238
                        refine K_finL [] rfl (?_)
                        exact Told.mk [] rfl ⟨_, G238, NN238, by omega⟩
                      · refine K_reg (Wops_run rfl rfl (Wops_run rfl rfl (K_fin [(0, _), (1, _), (21, _), (173, _)] rfl (?_))))
                        refine K_cond rfl (fun hc => ?_) (fun hc => ?_)
                        · refine K_last (Wops_run rfl rfl (Wops_bslice (l := ints .i64 [64521, 64525]) rfl rfl fun h239 n239 x239 g239 => ?_))
                          have G239 := G5.ext0 x239
                          refine Wops_run rfl rfl (Wops_run rfl rfl (Wops_run rfl rfl (Wops_ld (v := ptr K.pp) rfl G239.m.gk rfl ?_)))
                          refine Wops_run rfl rfl (Wops_run rfl rfl (Wops_run rfl rfl (Wops_ld (v := ptr K.pp) rfl G239.m.gk rfl ?_)))
                          refine Wops_call rfl (G239.c48 (by decide)) ?_
                          rintro _ h240 ⟨r240, n240, rfl, hr240, G240, hn240, hp240, hu240, hz240, x240⟩
                          have g239x240 : At h240 h4.next (.cells (ints .i64 [64521, 64525]) 1 false) := At.ext (S := (· = K.pp)) g239 x240 (by have := G5.m.lt; omega)
                          have rr240 := Nat.le_trans rr5 (Nat.add_le_add_right hn240 R)
                          have NN240 := Nat.le_trans NN5 hn240
                          refine Wops_chk rfl rfl G240.m.gk (v := ptr K.pp) rfl (by simp [sameV, sameCell]) ?_
                          refine Wops_iaV rfl rfl ⟨by omega, by omega⟩ (Wops_ld (v := .int .i64 (([64521, 64525] : List Int).getD r240 0)) rfl g239x240 (by rw [Nat.zero_add, Nat.mul_one]; exact ints_getD (L := [64521, 64525]) (show r240 < 2 by omega)) ?_)
                          refine Wops_call rfl (G240.c48 (by decide)) ?_
                          rintro _ h241 ⟨r241, n241, rfl, hr241, G241, hn241, hp241, hu241, hz241, x241⟩
                          have g239x240x241 : At h241 h4.next (.cells (ints .i64 [64521, 64525]) 1 false) := At.ext (S := (· = K.pp)) g239x240 x241 (by have := G5.m.lt; omega)
                          have rr241 := Nat.le_trans rr240 (Nat.add_le_add_right hn241 R)
                          have NN241 := Nat.le_trans NN240 hn241
                          refine Wops_chk rfl rfl g239x240x241 (v := .int .i64 (([64521, 64525] : List Int).getD r240 0)) (by rw [Nat.zero_add, Nat.mul_one]; exact ints_getD (L := ([64521, 64525] : List Int)) (show r240 < 2 by omega)) (by simp [sameV, sameCell]) ?_
                          refine Wops_run rfl rfl (Wops_call rfl (G241.c63 (st' := []) (by omega) (fun w q => .plain q (getD_all (L := ([64521, 64525] : List Int)) (by decide) (show r240 < 2 by omega)))) ?_)
                          rintro _ h242 ⟨s242, G242, hn242, hp242⟩
                          have rr242 := Nat.le_trans rr241 (Nat.add_le_add_right hn242 R)
                          have NN242 := Nat.le_trans NN241 hn242
                          refine K_finL [] rfl (?_)
                          exact Told.mk [] rfl ⟨_, G242, NN242, by omega⟩
                        · refine K_reg (Wops_run rfl rfl (Wops_run rfl rfl (K_fin [(0, _), (1, _), (191, _)] rfl (?_))))
                          refine K_cond rfl (fun hc => ?_) (fun hc => ?_)
                          · refine K_reg (Wops_run rfl rfl (Wops_run rfl rfl (Wops_run rfl rfl (Wops_run rfl rfl (Wops_ld (v := ptr K.pp) rfl G5.m.gk rfl ?_)))))
                            refine Wops_call rfl (G5.c48 (by decide)) ?_
                            rintro _ h243 ⟨r243, n243, rfl, hr243, G243, hn243, hp243, hu243, hz243, x243⟩
                            have rr243 := Nat.le_trans rr5 (Nat.add_le_add_right hn243 R)
                            have NN243 := Nat.le_trans NN5 hn243
                            refine Wops_run rfl rfl (Wops_call rfl (G243.c60 (by omega)) ?_)
                            rintro _ h244 ⟨s244, G244, hn244, hp244⟩
                            have rr244 := Nat.le_trans rr243 (Nat.add_le_add_right hn244 R)
                            have NN244 := Nat.le_trans NN243 hn244
                            refine K_fin [(0, _)] rfl (?_)
                            refine K_reg (Wops_run rfl rfl (Wops_call rfl (G244.c75 (by omega)) ?_))
                            rintro _ h245 ⟨s245, G245, hn245, hp245⟩
                            have rr245 := Nat.le_trans rr244 (Nat.add_le_add_right hn245 R)
                            have NN245 := Nat.le_trans NN244 hn245
                            refine K_fin [(0, _)] rfl (?_)
                            refine K_reg (Wops_run rfl rfl (Wops_run rfl rfl (Wops_run rfl rfl (Wops_run rfl rfl (Wops_ld (v := ptr K.pp) rfl G245.m.gk rfl ?_)))))
                            refine Wops_call rfl (G245.c48 (by decide)) ?_
                            rintro _ h246 ⟨r246, n246, rfl, hr246, G246, hn246, hp246, hu246, hz246, x246⟩
                            have rr246 := Nat.le_trans rr245 (Nat.add_le_add_right hn246 R)
                            have NN246 := Nat.le_trans NN245 hn246
                            refine Wops_run rfl rfl (Wops_call rfl (G246.c60 (by omega)) ?_)
                            rintro _ h247 ⟨s247, G247, hn247, hp247⟩
                            have rr247 := Nat.le_trans rr246 (Nat.add_le_add_right hn247 R)
                            have NN247 := Nat.le_trans NN246 hn247
                            refine K_fin [(0, _)] rfl (?_)
                            refine K_last (Wops_run rfl rfl (Wops_call rfl (G247.c63 (st' := []) (by omega) (fun w q => .plain q (by decide))) ?_))
                            rintro _ h248 ⟨s248, G248, hn248, hp248⟩
                            have rr248 := Nat.le_trans rr247 (Nat.add_le_add_right hn248 R)
                            have NN248 := Nat.le_trans NN247 hn248
                            refine K_finL [] rfl (?_)
                            exact Told.mk [] rfl ⟨_, G248, NN248, by omega⟩
                          · refine K_last (Wops_run rfl rfl (Wops_run rfl rfl (Wops_call rfl ((H.j _).go G5 rr5 (by omega)) ?_)))
                            rintro _ h249 ⟨s249, G249, hn249, hp249⟩
                            have rr249 := Nat.le_trans rr5 (Nat.add_le_add_right hn249 R)
                            have NN249 := Nat.le_trans NN5 hn249
                            refine K_finL [] rfl (?_)
                            exact Told.mk [] rfl ⟨_, G249, NN249, by omega⟩
          · refine K_reg (Wops_run rfl rfl (Wops_run rfl rfl (K_fin [(0, _), (1, _), (4, _), (21, _), (56, _)] rfl (?_))))
            refine K_cond rfl (fun hc => ?_) (fun hc => ?_)
            · refine K_reg (Wops_run rfl rfl (Wops_run rfl rfl (Wops_run rfl rfl (Wops_call rfl ((H.e _ _).go G5 rr5 (by omega)) ?_))))
              rintro _ h250 ⟨s250, G250, hn250, hp250⟩
              have rr250 := Nat.le_trans rr5 (Nat.add_le_add_right hn250 R)
              have NN250 := Nat.le_trans NN5 hn250
              refine K_fin [(0, _), (1, _), (4, _)] rfl (?_)
              refine K_reg (Wops_run rfl rfl (Wops_run rfl rfl (Wops_run rfl rfl (Wops_run rfl rfl (Wops_call rfl ((H.e _ _).go G250 rr250 (by omega)) ?_)))))
              rintro _ h251 ⟨s251, G251, hn251, hp251⟩
              have rr251 := Nat.le_trans rr250 (Nat.add_le_add_right hn251 R)
              have NN251 := Nat.le_trans NN250 hn251
              refine K_fin [(0, _), (4, _)] rfl (?_)
              refine K_reg (Wops_bslice (l := ints .i64 [54, 58, 59]) rfl rfl fun h252 n252 x252 g252 => ?_)
              have G252 := G251.ext0 x252
              refine Wops_run rfl rfl (Wops_run rfl rfl (Wops_run rfl rfl (Wops_ld (v := ptr K.pp) rfl G252.m.gk rfl ?_)))
              refine Wops_call rfl (G252.c48 (by decide)) ?_
              rintro _ h253 ⟨r253, n253, rfl, hr253, G253, hn253, hp253, hu253, hz253, x253⟩
              have g252x253 : At h253 h251.next (.cells (ints .i64 [54, 58, 59]) 1 false) := At.ext (S := (· = K.pp)) g252 x253 (by have := G251.m.lt; omega)
              have rr253 := Nat.le_trans rr251 (Nat.add_le_add_right hn253 R)
              have NN253 := Nat.le_trans NN251 hn253
              refine Wops_iaV rfl rfl ⟨by omega, by omega⟩ (Wops_ld (v := .int .i64 (([54, 58, 59] : List Int).getD r253 0)) rfl g252x253 (by rw [Nat.zero_add, Nat.mul_one]; exact ints_getD (L := [54, 58, 59]) (show r253 < 3 by omega)) ?_)
              refine Wops_run rfl rfl (K_fin [(0, _), (4, _), (8, _)] rfl (?_))
              obtain ⟨s254, G254, hn254, hp254⟩ : ∃ q, Go K h s h253 q [] ∧ ({ s251 with n := n253 } : St).n ≤ q.n ∧ pot K q ≤ pot K ({ s251 with n := n253 } : St) := ⟨_, G253, Nat.le_refl _, Int.le_refl _⟩
              have rr254 := Nat.le_trans rr253 (Nat.add_le_add_right hn254 R)
              have NN254 := Nat.le_trans NN253 hn254
              refine K_ss (K_reg (Wops_run rfl rfl (Wops_run rfl rfl (K_fin [(0, _), (8, _), (77, _)] rfl (?_)))))
              refine K_scond rfl (fun hc => ?_) (fun hc => ?_)
              · refine K_reg (Wops_bslice (l := ints .i64 [55, 60, 61, 62]) rfl rfl fun h255 n255 x255 g255 => ?_)
                have G255 := G254.ext0 x255
                refine Wops_run rfl rfl (Wops_run rfl rfl (Wops_run rfl rfl (Wops_ld (v := ptr K.pp) rfl G255.m.gk rfl ?_)))
                refine Wops_call rfl (G255.c48 (by decide)) ?_
                rintro _ h256 ⟨r256, n256, rfl, hr256, G256, hn256, hp256, hu256, hz256, x256⟩
                have g255x256 : At h256 h253.next (.cells (ints .i64 [55, 60, 61, 62]) 1 false) := At.ext (S := (· = K.pp)) g255 x256 (by have := G254.m.lt; omega)
                have rr256 := Nat.le_trans rr254 (Nat.add_le_add_right hn256 R)
                have NN256 := Nat.le_trans NN254 hn256
                refine Wops_iaV rfl rfl ⟨by omega, by omega⟩ (Wops_ld (v := .int .i64 (([55, 60, 61, 62] : List Int).getD r256 0)) rfl g255x256 (by rw [Nat.zero_add, Nat.mul_one]; exact ints_getD (L := [55, 60, 61, 62]) (show r256 < 4 by omega)) ?_)
                refine Wops_run rfl rfl (K_fin [(0, _), (8, _)] rfl (?_))
                obtain ⟨s257, G257, hn257, hp257⟩ : ∃ q, Go K h s h256 q [] ∧ ({ s254 with n := n256 } : St).n ≤ q.n ∧ pot K q ≤ pot K ({ s254 with n := n256 } : St) := ⟨_, G256, Nat.le_refl _, Int.le_refl _⟩
                have rr257 := Nat.le_trans rr256 (Nat.add_le_add_right hn257 R)
                have NN257 := Nat.le_trans NN256 hn257
                refine K_last (Wops_run rfl rfl (Wops_run rfl rfl (Wops_run rfl rfl (Wops_run rfl rfl (Wops_ld (v := .slice s257.oa s257.ops.length s257.oc) rfl G257.m.gk rfl ?_)))))
                refine Wops_run rfl rfl (Wops_run rfl rfl (Wops_run rfl rfl (Wops_run rfl rfl (Wops_ld (v := ptr K.pp) rfl G257.m.gk rfl ?_))))
                refine Wops_call rfl (G257.c48 (by decide)) ?_
                rintro _ h258 ⟨r258, n258, rfl, hr258, G258, hn258, hp258, hu258, hz258, x258⟩
                have rr258 := Nat.le_trans rr257 (Nat.add_le_add_right hn258 R)
                have NN258 := Nat.le_trans NN257 hn258
                obtain ⟨lq259, oq259, _⟩ := G258.m.o
                refine Wops_chk rfl rfl G258.m.gk (v := .slice s257.oa s257.ops.length s257.oc) rfl oq259.sl.same ?_
                refine Wops_run rfl rfl (Wops_run rfl rfl (?_))
                obtain ⟨l260, o260, il260⟩ := G258.m.o
                have hops260 : s257.ops.length ≤ 100100 := pot_opsB (K := K) (s := ({ s257 with n := n258 } : St)) G258.m (by omega)
                refine Wops_bslice (l := [.int .i64 (([55, 60, 61, 62] : List Int).getD r256 0), .int .u32 0, _, .int .u64 0, .slice none 0 0, .int .i64 0]) rfl rfl fun h260 n260 x260 g260 => ?_
                refine Wops_app (m := 1) rfl rfl (o260.ext x260) rfl (OwS.new (n := 1) (c := 1) g260 rfl).sl.first ⟨by omega, by omega⟩ rfl rfl (by decide) fun hh260 a260 c260 xx260 oo260 b260 => ?_
                refine Wops_run rfl rfl (Wops_run rfl rfl (Wops_st (l := [.slice a260 (({ s257 with n := n258 } : St).ops.length + 1) c260]) rfl rfl rfl rfl ((G258.m.gk.ext x260).ext xx260 fun r => (G258.m.no _ r).2.1 rfl) (by simp) rfl fun h261 nn261 x261 g261 => ?_))
                obtain ⟨s261, G261, hn261, hp261⟩ := G258.push' (k := 1) (os := [(([55, 60, 61, 62] : List Int).getD r256 0)]) (st' := []) il260 x260 xx260 rfl oo260 b260 x261 g261 (.one rfl) (fun w q => .plain q (getD_all (L := ([55, 60, 61, 62] : List Int)) (by decide) (show r256 < 4 by omega)))
                have rr261 := Nat.le_trans rr258 (Nat.add_le_add_right hn261 R)
                have NN261 := Nat.le_trans NN258 hn261
                refine K_finL [] rfl (?_)
                exact Told.mk [] rfl ⟨_, G261, NN261, by omega⟩
              · refine K_sskip (K_last (Wops_run rfl rfl (Wops_run rfl rfl (Wops_run rfl rfl (Wops_run rfl rfl (Wops_ld (v := .slice s254.oa s254.ops.length s254.oc) rfl G254.m.gk rfl ?_))))))
                refine Wops_run rfl rfl (Wops_run rfl rfl (Wops_run rfl rfl (Wops_run rfl rfl (Wops_ld (v := ptr K.pp) rfl G254.m.gk rfl ?_))))
                refine Wops_call rfl (G254.c48 (by decide)) ?_
                rintro _ h262 ⟨r262, n262, rfl, hr262, G262, hn262, hp262, hu262, hz262, x262⟩
                have rr262 := Nat.le_trans rr254 (Nat.add_le_add_right hn262 R)
                have NN262 := Nat.le_trans NN254 hn262
                obtain ⟨lq263, oq263, _⟩ := G262.m.o
                refine Wops_chk rfl rfl G262.m.gk (v := .slice s254.oa s254.ops.length s254.oc) rfl oq263.sl.same ?_
                refine Wops_run rfl rfl (Wops_run rfl rfl (?_))
                obtain ⟨l264, o264, il264⟩ := G262.m.o
                have hops264 : s254.ops.length ≤ 100100 := pot_opsB (K := K) (s := ({ s254 with n := n262 } : St)) G262.m (by omega)
                refine Wops_bslice (l := [.int .i64 (([54, 58, 59] : List Int).getD r253 0), .int .u32 0, _, .int .u64 0, .slice none 0 0, .int .i64 0]) rfl rfl fun h264 n264 x264 g264 => ?_
                refine Wops_app (m := 1) rfl rfl (o264.ext x264) rfl (OwS.new (n := 1) (c := 1) g264 rfl).sl.first ⟨by omega, by omega⟩ rfl rfl (by decide) fun hh264 a264 c264 xx264 oo264 b264 => ?_
                refine Wops_run rfl rfl (Wops_run rfl rfl (Wops_st (l := [.slice a264 (({ s254 with n := n262 } : St).ops.length + 1) c264]) rfl rfl rfl rfl ((G262.m.gk.ext x264).ext xx264 fun r => (G262.m.no _ r).2.1 rfl) (by simp) rfl fun h265 nn265 x265 g265 => ?_))
                obtain ⟨s265, G265, hn265, hp265⟩ := G262.push' (k := 1) (os := [(([54, 58, 59] : List Int).getD r253 0)]) (st' := []) il264 x264 xx264 rfl oo264 b264 x265 g265 (.one rfl) (fun w q => .plain q (getD_all (L := ([54, 58, 59] : List Int)) (by decide) (show r253 < 3 by omega)))
                have rr265 := Nat.le_trans rr262 (Nat.add_le_add_right hn265 R)
                have NN265 := Nat.le_trans NN262 hn265
                refine K_finL [] rfl (?_)
                exact Told.mk [] rfl ⟨_, G265, NN265, by omega⟩
            · refine K_reg (Wops_run rfl rfl (Wops_run rfl rfl (K_fin [(0, _), (1, _), (21, _), (103, _)] rfl (?_))))
              refine K_cond rfl (fun hc => ?_) (fun hc => ?_)
              · refine K_reg (Wops_run rfl rfl (Wops_run rfl rfl (Wops_call rfl ((H.t _).go G5 rr5 (by omega)) ?_)))
                rintro _ h266 ⟨s266, G266, hn266, hp266⟩
                have rr266 := Nat.le_trans rr5 (Nat.add_le_add_right hn266 R)
                have NN266 := Nat.le_trans NN5 hn266
                refine K_fin [(0, _)] rfl (?_)
                refine K_last (Wops_run rfl rfl (Wops_bslice (l := ints .i64 [64522, 64523, 64523]) rfl rfl fun h267 n267 x267 g267 => ?_))
                have G267 := G266.ext0 x267
                refine Wops_run rfl rfl (Wops_run rfl rfl (Wops_run rfl rfl (Wops_ld (v := ptr K.pp) rfl G267.m.gk rfl ?_)))
                refine Wops_call rfl (G267.c48 (by decide)) ?_
                rintro _ h268 ⟨r268, n268, rfl, hr268, G268, hn268, hp268, hu268, hz268, x268⟩
                have g267x268 : At h268 h266.next (.cells (ints .i64 [64522, 64523, 64523]) 1 false) := At.ext (S := (· = K.pp)) g267 x268 (by have := G266.m.lt; omega)
                have rr268 := Nat.le_trans rr266 (Nat.add_le_add_right hn268 R)
                have NN268 := Nat.le_trans NN266 hn268
                refine Wops_iaV rfl rfl ⟨by omega, by omega⟩ (Wops_ld (v := .int .i64 (([64522, 64523, 64523] : List Int).getD r268 0)) rfl g267x268 (by rw [Nat.zero_add, Nat.mul_one]; exact ints_getD (L := [64522, 64523, 64523]) (show r268 < 3 by omega)) ?_)
                refine Wops_call rfl (G268.c64 (st' := []) (by omega) (fun w q => .plain q (getD_all (L := ([64522, 64523, 64523] : List Int)) (by decide) (show r268 < 3 by omega)))) ?_
                rintro _ h269 ⟨s269, G269, hn269, hp269⟩
                have rr269 := Nat.le_trans rr268 (Nat.add_le_add_right hn269 R)
                have NN269 := Nat.le_trans NN268 hn269
                refine K_finL [] rfl (?_)
                exact Told.mk [] rfl ⟨_, G269, NN269, by omega⟩
              · refine K_reg (Wops_run rfl rfl (Wops_run rfl rfl (K_fin [(0, _), (1, _), (21, _), (118, _)] rfl (?_))))
                refine K_cond rfl (fun hc => ?_) (fun hc => ?_)
                · refine K_reg (Wops_run rfl rfl (Wops_run rfl rfl (Wops_call rfl ((H.t _).go G5 rr5 (by omega)) ?_)))
                  rintro _ h270 ⟨s270, G270, hn270, hp270⟩
                  have rr270 := Nat.le_trans rr5 (Nat.add_le_add_right hn270 R)
                  have NN270 := Nat.le_trans NN5 hn270
                  refine K_fin [(0, _)] rfl (?_)
                  refine K_last (Wops_run rfl rfl (Wops_run rfl rfl (Wops_run rfl rfl (Wops_run rfl rfl (Wops_ld (v := ptr K.pp) rfl G270.m.gk rfl ?_)))))
                  refine Wops_call rfl (G270.c48 (by decide)) ?_
                  rintro _ h271 ⟨r271, n271, rfl, hr271, G271, hn271, hp271, hu271, hz271, x271⟩
                  have rr271 := Nat.le_trans rr270 (Nat.add_le_add_right hn271 R)
                  have NN271 := Nat.le_trans NN270 hn271
                  refine Wops_run rfl rfl (Wops_call rfl (G271.c63 (st' := []) (by omega) (fun w q => .plain q (by decide))) ?_)
                  rintro _ h272 ⟨s272, G272, hn272, hp272⟩
                  have rr272 := Nat.le_trans rr271 (Nat.add_le_add_right hn272 R)
                  have NN272 := Nat.le_trans NN271 hn272
                  refine K_finL [] rfl (?_)
                  exact Told.mk [] rfl ⟨_, G272, NN272, by omega⟩
                · refine K_reg (Wops_run rfl rfl (Wops_run rfl rfl (K_fin [(0, _), (1, _), (21, _), (131, _)] rfl (?_))))
                  refine K_cond rfl (fun hc => ?_) (fun hc => ?_)
                  · refine K_reg (Wops_run rfl rfl (Wops_run rfl rfl (Wops_call rfl ((H.t _).go G5 rr5 (by omega)) ?_)))
                    rintro _ h273 ⟨s273, G273, hn273, hp273⟩
                    have rr273 := Nat.le_trans rr5 (Nat.add_le_add_right hn273 R)
                    have NN273 := Nat.le_trans NN5 hn273
                    refine K_fin [(0, _)] rfl (?_)
                    refine K_last (Wops_run rfl rfl (Wops_run rfl rfl (Wops_run rfl rfl (Wops_run rfl rfl (Wops_ld (v := .slice s273.oa s273.ops.length s273.oc) rfl G273.m.gk rfl ?_)))))
                    refine Wops_bslice (l := ints .i64 [64524, 64526]) rfl rfl fun h274 n274 x274 g274 => ?_
                    have G274 := G273.ext0 x274
                    refine Wops_run rfl rfl (Wops_run rfl rfl (Wops_run rfl rfl (Wops_ld (v := ptr K.pp) rfl G274.m.gk rfl ?_)))
                    refine Wops_call rfl (G274.c48 (by decide)) ?_
                    rintro _ h275 ⟨r275, n275, rfl, hr275, G275, hn275, hp275, hu275, hz275, x275⟩
                    have g274x275 : At h275 h273.next (.cells (ints .i64 [64524, 64526]) 1 false) := At.ext (S := (· = K.pp)) g274 x275 (by have := G273.m.lt; omega)
                    have rr275 := Nat.le_trans rr273 (Nat.add_le_add_right hn275 R)
                    have NN275 := Nat.le_trans NN273 hn275
                    obtain ⟨lq276, oq276, _⟩ := G275.m.o
                    refine Wops_chk rfl rfl G275.m.gk (v := .slice s273.oa s273.ops.length s273.oc) rfl oq276.sl.same ?_
                    refine Wops_iaV rfl rfl ⟨by omega, by omega⟩ (Wops_ld (v := .int .i64 (([64524, 64526] : List Int).getD r275 0)) rfl g274x275 (by rw [Nat.zero_add, Nat.mul_one]; exact ints_getD (L := [64524, 64526]) (show r275 < 2 by omega)) ?_)
                    refine Wops_run rfl rfl (?_)
                    obtain ⟨l277, o277, il277⟩ := G275.m.o
                    have hops277 : s273.ops.length ≤ 100100 := pot_opsB (K := K) (s := ({ s273 with n := n275 } : St)) G275.m (by omega)
                    refine Wops_bslice (l := [.int .i64 (([64524, 64526] : List Int).getD r275 0), .int .u32 0, .int .u32 0, .int .u64 0, .slice none 0 0, .int .i64 0]) rfl rfl fun h277 n277 x277 g277 => ?_
                    refine Wops_app (m := 1) rfl rfl (o277.ext x277) rfl (OwS.new (n := 1) (c := 1) g277 rfl).sl.first ⟨by omega, by omega⟩ rfl rfl (by decide) fun hh277 a277 c277 xx277 oo277 b277 => ?_
                    refine Wops_run rfl rfl (Wops_run rfl rfl (Wops_st (l := [.slice a277 (({ s273 with n := n275 } : St).ops.length + 1) c277]) rfl rfl rfl rfl ((G275.m.gk.ext x277).ext xx277 fun r => (G275.m.no _ r).2.1 rfl) (by simp) rfl fun h278 nn278 x278 g278 => ?_))
                    obtain ⟨s278, G278, hn278, hp278⟩ := G275.push' (k := 1) (os := [(([64524, 64526] : List Int).getD r275 0)]) (st' := []) il277 x277 xx277 rfl oo277 b277 x278 g278 (.one rfl) (fun w q => .plain q (getD_all (L := ([64524, 64526] : List Int)) (by decide) (show r275 < 2 by omega)))
                    have rr278 := Nat.le_trans rr275 (Nat.add_le_add_right hn278 R)
                    have NN278 := Nat.le_trans NN275 hn278
                    refine K_finL [] rfl (?_)
                    exact Told.mk [] rfl ⟨_, G278, NN278, by omega⟩
                  · refine K_reg (Wops_run rfl rfl (Wops_run rfl rfl (K_fin [(0, _), (1, _), (21, _), (154, _)] rfl (?_))))
                    refine K_cond rfl (fun hc => ?_) (fun hc => ?_)
                    · refine K_reg (Wops_run rfl rfl (Wops_run rfl rfl (Wops_run rfl rfl (Wops_run rfl rfl (Wops_ld (v := ptr K.pp) rfl G5.m.gk rfl ?_)))))
                      refine Wops_call rfl (G5.c48 (by decide)) ?_
                      rintro _ h279 ⟨r279, n279, rfl, hr279, G279, hn279, hp279, hu279, hz279, x279⟩
                      have rr279 := Nat.le_trans rr5 (Nat.add_le_add_right hn279 R)
                      have NN279 := Nat.le_trans NN5 hn279
                      refine Wops_run rfl rfl (Wops_call rfl (G279.c60 (by omega)) ?_)
                      rintro _ h280 ⟨s280, G280, hn280, hp280⟩
                      have rr280 := Nat.le_trans rr279 (Nat.add_le_add_right hn280 R)
                      have NN280 := Nat.le_trans NN279 hn280
                      refine K_fin [(0, _)] rfl (?_)
                      refine K_reg (Wops_run rfl rfl (Wops_call rfl (G280.c75 (by omega)) ?_))
                      rintro _ h281 ⟨s281, G281, hn281, hp281⟩
                      have rr281 := Nat.le_trans rr280 (Nat.add_le_add_right hn281 R)
                      have NN281 := Nat.le_trans NN280 hn281
                      refine K_fin [(0, _)] rfl (?_)
                      refine K_last (Wops_run rfl rfl (Wops_call rfl (G281.c63 (st' := []) (by omega) (fun w q => .plain q (by decide))) ?_))
                      rintro _ h282 ⟨s282, G282, hn282, hp282⟩
                      have rr282 := Nat.le_trans rr281 (Nat.add_le_add_right hn282 R)
                      have NN282 := Nat.le_trans NN281 hn282
                      refine K_finL [] rfl (?_)
                      exact Told.mk [] rfl ⟨_, G282, NN282, by omega⟩
                    · refine K_reg (Wops_run rfl rfl (Wops_run rfl rfl (K_fin [(0, _), (1, _), (21, _), (168, _)] rfl (?_))))
                      refine K_cond rfl (fun hc => ?_) (fun hc => ?_)
                      · refine K_last (Wops_run rfl rfl (Wops_run rfl rfl (Wops_call rfl ((H.lo _).go G5 rr5 (by omega)) ?_)))
                        rintro _ h283 ⟨s283, G283, hn283, hp283⟩
                        have rr283 := Nat.le_trans rr5 (Nat.add_le_add_right hn283 R)
                        have NN283 := Nat.le_trans NN5 hn283
                        refine K_finL [] rfl (?_)
                        exact Told.mk [] rfl ⟨_, G283, NN283, by omega⟩
                      · refine K_reg (Wops_run rfl rfl (Wops_run rfl rfl (K_fin [(0, _), (1, _), (21, _), (173, _)] rfl (?_))))
                        refine K_cond rfl (fun hc => ?_) (fun hc => ?_)
                        · refine K_last (Wops_run rfl rfl (Wops_bslice (l := ints .i64 [64521, 64525]) rfl rfl fun h284 n284 x284 g284 => ?_))
                          have G284 := G5.ext0 x284
                          refine Wops_run rfl rfl (Wops_run rfl rfl (Wops_run rfl rfl (Wops_ld (v := ptr K.pp) rfl G284.m.gk rfl ?_)))
                          refine Wops_run rfl rfl (Wops_run rfl rfl (Wops_run rfl rfl (Wops_ld (v := ptr K.pp) rfl G284.m.gk rfl ?_)))
                          refine Wops_call rfl (G284.c48 (by decide)) ?_
                          rintro _ h285 ⟨r285, n285, rfl, hr285, G285, hn285, hp285, hu285, hz285, x285⟩
                          have g284x285 : At h285 h4.next (.cells (ints .i64 [64521, 64525]) 1 false) := At.ext (S := (· = K.pp)) g284 x285 (by have := G5.m.lt; omega)
                          have rr285 := Nat.le_trans rr5 (Nat.add_le_add_right hn285 R)
                          have NN285 := Nat.le_trans NN5 hn285
                          refine Wops_chk rfl rfl G285.m.gk (v := ptr K.pp) rfl (by simp [sameV, sameCell]) ?_
                          refine Wops_iaV rfl rfl ⟨by omega, by omega⟩ (Wops_ld (v := .int .i64 (([64521, 64525] : List Int).getD r285 0)) rfl g284x285 (by rw [Nat.zero_add, Nat.mul_one]; exact ints_getD (L := [64521, 64525]) (show r285 < 2 by omega)) ?_)
                          refine Wops_call rfl (G285.c48 (by decide)) ?_
                          rintro _ h286 ⟨r286, n286, rfl, hr286, G286, hn286, hp286, hu286, hz286, x286⟩
                          have g284x285x286 : At h286 h4.next (.cells (ints .i64 [64521, 64525]) 1 false) := At.ext (S := (· = K.pp)) g284x285 x286 (by have := G5.m.lt; omega)
                          have rr286 := Nat.le_trans rr285 (Nat.add_le_add_right hn286 R)
                          have NN286 := Nat.le_trans NN285 hn286
                          refine Wops_chk rfl rfl g284x285x286 (v := .int .i64 (([64521, 64525] : List Int).getD r285 0)) (by rw [Nat.zero_add, Nat.mul_one]; exact ints_getD (L := ([64521, 64525] : List Int)) (show r285 < 2 by omega)) (by simp [sameV, sameCell]) ?_
                          refine Wops_run rfl rfl (Wops_call rfl (G286.c63 (st' := []) (by omega) (fun w q => .plain q (getD_all (L := ([64521, 64525] : List Int)) (by decide) (show r285 < 2 by omega)))) ?_)
                          rintro _ h287 ⟨s287, G287, hn287, hp287⟩
                          have rr287 := Nat.le_trans rr286 (Nat.add_le_add_right hn287 R)
                          have NN287 := Nat.le_trans NN286 hn287
                          refine K_finL [] rfl (?_)
                          exact Told.mk [] rfl ⟨_, G287, NN287, by omega⟩
                        · refine K_reg (Wops_run rfl rfl (Wops_run rfl rfl (K_fin [(0, _), (1, _), (191, _)] rfl (?_))))
                          refine K_cond rfl (fun hc => ?_) (fun hc => ?_)
                          · refine K_reg (Wops_run rfl rfl (Wops_run rfl rfl (Wops_run rfl rfl (Wops_run rfl rfl (Wops_ld (v := ptr K.pp) rfl G5.m.gk rfl ?_)))))
                            refine Wops_call rfl (G5.c48 (by decide)) ?_
                            rintro _ h288 ⟨r288, n288, rfl, hr288, G288, hn288, hp288, hu288, hz288, x288⟩
                            have rr288 := Nat.le_trans rr5 (Nat.add_le_add_right hn288 R)
                            have NN288 := Nat.le_trans NN5 hn288
                            refine Wops_run rfl rfl (Wops_call rfl (G288.c60 (by omega)) ?_)
                            rintro _ h289 ⟨s289, G289, hn289, hp289⟩
                            have rr289 := Nat.le_trans rr288 (Nat.add_le_add_right hn289 R)
                            have NN289 := Nat.le_trans NN288 hn289
                            refine K_fin [(0, _)] rfl (?_)
                            refine K_reg (Wops_run rfl rfl (Wops_call rfl (G289.c75 (by omega)) ?_))
                            rintro _ h290 ⟨s290, G290, hn290, hp290⟩
                            have rr290 := Nat.le_trans rr289 (Nat.add_le_add_right hn290 R)
                            have NN290 := Nat.le_trans NN289 hn290
                            refine K_fin [(0, _)] rfl (?_)
                            refine K_reg (Wops_run rfl rfl (Wops_run rfl rfl (Wops_run rfl rfl (Wops_run rfl rfl (Wops_ld (v := ptr K.pp) rfl G290.m.gk rfl ?_)))))
                            refine Wops_call rfl (G290.c48 (by decide)) ?_
                            rintro _ h291 ⟨r291, n291, rfl, hr291, G291, hn291, hp291, hu291, hz291, x291⟩
                            have rr291 := Nat.le_trans rr290 (Nat.add_le_add_right hn291 R)
                            have NN291 := Nat.le_trans NN290 hn291
                            refine Wops_run rfl rfl (Wops_call rfl (G291.c60 (by omega)) ?_)
                            rintro _ h292 ⟨s292, G292, hn292, hp292⟩
                            have rr292 := Nat.le_trans rr291 (Nat.add_le_add_right hn292 R)
                            have NN292 := Nat.le_trans NN291 hn292
                            refine K_fin [(0, _)] rfl (?_)
                            refine K_last (Wops_run rfl rfl (Wops_call rfl (G292.c63 (st' := []) (by omega) (fun w q => .plain q (by decide))) ?_))
                            rintro _ h293 ⟨s293, G293, hn293, hp293⟩
                            have rr293 := Nat.le_trans rr292 (Nat.add_le_add_right hn293 R)
                            have NN293 := Nat.le_trans NN292 hn293
                            refine K_finL [] rfl (?_)
                            exact Told.mk [] rfl ⟨_, G293, NN293, by omega⟩
                          · refine K_last (Wops_run rfl rfl (Wops_run rfl rfl (Wops_call rfl ((H.j _).go G5 rr5 (by omega)) ?_)))
                            rintro _ h294 ⟨s294, G294, hn294, hp294⟩
                            have rr294 := Nat.le_trans rr5 (Nat.add_le_add_right hn294 R)
                            have NN294 := Nat.le_trans NN5 hn294
                            refine K_finL [] rfl (?_)
                            exact Told.mk [] rfl ⟨_, G294, NN294, by omega⟩
      · refine K_reg (Wops_run rfl rfl (Wops_run rfl rfl (K_fin [(0, _), (1, _), (4, _), (21, _), (44, _)] rfl (?_))))
        refine K_cond rfl (fun hc => ?_) (fun hc => ?_)
        · refine K_reg (Wops_run rfl rfl (Wops_run rfl rfl (Wops_run rfl rfl (Wops_call rfl ((H.e _ _).go G5 rr5 (by omega)) ?_))))
          rintro _ h295 ⟨s295, G295, hn295, hp295⟩
          have rr295 := Nat.le_trans rr5 (Nat.add_le_add_right hn295 R)
          have NN295 := Nat.le_trans NN5 hn295
          refine K_fin [(0, _), (4, _)] rfl (?_)
          refine K_reg (Wops_run rfl rfl (K_fin [(0, _), (4, _), (7, _)] rfl (?_)))
          refine K_ss (K_reg (Wops_run rfl rfl (Wops_run rfl rfl (K_fin [(0, _), (7, _), (52, _)] rfl (?_)))))
          refine K_scond rfl (fun hc => ?_) (fun hc => ?_)
          · refine K_reg (Wops_run rfl rfl (K_fin [(0, _), (7, _)] rfl (?_)))
            refine K_last (Wops_run rfl rfl (Wops_run rfl rfl (Wops_call rfl (G295.c63 (st' := []) (by omega) (fun w q => .plain q (by decide))) ?_)))
            rintro _ h296 ⟨s296, G296, hn296, hp296⟩
            have rr296 := Nat.le_trans rr295 (Nat.add_le_add_right hn296 R)
            have NN296 := Nat.le_trans NN295 hn296
            refine K_finL [] rfl (?_)
            exact Told.mk [] rfl ⟨_, G296, NN296, by omega⟩
          · refine K_sskip (K_last (Wops_run rfl rfl (Wops_run rfl rfl (Wops_call rfl (G295.c63 (st' := []) (by omega) (fun w q => .plain q (by decide))) ?_))))
            rintro _ h297 ⟨s297, G297, hn297, hp297⟩
            have rr297 := Nat.le_trans rr295 (Nat.add_le_add_right hn297 R)
            have NN297 := Nat.le_trans NN295 hn297
            refine K_finL [] rfl (?_)
            exact Told.mk [] rfl ⟨_, G297, NN297, by omega⟩
        · refine K_ss (K_reg (Wops_run rfl rfl (Wops_run rfl rfl (K_fin [(0, _), (1, _), (4, _), (21, _), (56, _)] rfl (?_)))))
          refine K_scond rfl (fun hc => ?_) (fun hc => ?_)
          · refine K_sskip (K_cond rfl (fun hc => ?_) (fun hc => ?_))
            · refine K_reg (Wops_run rfl rfl (Wops_run rfl rfl (Wops_run rfl rfl (Wops_call rfl ((H.e _ _).go G5 rr5 (by omega)) ?_))))
              rintro _ h298 ⟨s298, G298, hn298, hp298⟩
              have rr298 := Nat.le_trans rr5 (Nat.add_le_add_right hn298 R)
              have NN298 := Nat.le_trans NN5 hn298
              refine K_fin [(0, _), (1, _), (4, _)] rfl (?_)
              refine K_reg (Wops_run rfl rfl (Wops_run rfl rfl (Wops_run rfl rfl (Wops_run rfl rfl (Wops_call rfl ((H.e _ _).go G298 rr298 (by omega)) ?_)))))
              rintro _ h299 ⟨s299, G299, hn299, hp299⟩
              have rr299 := Nat.le_trans rr298 (Nat.add_le_add_right hn299 R)
              have NN299 := Nat.le_trans NN298 hn299
              refine K_fin [(0, _), (4, _)] rfl (?_)
              refine K_reg (Wops_bslice (l := ints .i64 [54, 58, 59]) rfl rfl fun h300 n300 x300 g300 => ?_)
              have G300 := G299.ext0 x300
              refine Wops_run rfl rfl (Wops_run rfl rfl (Wops_run rfl rfl (Wops_ld (v := ptr K.pp) rfl G300.m.gk rfl ?_)))
              refine Wops_call rfl (G300.c48 (by decide)) ?_
              rintro _ h301 ⟨r301, n301, rfl, hr301, G301, hn301, hp301, hu301, hz301, x301⟩
              have g300x301 : At h301 h299.next (.cells (ints .i64 [54, 58, 59]) 1 false) := At.ext (S := (· = K.pp)) g300 x301 (by have := G299.m.lt; omega)
              have rr301 := Nat.le_trans rr299 (Nat.add_le_add_right hn301 R)
              have NN301 := Nat.le_trans NN299 hn301
              refine Wops_iaV rfl rfl ⟨by omega, by omega⟩ (Wops_ld (v := .int .i64 (([54, 58, 59] : List Int).getD r301 0)) rfl g300x301 (by rw [Nat.zero_add, Nat.mul_one]; exact ints_getD (L := [54, 58, 59]) (show r301 < 3 by omega)) ?_)
              refine Wops_run rfl rfl (K_fin [(0, _), (4, _), (8, _)] rfl (?_))
              obtain ⟨s302, G302, hn302, hp302⟩ : ∃ q, Go K h s h301 q [] ∧ ({ s299 with n := n301 } : St).n ≤ q.n ∧ pot K q ≤ pot K ({ s299 with n := n301 } : St) := ⟨_, G301, Nat.le_refl _, Int.le_refl _⟩
              have rr302 := Nat.le_trans rr301 (Nat.add_le_add_right hn302 R)
              have NN302 := Nat.le_trans NN301 hn302
              refine K_ss (K_reg (Wops_run rfl rfl (Wops_run rfl rfl (K_fin [(0, _), (8, _), (77, _)] rfl (?_)))))
              refine K_scond rfl (fun hc => ?_) (fun hc => ?_)
              · refine K_reg (Wops_bslice (l := ints .i64 [55, 60, 61, 62]) rfl rfl fun h303 n303 x303 g303 => ?_)
                have G303 := G302.ext0 x303
                refine Wops_run rfl rfl (Wops_run rfl rfl (Wops_run rfl rfl (Wops_ld (v := ptr K.pp) rfl G303.m.gk rfl ?_)))
                refine Wops_call rfl (G303.c48 (by decide)) ?_
                rintro _ h304 ⟨r304, n304, rfl, hr304, G304, hn304, hp304, hu304, hz304, x304⟩
                have g303x304 : At h304 h301.next (.cells (ints .i64 [55, 60, 61, 62]) 1 false) := At.ext (S := (· = K.pp)) g303 x304 (by have := G302.m.lt; omega)
                have rr304 := Nat.le_trans rr302 (Nat.add_le_add_right hn304 R)
                have NN304 := Nat.le_trans NN302 hn304
                refine Wops_iaV rfl rfl ⟨by omega, by omega⟩ (Wops_ld (v := .int .i64 (([55, 60, 61, 62] : List Int).getD r304 0)) rfl g303x304 (by rw [Nat.zero_add, Nat.mul_one]; exact ints_getD (L := [55, 60, 61, 62]) (show r304 < 4 by omega)) ?_)
                refine Wops_run rfl rfl (K_fin [(0, _), (8, _)] rfl (?_))
                obtain ⟨s305, G305, hn305, hp305⟩ : ∃ q, Go K h s h304 q [] ∧ ({ s302 with n := n304 } : St).n ≤ q.n ∧ pot K q ≤ pot K ({ s302 with n := n304 } : St) := ⟨_, G304, Nat.le_refl _, Int.le_refl _⟩
                have rr305 := Nat.le_trans rr304 (Nat.add_le_add_right hn305 R)
                have NN305 := Nat.le_trans NN304 hn305
                refine K_last (Wops_run rfl rfl (Wops_run rfl rfl (Wops_run rfl rfl (Wops_run rfl rfl (Wops_ld (v := .slice s305.oa s305.ops.length s305.oc) rfl G305.m.gk rfl ?_)))))
                refine Wops_run rfl rfl (Wops_run rfl rfl (Wops_run rfl rfl (Wops_run rfl rfl (Wops_ld (v := ptr K.pp) rfl G305.m.gk rfl ?_))))
                refine Wops_call rfl (G305.c48 (by decide)) ?_
                rintro _ h306 ⟨r306, n306, rfl, hr306, G306, hn306, hp306, hu306, hz306, x306⟩
                have rr306 := Nat.le_trans rr305 (Nat.add_le_add_right hn306 R)
                have NN306 := Nat.le_trans NN305 hn306
                obtain ⟨lq307, oq307, _⟩ := G306.m.o
                refine Wops_chk rfl rfl G306.m.gk (v := .slice s305.oa s305.ops.length s305.oc) rfl oq307.sl.same ?_
                refine Wops_run rfl rfl (Wops_run rfl rfl (?_))
                obtain ⟨l308, o308, il308⟩ := G306.m.o
                have hops308 : s305.ops.length ≤ 100100 := pot_opsB (K := K) (s := ({ s305 with n := n306 } : St)) G306.m (by omega)
                refine Wops_bslice (l := [.int .i64 (([55, 60, 61, 62] : List Int).getD r304 0), .int .u32 0, _, .int .u64 0, .slice none 0 0, .int .i64 0]) rfl rfl fun h308 n308 x308 g308 => ?_
                refine Wops_app (m := 1) rfl rfl (o308.ext x308) rfl (OwS.new (n := 1) (c := 1) g308 rfl).sl.first ⟨by omega, by omega⟩ rfl rfl (by decide) fun hh308 a308 c308 xx308 oo308 b308 => ?_
                refine Wops_run rfl rfl (Wops_run rfl rfl (Wops_st (l := [.slice a308 (({ s305 with n := n306 } : St).ops.length + 1) c308]) rfl rfl rfl rfl ((G306.m.gk.ext x308).ext xx308 fun r => (G306.m.no _ r).2.1 rfl) (by simp) rfl fun h309 nn309 x309 g309 => ?_))
                obtain ⟨s309, G309, hn309, hp309⟩ := G306.push' (k := 1) (os := [(([55, 60, 61, 62] : List Int).getD r304 0)]) (st' := []) il308 x308 xx308 rfl oo308 b308 x309 g309 (.one rfl) (fun w q => .plain q (getD_all (L := ([55, 60, 61, 62] : List Int)) (by decide) (show r304 < 4 by omega)))
                have rr309 := Nat.le_trans rr306 (Nat.add_le_add_right hn309 R)
                have NN309 := Nat.le_trans NN306 hn309
                refine K_finL [] rfl (?_)
                exact Told.mk [] rfl ⟨_, G309, NN309, by omega⟩
              · refine K_sskip (K_last (Wops_run rfl rfl (Wops_run rfl rfl (Wops_run rfl rfl (Wops_run rfl rfl (Wops_ld (v := .slice s302.oa s302.ops.length s302.oc) rfl G302.m.gk rfl ?_))))))
                refine Wops_run rfl rfl (Wops_run rfl rfl (Wops_run rfl rfl (Wops_run rfl rfl (Wops_ld (v := ptr K.pp) rfl G302.m.gk rfl ?_))))
                refine Wops_call rfl (G302.c48 (by decide)) ?_
                rintro _ h310 ⟨r310, n310, rfl, hr310, G310, hn310, hp310, hu310, hz310, x310⟩
                have rr310 := Nat.le_trans rr302 (Nat.add_le_add_right hn310 R)
                have NN310 := Nat.le_trans NN302 hn310
                obtain ⟨lq311, oq311, _⟩ := G310.m.o
                refine Wops_chk rfl rfl G310.m.gk (v := .slice s302.oa s302.ops.length s302.oc) rfl oq311.sl.same ?_
                refine Wops_run rfl rfl (Wops_run rfl rfl (?_))
                obtain ⟨l312, o312, il312⟩ := G310.m.o
                have hops312 : s302.ops.length ≤ 100100 := pot_opsB (K := K) (s := ({ s302 with n := n310 } : St)) G310.m (by omega)
                refine Wops_bslice (l := [.int .i64 (([54, 58, 59] : List Int).getD r301 0), .int .u32 0, _, .int .u64 0, .slice none 0 0, .int .i64 0]) rfl rfl fun h312 n312 x312 g312 => ?_
                refine Wops_app (m := 1) rfl rfl (o312.ext x312) rfl (OwS.new (n := 1) (c := 1) g312 rfl).sl.first ⟨by omega, by omega⟩ rfl rfl (by decide) fun hh312 a312 c312 xx312 oo312 b312 => ?_
                refine Wops_run rfl rfl (Wops_run rfl rfl (Wops_st (l := [.slice a312 (({ s302 with n := n310 } : St).ops.length + 1) c312]) rfl rfl rfl rfl ((G310.m.gk.ext x312).ext xx312 fun r => (G310.m.no _ r).2.1 rfl) (by simp) rfl fun h313 nn313 x313 g313 => ?_))
                obtain ⟨s313, G313, hn313, hp313⟩ := G310.push' (k := 1) (os := [(([54, 58, 59] : List Int).getD r301 0)]) (st' := []) il312 x312 xx312 rfl oo312 b312 x313 g313 (.one rfl) (fun w q => .plain q (getD_all (L := ([54, 58, 59] : List Int)) (by decide) (show r301 < 3 by omega)))
                have rr313 := Nat.le_trans rr310 (Nat.add_le_add_right hn313 R)
                have NN313 := Nat.le_trans NN310 hn313
                refine K_finL [] rfl (?_)
                exact Told.mk [] rfl ⟨_, G313, NN313, by omega⟩
            · refine K_reg (Wops_run rfl rfl (Wops_run rfl rfl (K_fin [(0, _), (1, _), (21, _), (103, _)] rfl (?_))))
              refine K_cond rfl (fun hc => ?_) (fun hc => ?_)
              · refine K_reg (Wops_run rfl rfl (Wops_run rfl rfl (Wops_call rfl ((H.t _).go G5 rr5 (by omega)) ?_)))
                rintro _ h314 ⟨s314, G314, hn314, hp314⟩
                have rr314 := Nat.le_trans rr5 (Nat.add_le_add_right hn314 R)
                have NN314 := Nat.le_trans NN5 hn314
                refine K_fin [(0, _)] rfl (?_)
                refine K_last (Wops_run rfl rfl (Wops_bslice (l := ints .i64 [64522, 64523, 64523]) rfl rfl fun h315 n315 x315 g315 => ?_))
                have G315 := G314.ext0 x315
                refine Wops_run rfl rfl (Wops_run rfl rfl (Wops_run rfl rfl (Wops_ld (v := ptr K.pp) rfl G315.m.gk rfl ?_)))
                refine Wops_call rfl (G315.c48 (by decide)) ?_
                rintro _ h316 ⟨r316, n316, rfl, hr316, G316, hn316, hp316, hu316, hz316, x316⟩
                have g315x316 : At h316 h314.next (.cells (ints .i64 [64522, 64523, 64523]) 1 false) := At.ext (S := (· = K.pp)) g315 x316 (by have := G314.m.lt; omega)
                have rr316 := Nat.le_trans rr314 (Nat.add_le_add_right hn316 R)
                have NN316 := Nat.le_trans NN314 hn316
                refine Wops_iaV rfl rfl ⟨by omega, by omega⟩ (Wops_ld (v := .int .i64 (([64522, 64523, 64523] : List Int).getD r316 0)) rfl g315x316 (by rw [Nat.zero_add, Nat.mul_one]; exact ints_getD (L := [64522, 64523, 64523]) (show r316 < 3 by omega)) ?_)
                refine Wops_call rfl (G316.c64 (st' := []) (by omega) (fun w q => .plain q (getD_all (L := ([64522, 64523, 64523] : List Int)) (by decide) (show r316 < 3 by omega)))) ?_
                rintro _ h317 ⟨s317, G317, hn317, hp317⟩
                have rr317 := Nat.le_trans rr316 (Nat.add_le_add_right hn317 R)
                have NN317 := Nat.le_trans NN316 hn317
                refine K_finL [] rfl (?_)
                exact Told.mk [] rfl ⟨_, G317, NN317, by omega⟩
              · refine K_reg (Wops_run rfl rfl (Wops_run rfl rfl (K_fin [(0, _), (1, _), (21, _), (118, _)] rfl (?_))))
                refine K_cond rfl (fun hc => ?_) (fun hc => ?_)
                · refine K_reg (Wops_run rfl rfl (Wops_run rfl rfl (Wops_call rfl ((H.t _).go G5 rr5 (by omega)) ?_)))
                  rintro _ h318 ⟨s318, G318, hn318, hp318⟩
                  have rr318 := Nat.le_trans rr5 (Nat.add_le_add_right hn318 R)
                  have NN318 := Nat.le_trans NN5 hn318
                  refine K_fin [(0, _)] rfl (?_)
                  refine K_last (Wops_run rfl rfl (Wops_run rfl rfl (Wops_run rfl rfl (Wops_run rfl rfl (Wops_ld (v := ptr K.pp) rfl G318.m.gk rfl ?_)))))
                  refine Wops_call rfl (G318.c48 (by decide)) ?_
                  rintro _ h319 ⟨r319, n319, rfl, hr319, G319, hn319, hp319, hu319, hz319, x319⟩
                  have rr319 := Nat.le_trans rr318 (Nat.add_le_add_right hn319 R)
                  have NN319 := Nat.le_trans NN318 hn319
                  refine Wops_run rfl rfl (Wops_call rfl (G319.c63 (st' := []) (by omega) (fun w q => .plain q (by decide))) ?_)
                  rintro _ h320 ⟨s320, G320, hn320, hp320⟩
                  have rr320 := Nat.le_trans rr319 (Nat.add_le_add_right hn320 R)
                  have NN320 := Nat.le_trans NN319 hn320
                  refine K_finL [] rfl (?_)
                  exact Told.mk [] rfl ⟨_, G320, NN320, by omega⟩
                · refine K_reg (Wops_run rfl rfl (Wops_run rfl rfl (K_fin [(0, _), (1, _), (21, _), (131, _)] rfl (?_))))
                  refine K_cond rfl (fun hc => ?_) (fun hc => ?_)
                  · refine K_reg (Wops_run rfl rfl (Wops_run rfl rfl (Wops_call rfl ((H.t _).go G5 rr5 (by omega)) ?_)))
                    rintro _ h321 ⟨s321, G321, hn321, hp321⟩
                    have rr321 := Nat.le_trans rr5 (Nat.add_le_add_right hn321 R)
                    have NN321 := Nat.le_trans NN5 hn321
                    refine K_fin [(0, _)] rfl (?_)
                    refine K_last (Wops_run rfl rfl (Wops_run rfl rfl (Wops_run rfl rfl (Wops_run rfl rfl (Wops_ld (v := .slice s321.oa s321.ops.length s321.oc) rfl G321.m.gk rfl ?_)))))
                    refine Wops_bslice (l := ints .i64 [64524, 64526]) rfl rfl fun h322 n322 x322 g322 => ?_
                    have G322 := G321.ext0 x322
                    refine Wops_run rfl rfl (Wops_run rfl rfl (Wops_run rfl rfl (Wops_ld (v := ptr K.pp) rfl G322.m.gk rfl ?_)))
                    refine Wops_call rfl (G322.c48 (by decide)) ?_
                    rintro _ h323 ⟨r323, n323, rfl, hr323, G323, hn323, hp323, hu323, hz323, x323⟩
                    have g322x323 : At h323 h321.next (.cells (ints .i64 [64524, 64526]) 1 false) := At.ext (S := (· = K.pp)) g322 x323 (by have := G321.m.lt; omega)
                    have rr323 := Nat.le_trans rr321 (Nat.add_le_add_right hn323 R)
                    have NN323 := Nat.le_trans NN321 hn323
                    obtain ⟨lq324, oq324, _⟩ := G323.m.o
                    refine Wops_chk rfl rfl G323.m.gk (v := .slice s321.oa s321.ops.length s321.oc) rfl oq324.sl.same ?_
                    refine Wops_iaV rfl rfl ⟨by omega, by omega⟩ (Wops_ld (v := .int .i64 (([64524, 64526] : List Int).getD r323 0)) rfl g322x323 (by rw [Nat.zero_add, Nat.mul_one]; exact ints_getD (L := [64524, 64526]) (show r323 < 2 by omega)) ?_)
                    refine Wops_run rfl rfl (?_)
                    obtain ⟨l325, o325, il325⟩ := G323.m.o
                    have hops325 : s321.ops.length ≤ 100100 := pot_opsB (K := K) (s := ({ s321 with n := n323 } : St)) G323.m (by omega)
                    refine Wops_bslice (l := [.int .i64 (([64524, 64526] : List Int).getD r323 0), .int .u32 0, .int .u32 0, .int .u64 0, .slice none 0 0, .int .i64 0]) rfl rfl fun h325 n325 x325 g325 => ?_
                    refine Wops_app (m := 1) rfl rfl (o325.ext x325) rfl (OwS.new (n := 1) (c := 1) g325 rfl).sl.first ⟨by omega, by omega⟩ rfl rfl (by decide) fun hh325 a325 c325 xx325 oo325 b325 => ?_
                    refine Wops_run rfl rfl (Wops_run rfl rfl (Wops_st (l := [.slice a325 (({ s321 with n := n323 } : St).ops.length + 1) c325]) rfl rfl rfl rfl ((G323.m.gk.ext x325).ext xx325 fun r => (G323.m.no _ r).2.1 rfl) (by simp) rfl fun h326 nn326 x326 g326 => ?_))
                    obtain ⟨s326, G326, hn326, hp326⟩ := G323.push' (k := 1) (os := [(([64524, 64526] : List Int).getD r323 0)]) (st' := []) il325 x325 xx325 rfl oo325 b325 x326 g326 (.one rfl) (fun w q => .plain q (getD_all (L := ([64524, 64526] : List Int)) (by decide) (show r323 < 2 by omega)))
                    have rr326 := Nat.le_trans rr323 (Nat.add_le_add_right hn326 R)
                    have NN326 := Nat.le_trans NN323 hn326
                    refine K_finL [] rfl (?_)
                    exact Told.mk [] rfl ⟨_, G326, NN326, by omega⟩
                  · refine K_reg (Wops_run rfl rfl (Wops_run rfl rfl (K_fin [(0, _), (1, _), (21, _), (154, _)] rfl (?_))))
                    refine K_cond rfl (fun hc => ?_) (fun hc => ?_)
                    · refine K_reg (Wops_run rfl rfl (Wops_run rfl rfl (Wops_run rfl rfl (Wops_run rfl rfl (Wops_ld (v := ptr K.pp) rfl G5.m.gk rfl ?_)))))
                      refine Wops_call rfl (G5.c48 (by decide)) ?_
                      rintro _ h327 ⟨r327, n327, rfl, hr327, G327, hn327, hp327, hu327, hz327, x327⟩
                      have rr327 := Nat.le_trans rr5 (Nat.add_le_add_right hn327 R)
                      have NN327 := Nat.le_trans NN5 hn327
                      refine Wops_run rfl rfl (Wops_call rfl (G327.c60 (by omega)) ?_)
                      rintro _ h328 ⟨s328, G328, hn328, hp328⟩
                      have rr328 := Nat.le_trans rr327 (Nat.add_le_add_right hn328 R)
                      have NN328 := Nat.le_trans NN327 hn328
                      refine K_fin [(0, _)] rfl (?_)
                      refine K_reg (Wops_run rfl rfl (Wops_call rfl (G328.c75 (by omega)) ?_))
                      rintro _ h329 ⟨s329, G329, hn329, hp329⟩
                      have rr329 := Nat.le_trans rr328 (Nat.add_le_add_right hn329 R)
                      have NN329 := Nat.le_trans NN328 hn329
                      refine K_fin [(0, _)] rfl (?_)
                      refine K_last (Wops_run rfl rfl (Wops_call rfl (G329.c63 (st' := []) (by omega) (fun w q => .plain q (by decide))) ?_))
                      rintro _ h330 ⟨s330, G330, hn330, hp330⟩
                      have rr330 := Nat.le_trans rr329 (Nat.add_le_add_right hn330 R)
                      have NN330 := Nat.le_trans NN329 hn330
                      refine K_finL [] rfl (?_)
                      exact Told.mk [] rfl ⟨_, G330, NN330, by omega⟩
                    · refine K_reg (Wops_run rfl rfl (Wops_run rfl rfl (K_fin [(0, _), (1, _), (21, _), (168, _)] rfl (?_))))
                      refine K_cond rfl (fun hc => ?_) (fun hc => ?_)
                      · refine K_last (Wops_run rfl rfl (Wops_run rfl rfl (Wops_call rfl ((H.lo _).go G5 rr5 (by omega)) ?_)))
                        rintro _ h331 ⟨s331, G331, hn331, hp331⟩
                        have rr331 := Nat.le_trans rr5 (Nat.add_le_add_right hn331 R)
                        have NN331 := Nat.le_trans NN5 hn331
                        refine K_finL [] rfl (?_)
                        exact Told.mk [] rfl ⟨_, G331, NN331, by omega⟩
                      · refine K_reg (Wops_run rfl rfl (Wops_run rfl rfl (K_fin [(0, _), (1, _), (21, _), (173, _)] rfl (?_))))
                        refine K_cond rfl (fun hc => ?_) (fun hc => ?_)
                        · refine K_last (Wops_run rfl rfl (Wops_bslice (l := ints .i64 [64521, 64525]) rfl rfl fun h332 n332 x332 g332 => ?_))
                          have G332 := G5.ext0 x332
                          refine Wops_run rfl rfl (Wops_run rfl rfl (Wops_run rfl rfl (Wops_ld (v := ptr K.pp) rfl G332.m.gk rfl ?_)))
                          refine Wops_run rfl rfl (Wops_run rfl rfl (Wops_run rfl rfl (Wops_ld (v := ptr K.pp) rfl G332.m.gk rfl ?_)))
                          refine Wops_call rfl (G332.c48 (by decide)) ?_
                          rintro _ h333 ⟨r333, n333, rfl, hr333, G333, hn333, hp333, hu333, hz333, x333⟩
                          have g332x333 : At h333 h4.next (.cells (ints .i64 [64521, 64525]) 1 false) := At.ext (S := (· = K.pp)) g332 x333 (by have := G5.m.lt; omega)
                          have rr333 := Nat.le_trans rr5 (Nat.add_le_add_right hn333 R)
                          have NN333 := Nat.le_trans NN5 hn333
                          refine Wops_chk rfl rfl G333.m.gk (v := ptr K.pp) rfl (by simp [sameV, sameCell]) ?_
                          refine Wops_iaV rfl rfl ⟨by omega, by omega⟩ (Wops_ld (v := .int .i64 (([64521, 64525] : List Int).getD r333 0)) rfl g332x333 (by rw [Nat.zero_add, Nat.mul_one]; exact ints_getD (L := [64521, 64525]) (show r333 < 2 by omega)) ?_)
                          refine Wops_call rfl (G333.c48 (by decide)) ?_
                          rintro _ h334 ⟨r334, n334, rfl, hr334, G334, hn334, hp334, hu334, hz334, x334⟩
                          have g332x333x334 : At h334 h4.next (.cells (ints .i64 [64521, 64525]) 1 false) := At.ext (S := (· = K.pp)) g332x333 x334 (by have := G5.m.lt; omega)
                          have rr334 := Nat.le_trans rr333 (Nat.add_le_add_right hn334 R)
                          have NN334 := Nat.le_trans NN333 hn334
                          refine Wops_chk rfl rfl g332x333x334 (v := .int .i64 (([64521, 64525] : List Int).getD r333 0)) (by rw [Nat.zero_add, Nat.mul_one]; exact ints_getD (L := ([64521, 64525] : List Int)) (show r333 < 2 by omega)) (by simp [sameV, sameCell]) ?_
                          refine Wops_run rfl rfl (Wops_call rfl (G334.c63 (st' := []) (by omega) (fun w q => .plain q (getD_all (L := ([64521, 64525] : List Int)) (by decide) (show r333 < 2 by omega)))) ?_)
                          rintro _ h335 ⟨s335, G335, hn335, hp335⟩
                          have rr335 := Nat.le_trans rr334 (Nat.add_le_add_right hn335 R)
                          have NN335 := Nat.le_trans NN334 hn335
                          refine K_finL [] rfl (?_)
                          exact Told.mk [] rfl ⟨_, G335, NN335, by omega⟩
                        · refine K_reg (Wops_run rfl rfl (Wops_run rfl rfl (K_fin [(0, _), (1, _), (191, _)] rfl (?_))))
                          refine K_cond rfl (fun hc => ?_) (fun hc => ?_)
                          · refine K_reg (Wops_run rfl rfl (Wops_run rfl rfl (Wops_run rfl rfl (Wops_run rfl rfl (Wops_ld (v := ptr K.pp) rfl G5.m.gk rfl ?_)))))
                            refine Wops_call rfl (G5.c48 (by decide)) ?_
                            rintro _ h336 ⟨r336, n336, rfl, hr336, G336, hn336, hp336, hu336, hz336, x336⟩
                            have rr336 := Nat.le_trans rr5 (Nat.add_le_add_right hn336 R)
                            have NN336 := Nat.le_trans NN5 hn336
                            refine Wops_run rfl rfl (Wops_call rfl (G336.c60 (by omega)) ?_)
                            rintro _ h337 ⟨s337, G337, hn337, hp337⟩
                            have rr337 := Nat.le_trans rr336 (Nat.add_le_add_right hn337 R)
                            have NN337 := Nat.le_trans NN336 hn337
                            refine K_fin [(0, _)] rfl (?_)
                            refine K_reg (Wops_run rfl rfl (Wops_call rfl (G337.c75 (by omega)) ?_))
                            rintro _ h338 ⟨s338, G338, hn338, hp338⟩
                            have rr338 := Nat.le_trans rr337 (Nat.add_le_add_right hn338 R)
                            have NN338 := Nat.le_trans NN337 hn338
                            refine K_fin [(0, _)] rfl (?_)
                            refine K_reg (Wops_run rfl rfl (Wops_run rfl rfl (Wops_run rfl rfl (Wops_run rfl rfl (Wops_ld (v := ptr K.pp) rfl G338.m.gk rfl ?_)))))
                            refine Wops_call rfl (G338.c48 (by decide)) ?_
                            rintro _ h339 ⟨r339, n339, rfl, hr339, G339, hn339, hp339, hu339, hz339, x339⟩
                            have rr339 := Nat.le_trans rr338 (Nat.add_le_add_right hn339 R)
                            have NN339 := Nat.le_trans NN338 hn339
                            refine Wops_run rfl rfl (Wops_call rfl (G339.c60 (by omega)) ?_)
                            rintro _ h340 ⟨s340, G340, hn340, hp340⟩
                            have rr340 := Nat.le_trans rr339 (Nat.add_le_add_right hn340 R)
                            have NN340 := Nat.le_trans NN339 hn340
                            refine K_fin [(0, _)] rfl (?_)
                            refine K_last (Wops_run rfl rfl (Wops_call rfl (G340.c63 (st' := []) (by omega) (fun w q => .plain q (by decide))) ?_))
                            rintro _ h341 ⟨s341, G341, hn341, hp341⟩
                            have rr341 := Nat.le_trans rr340 (Nat.add_le_add_right hn341 R)
                            have NN341 := Nat.le_trans NN340 hn341
                            refine K_finL [] rfl (?_)
                            exact Told.mk [] rfl ⟨_, G341, NN341, by omega⟩
                          · refine K_last (Wops_run rfl rfl (Wops_run rfl rfl (Wops_call rfl ((H.j _).go G5 rr5 (by omega)) ?_)))
                            rintro _ h342 ⟨s342, G342, hn342, hp342⟩
                            have rr342 := Nat.le_trans rr5 (Nat.add_le_add_right hn342 R)
                            have NN342 := Nat.le_trans NN5 hn342
                            refine K_finL [] rfl (?_)
                            exact Told.mk [] rfl ⟨_, G342, NN342, by omega⟩
          · refine K_reg (Wops_run rfl rfl (Wops_run rfl rfl (K_fin [(0, _), (1, _), (4, _), (21, _), (56, _)] rfl (?_))))
            refine K_cond rfl (fun hc => ?_) (fun hc => ?_)
            · refine K_reg (Wops_run rfl rfl (Wops_run rfl rfl (Wops_run rfl rfl (Wops_call rfl ((H.e _ _).go G5 rr5 (by omega)) ?_))))
              rintro _ h343 ⟨s343, G343, hn343, hp343⟩
              have rr343 := Nat.le_trans rr5 (Nat.add_le_add_right hn343 R)
              have NN343 := Nat.le_trans NN5 hn343
              refine K_fin [(0, _), (1, _), (4, _)] rfl (?_)
              refine K_reg (Wops_run rfl rfl (Wops_run rfl rfl (Wops_run rfl rfl (Wops_run rfl rfl (Wops_call rfl ((H.e _ _).go G343 rr343 (by omega)) ?_)))))
              rintro _ h344 ⟨s344, G344, hn344, hp344⟩
              have rr344 := Nat.le_trans rr343 (Nat.add_le_add_right hn344 R)
              have NN344 := Nat.le_trans NN343 hn344
              refine K_fin [(0, _), (4, _)] rfl (?_)
              refine K_reg (Wops_bslice (l := ints .i64 [54, 58, 59]) rfl rfl fun h345 n345 x345 g345 => ?_)
              have G345 := G344.ext0 x345
              refine Wops_run rfl rfl (Wops_run rfl rfl (Wops_run rfl rfl (Wops_ld (v := ptr K.pp) rfl G345.m.gk rfl ?_)))
              refine Wops_call rfl (G345.c48 (by decide)) ?_
              rintro _ h346 ⟨r346, n346, rfl, hr346, G346, hn346, hp346, hu346, hz346, x346⟩
              have g345x346 : At h346 h344.next (.cells (ints .i64 [54, 58, 59]) 1 false) := At.ext (S := (· = K.pp)) g345 x346 (by have := G344.m.lt; omega)
              have rr346 := Nat.le_trans rr344 (Nat.add_le_add_right hn346 R)
              have NN346 := Nat.le_trans NN344 hn346
              refine Wops_iaV rfl rfl ⟨by omega, by omega⟩ (Wops_ld (v := .int .i64 (([54, 58, 59] : List Int).getD r346 0)) rfl g345x346 (by rw [Nat.zero_add, Nat.mul_one]; exact ints_getD (L := [54, 58, 59]) (show r346 < 3 by omega)) ?_)
              refine Wops_run rfl rfl (K_fin [(0, _), (4, _), (8, _)] rfl (?_))
              obtain ⟨s347, G347, hn347, hp347⟩ : ∃ q, Go K h s h346 q [] ∧ ({ s344 with n := n346 } : St).n ≤ q.n ∧ pot K q ≤ pot K ({ s344 with n := n346 } : St) := ⟨_, G346, Nat.le_refl _, Int.le_refl _⟩
              have rr347 := Nat.le_trans rr346 (Nat.add_le_add_right hn347 R)
              have NN347 := Nat.le_trans NN346 hn347
              refine K_ss (K_reg (Wops_run rfl rfl (Wops_run rfl rfl (K_fin [(0, _), (8, _), (77, _)] rfl (?_)))))
              refine K_scond rfl (fun hc => ?_) (fun hc => ?_)
              · refine K_reg (Wops_bslice (l := ints .i64 [55, 60, 61, 62]) rfl rfl fun h348 n348 x348 g348 => ?_)
                have G348 := G347.ext0 x348
                refine Wops_run rfl rfl (Wops_run rfl rfl (Wops_run rfl rfl (Wops_ld (v := ptr K.pp) rfl G348.m.gk rfl ?_)))
                refine Wops_call rfl (G348.c48 (by decide)) ?_
                rintro _ h349 ⟨r349, n349, rfl, hr349, G349, hn349, hp349, hu349, hz349, x349⟩
                have g348x349 : At h349 h346.next (.cells (ints .i64 [55, 60, 61, 62]) 1 false) := At.ext (S := (· = K.pp)) g348 x349 (by have := G347.m.lt; omega)
                have rr349 := Nat.le_trans rr347 (Nat.add_le_add_right hn349 R)
                have NN349 := Nat.le_trans NN347 hn349
                refine Wops_iaV rfl rfl ⟨by omega, by omega⟩ (Wops_ld (v := .int .i64 (([55, 60, 61, 62] : List Int).getD r349 0)) rfl g348x349 (by rw [Nat.zero_add, Nat.mul_one]; exact ints_getD (L := [55, 60, 61, 62]) (show r349 < 4 by omega)) ?_)
                refine Wops_run rfl rfl (K_fin [(0, _), (8, _)] rfl (?_))
                obtain ⟨s350, G350, hn350, hp350⟩ : ∃ q, Go K h s h349 q [] ∧ ({ s347 with n := n349 } : St).n ≤ q.n ∧ pot K q ≤ pot K ({ s347 with n := n349 } : St) := ⟨_, G349, Nat.le_refl _, Int.le_refl _⟩
                have rr350 := Nat.le_trans rr349 (Nat.add_le_add_right hn350 R)
                have NN350 := Nat.le_trans NN349 hn350
                refine K_last (Wops_run rfl rfl (Wops_run rfl rfl (Wops_run rfl rfl (Wops_run rfl rfl (Wops_ld (v := .slice s350.oa s350.ops.length s350.oc) rfl G350.m.gk rfl ?_)))))
                refine Wops_run rfl rfl (Wops_run rfl rfl (Wops_run rfl rfl (Wops_run rfl rfl (Wops_ld (v := ptr K.pp) rfl G350.m.gk rfl ?_))))
                refine Wops_call rfl (G350.c48 (by decide)) ?_
                rintro _ h351 ⟨r351, n351, rfl, hr351, G351, hn351, hp351, hu351, hz351, x351⟩
                have rr351 := Nat.le_trans rr350 (Nat.add_le_add_right hn351 R)
                have NN351 := Nat.le_trans NN350 hn351
                obtain ⟨lq352, oq352, _⟩ := G351.m.o
                refine Wops_chk rfl rfl G351.m.gk (v := .slice s350.oa s350.ops.length s350.oc) rfl oq352.sl.same ?_
                refine Wops_run rfl rfl (Wops_run rfl rfl (?_))
                obtain ⟨l353, o353, il353⟩ := G351.m.o
                have hops353 : s350.ops.length ≤ 100100 := pot_opsB (K := K) (s := ({ s350 with n := n351 } : St)) G351.m (by omega)
                refine Wops_bslice (l := [.int .i64 (([55, 60, 61, 62] : List Int).getD r349 0), .int .u32 0, _, .int .u64 0, .slice none 0 0, .int .i64 0]) rfl rfl fun h353 n353 x353 g353 => ?_
                refine Wops_app (m := 1) rfl rfl (o353.ext x353) rfl (OwS.new (n := 1) (c := 1) g353 rfl).sl.first ⟨by omega, by omega⟩ rfl rfl (by decide) fun hh353 a353 c353 xx353 oo353 b353 => ?_
                refine Wops_run rfl rfl (Wops_run rfl rfl (Wops_st (l := [.slice a353 (({ s350 with n := n351 } : St).ops.length + 1) c353]) rfl rfl rfl rfl ((G351.m.gk.ext x353).ext xx353 fun r => (G351.m.no _ r).2.1 rfl) (by simp) rfl fun h354 nn354 x354 g354 => ?_))
                obtain ⟨s354, G354, hn354, hp354⟩ := G351.push' (k := 1) (os := [(([55, 60, 61, 62] : List Int).getD r349 0)]) (st' := []) il353 x353 xx353 rfl oo353 b353 x354 g354 (.one rfl) (fun w q => .plain q (getD_all (L := ([55, 60, 61, 62] : List Int)) (by decide) (show r349 < 4 by omega)))
                have rr354 := Nat.le_trans rr351 (Nat.add_le_add_right hn354 R)
                have NN354 := Nat.le_trans NN351 hn354
                refine K_finL [] rfl (?_)
                exact Told.mk [] rfl ⟨_, G354, NN354, by omega⟩
              · refine K_sskip (K_last (Wops_run rfl rfl (Wops_run rfl rfl (Wops_run rfl rfl (Wops_run rfl rfl (Wops_ld (v := .slice s347.oa s347.ops.length s347.oc) rfl G347.m.gk rfl ?_))))))
                refine Wops_run rfl rfl (Wops_run rfl rfl (Wops_run rfl rfl (Wops_run rfl rfl (Wops_ld (v := ptr K.pp) rfl G347.m.gk rfl ?_))))
                refine Wops_call rfl (G347.c48 (by decide)) ?_
                rintro _ h355 ⟨r355, n355, rfl, hr355, G355, hn355, hp355, hu355, hz355, x355⟩
                have rr355 := Nat.le_trans rr347 (Nat.add_le_add_right hn355 R)
                have NN355 := Nat.le_trans NN347 hn355
                obtain ⟨lq356, oq356, _⟩ := G355.m.o
                refine Wops_chk rfl rfl G355.m.gk (v := .slice s347.oa s347.ops.length s347.oc) rfl oq356.sl.same ?_
                refine Wops_run rfl rfl (Wops_run rfl rfl (?_))
                obtain ⟨l357, o357, il357⟩ := G355.m.o
                have hops357 : s347.ops.length ≤ 100100 := pot_opsB (K := K) (s := ({ s347 with n := n355 } : St)) G355.m (by omega)
                refine Wops_bslice (l := [.int .i64 (([54, 58, 59] : List Int).getD r346 0), .int .u32 0, _, .int .u64 0, .slice none 0 0, .int .i64 0]) rfl rfl fun h357 n357 x357 g357 => ?_
                refine Wops_app (m := 1) rfl rfl (o357.ext x357) rfl (OwS.new (n := 1) (c := 1) g357 rfl).sl.first ⟨by omega, by omega⟩ rfl rfl (by decide) fun hh357 a357 c357 xx357 oo357 b357 => ?_
                refine Wops_run rfl rfl (Wops_run rfl rfl (Wops_st (l := [.slice a357 (({ s347 with n := n355 } : St).ops.length + 1) c357]) rfl rfl rfl rfl ((G355.m.gk.ext x357).ext xx357 fun r => (G355.m.no _ r).2.1 rfl) (by simp) rfl fun h358 nn358 x358 g358 => ?_))
                obtain ⟨s358, G358, hn358, hp358⟩ := G355.push' (k := 1) (os := [(([54, 58, 59] : List Int).getD r346 0)]) (st' := []) il357 x357 xx357 rfl oo357 b357 x358 g358 (.one rfl) (fun w q => .plain q (getD_all (L := ([54, 58, 59] : List Int)) (by decide) (show r346 < 3 by omega)))
                have rr358 := Nat.le_trans rr355 (Nat.add_le_add_right hn358 R)
                have NN358 := Nat.le_trans NN355 hn358
                refine K_finL [] rfl (?_)
                exact Told.mk [] rfl ⟨_, G358, NN358, by omega⟩
            · refine K_reg (Wops_run rfl rfl (Wops_run rfl rfl (K_fin [(0, _), (1, _), (21, _), (103, _)] rfl (?_))))
              refine K_cond rfl (fun hc => ?_) (fun hc => ?_)
              · refine K_reg (Wops_run rfl rfl (Wops_run rfl rfl (Wops_call rfl ((H.t _).go G5 rr5 (by omega)) ?_)))
                rintro _ h359 ⟨s359, G359, hn359, hp359⟩
                have rr359 := Nat.le_trans rr5 (Nat.add_le_add_right hn359 R)
                have NN359 := Nat.le_trans NN5 hn359
                refine K_fin [(0, _)] rfl (?_)
                refine K_last (Wops_run rfl rfl (Wops_bslice (l := ints .i64 [64522, 64523, 64523]) rfl rfl fun h360 n360 x360 g360 => ?_))
                have G360 := G359.ext0 x360
                refine Wops_run rfl rfl (Wops_run rfl rfl (Wops_run rfl rfl (Wops_ld (v := ptr K.pp) rfl G360.m.gk rfl ?_)))
                refine Wops_call rfl (G360.c48 (by decide)) ?_
                rintro _ h361 ⟨r361, n361, rfl, hr361, G361, hn361, hp361, hu361, hz361, x361⟩
                have g360x361 : At h361 h359.next (.cells (ints .i64 [64522, 64523, 64523]) 1 false) := At.ext (S := (· = K.pp)) g360 x361 (by have := G359.m.lt; omega)
                have rr361 := Nat.le_trans rr359 (Nat.add_le_add_right hn361 R)
                have NN361 := Nat.le_trans NN359 hn361
                refine Wops_iaV rfl rfl ⟨by omega, by omega⟩ (Wops_ld (v := .int .i64 (([64522, 64523, 64523] : List Int).getD r361 0)) rfl g360x361 (by rw [Nat.zero_add, Nat.mul_one]; exact ints_getD (L := [64522, 64523, 64523]) (show r361 < 3 by omega)) ?_)
                refine Wops_call rfl (G361.c64 (st' := []) (by omega) (fun w q => .plain q (getD_all (L := ([64522, 64523, 64523] : List Int)) (by decide) (show r361 < 3 by omega)))) ?_
                rintro _ h362 ⟨s362, G362, hn362, hp362⟩
                have rr362 := Nat.le_trans rr361 (Nat.add_le_add_right hn362 R)
                have NN362 := Nat.le_trans NN361 hn362
                refine K_finL [] rfl (?_)
                exact Told.mk [] rfl ⟨_, G362, NN362, by omega⟩
              · refine K_reg (Wops_run rfl rfl (Wops_run rfl rfl (K_fin [(0, _), (1, _), (21, _), (118, _)] rfl (?_))))
                refine K_cond rfl (fun hc => ?_) (fun hc => ?_)
                · refine K_reg (Wops_run rfl rfl (Wops_run rfl rfl (Wops_call rfl ((H.t _).go G5 rr5 (by omega)) ?_)))
                  rintro _ h363 ⟨s363, G363, hn363, hp363⟩
                  have rr363 := Nat.le_trans rr5 (Nat.add_le_add_right hn363 R)
                  have NN363 := Nat.le_trans NN5 hn363
                  refine K_fin [(0, _)] rfl (?_)
                  refine K_last (Wops_run rfl rfl (Wops_run rfl rfl (Wops_run rfl rfl (Wops_run rfl rfl (Wops_ld (v := ptr K.pp) rfl G363.m.gk rfl ?_)))))
                  refine Wops_call rfl (G363.c48 (by decide)) ?_
                  rintro _ h364 ⟨r364, n364, rfl, hr364, G364, hn364, hp364, hu364, hz364, x364⟩
                  have rr364 := Nat.le_trans rr363 (Nat.add_le_add_right hn364 R)
                  have NN364 := Nat.le_trans NN363 hn364
                  refine Wops_run rfl rfl (Wops_call rfl (G364.c63 (st' := []) (by omega) (fun w q => .plain q (by decide))) ?_)
                  rintro _ h365 ⟨s365, G365, hn365, hp365⟩
                  have rr365 := Nat.le_trans rr364 (Nat.add_le_add_right hn365 R)
                  have NN365 := Nat.le_trans NN364 hn365
                  refine K_finL [] rfl (?_)
                  exact Told.mk [] rfl ⟨_, G365, NN365, by omega⟩
                · refine K_reg (Wops_run rfl rfl (Wops_run rfl rfl (K_fin [(0, _), (1, _), (21, _), (131, _)] rfl (?_))))
                  refine K_cond rfl (fun hc => ?_) (fun hc => ?_)
                  · refine K_reg (Wops_run rfl rfl (Wops_run rfl rfl (Wops_call rfl ((H.t _).go G5 rr5 (by omega)) ?_)))
                    rintro _ h366 ⟨s366, G366, hn366, hp366⟩
                    have rr366 := Nat.le_trans rr5 (Nat.add_le_add_right hn366 R)
                    have NN366 := Nat.le_trans NN5 hn366
                    refine K_fin [(0, _)] rfl (?_)
                    refine K_last (Wops_run rfl rfl (Wops_run rfl rfl (Wops_run rfl rfl (Wops_run rfl rfl (Wops_ld (v := .slice s366.oa s366.ops.length s366.oc) rfl G366.m.gk rfl ?_)))))
                    refine Wops_bslice (l := ints .i64 [64524, 64526]) rfl rfl fun h367 n367 x367 g367 => ?_
                    have G367 := G366.ext0 x367
                    refine Wops_run rfl rfl (Wops_run rfl rfl (Wops_run rfl rfl (Wops_ld (v := ptr K.pp) rfl G367.m.gk rfl ?_)))
                    refine Wops_call rfl (G367.c48 (by decide)) ?_
                    rintro _ h368 ⟨r368, n368, rfl, hr368, G368, hn368, hp368, hu368, hz368, x368⟩
                    have g367x368 : At h368 h366.next (.cells (ints .i64 [64524, 64526]) 1 false) := At.ext (S := (· = K.pp)) g367 x368 (by have := G366.m.lt; omega)
                    have rr368 := Nat.le_trans rr366 (Nat.add_le_add_right hn368 R)
                    have NN368 := Nat.le_trans NN366 hn368
                    obtain ⟨lq369, oq369, _⟩ := G368.m.o
                    refine Wops_chk rfl rfl G368.m.gk (v := .slice s366.oa s366.ops.length s366.oc) rfl oq369.sl.same ?_
                    refine Wops_iaV rfl rfl ⟨by omega, by omega⟩ (Wops_ld (v := .int .i64 (([64524, 64526] : List Int).getD r368 0)) rfl g367x368 (by rw [Nat.zero_add, Nat.mul_one]; exact ints_getD (L := [64524, 64526]) (show r368 < 2 by omega)) ?_)
                    refine Wops_run rfl rfl (?_)
                    obtain ⟨l370, o370, il370⟩ := G368.m.o
                    have hops370 : s366.ops.length ≤ 100100 := pot_opsB (K := K) (s := ({ s366 with n := n368 } : St)) G368.m (by omega)
                    refine Wops_bslice (l := [.int .i64 (([64524, 64526] : List Int).getD r368 0), .int .u32 0, .int .u32 0, .int .u64 0, .slice none 0 0, .int .i64 0]) rfl rfl fun h370 n370 x370 g370 => ?_
                    refine Wops_app (m := 1) rfl rfl (o370.ext x370) rfl (OwS.new (n := 1) (c := 1) g370 rfl).sl.first ⟨by omega, by omega⟩ rfl rfl (by decide) fun hh370 a370 c370 xx370 oo370 b370 => ?_
                    refine Wops_run rfl rfl (Wops_run rfl rfl (Wops_st (l := [.slice a370 (({ s366 with n := n368 } : St).ops.length + 1) c370]) rfl rfl rfl rfl ((G368.m.gk.ext x370).ext xx370 fun r => (G368.m.no _ r).2.1 rfl) (by simp) rfl fun h371 nn371 x371 g371 => ?_))
                    obtain ⟨s371, G371, hn371, hp371⟩ := G368.push' (k := 1) (os := [(([64524, 64526] : List Int).getD r368 0)]) (st' := []) il370 x370 xx370 rfl oo370 b370 x371 g371 (.one rfl) (fun w q => .plain q (getD_all (L := ([64524, 64526] : List Int)) (by decide) (show r368 < 2 by omega)))
                    have rr371 := Nat.le_trans rr368 (Nat.add_le_add_right hn371 R)
                    have NN371 := Nat.le_trans NN368 hn371
                    refine K_finL [] rfl (?_)
                    exact Told.mk [] rfl ⟨_, G371, NN371, by omega⟩
                  · refine K_reg (Wops_run rfl rfl (Wops_run rfl rfl (K_fin [(0, _), (1, _), (21, _), (154, _)] rfl (?_))))
                    refine K_cond rfl (fun hc => ?_) (fun hc => ?_)
                    · refine K_reg (Wops_run rfl rfl (Wops_run rfl rfl (Wops_run rfl rfl (Wops_run rfl rfl (Wops_ld (v := ptr K.pp) rfl G5.m.gk rfl ?_)))))
                      refine Wops_call rfl (G5.c48 (by decide)) ?_
                      rintro _ h372 ⟨r372, n372, rfl, hr372, G372, hn372, hp372, hu372, hz372, x372⟩
                      have rr372 := Nat.le_trans rr5 (Nat.add_le_add_right hn372 R)
                      have NN372 := Nat.le_trans NN5 hn372
                      refine Wops_run rfl rfl (Wops_call rfl (G372.c60 (by omega)) ?_)
                      rintro _ h373 ⟨s373, G373, hn373, hp373⟩
                      have rr373 := Nat.le_trans rr372 (Nat.add_le_add_right hn373 R)
                      have NN373 := Nat.le_trans NN372 hn373
                      refine K_fin [(0, _)] rfl (?_)
                      refine K_reg (Wops_run rfl rfl (Wops_call rfl (G373.c75 (by omega)) ?_))
                      rintro _ h374 ⟨s374, G374, hn374, hp374⟩
                      have rr374 := Nat.le_trans rr373 (Nat.add_le_add_right hn374 R)
                      have NN374 := Nat.le_trans NN373 hn374
                      refine K_fin [(0, _)] rfl (?_)
                      refine K_last (Wops_run rfl rfl (Wops_call rfl (G374.c63 (st' := []) (by omega) (fun w q => .plain q (by decide))) ?_))
                      rintro _ h375 ⟨s375, G375, hn375, hp375⟩
                      have rr375 := Nat.le_trans rr374 (Nat.add_le_add_right hn375 R)
                      have NN375 := Nat.le_trans NN374 hn375
                      refine K_finL [] rfl (?_)
                      exact Told.mk [] rfl ⟨_, G375, NN375, by omega⟩
                    · refine K_reg (Wops_run rfl rfl (Wops_run rfl rfl (K_fin [(0, _), (1, _), (21, _), (168, _)] rfl (?_))))
                      refine K_cond rfl (fun hc => ?_) (fun hc => ?_)
                      · refine K_last (Wops_run rfl rfl (Wops_run rfl rfl (Wops_call rfl ((H.lo _).go G5 rr5 (by omega)) ?_)))
                        rintro _ h376 ⟨s376, G376, hn376, hp376⟩
                        have rr376 := Nat.le_trans rr5 (Nat.add_le_add_right hn376 R)
                        have NN376 := Nat.le_trans NN5 hn376
                        refine K_finL [] rfl (?_)
                        exact Told.mk [] rfl ⟨_, G376, NN376, by omega⟩
                      · refine K_reg (Wops_run rfl rfl (Wops_run rfl rfl (K_fin [(0, _), (1, _), (21, _), (173, _)] rfl (?_))))
                        refine K_cond rfl (fun hc => ?_) (fun hc => ?_)
                        · refine K_last (Wops_run rfl rfl (Wops_bslice (l := ints .i64 [64521, 64525]) rfl rfl fun h377 n377 x377 g377 => ?_))
                          have G377 := G5.ext0 x377
                          refine Wops_run rfl rfl (Wops_run rfl rfl (Wops_run rfl rfl (Wops_ld (v := ptr K.pp) rfl G377.m.gk rfl ?_)))
                          refine Wops_run rfl rfl (Wops_run rfl rfl (Wops_run rfl rfl (Wops_ld (v := ptr K.pp) rfl G377.m.gk rfl ?_)))
                          refine Wops_call rfl (G377.c48 (by decide)) ?_
                          rintro _ h378 ⟨r378, n378, rfl, hr378, G378, hn378, hp378, hu378, hz378, x378⟩
                          have g377x378 : At h378 h4.next (.cells (ints .i64 [64521, 64525]) 1 false) := At.ext (S := (· = K.pp)) g377 x378 (by have := G5.m.lt; omega)
                          have rr378 := Nat.le_trans rr5 (Nat.add_le_add_right hn378 R)
                          have NN378 := Nat.le_trans NN5 hn378
                          refine Wops_chk rfl rfl G378.m.gk (v := ptr K.pp) rfl (by simp [sameV, sameCell]) ?_
                          refine Wops_iaV rfl rfl ⟨by omega, by omega⟩ (Wops_ld (v := .int .i64 (([64521, 64525] : List Int).getD r378 0)) rfl g377x378 (by rw [Nat.zero_add, Nat.mul_one]; exact ints_getD (L := [64521, 64525]) (show r378 < 2 by omega)) ?_)
                          refine Wops_call rfl (G378.c48 (by decide)) ?_
                          rintro _ h379 ⟨r379, n379, rfl, hr379, G379, hn379, hp379, hu379, hz379, x379⟩
                          have g377x378x379 : At h379 h4.next (.cells (ints .i64 [64521, 64525]) 1 false) := At.ext (S := (· = K.pp)) g377x378 x379 (by have := G5.m.lt; omega)
                          have rr379 := Nat.le_trans rr378 (Nat.add_le_add_right hn379 R)
                          have NN379 := Nat.le_trans NN378 hn379
                          refine Wops_chk rfl rfl g377x378x379 (v := .int .i64 (([64521, 64525] : List Int).getD r378 0)) (by rw [Nat.zero_add, Nat.mul_one]; exact ints_getD (L := ([64521, 64525] : List Int)) (show r378 < 2 by omega)) (by simp [sameV, sameCell]) ?_
                          refine Wops_run rfl rfl (Wops_call rfl (G379.c63 (st' := []) (by omega) (fun w q => .plain q (getD_all (L := ([64521, 64525] : List Int)) (by decide) (show r378 < 2 by omega)))) ?_)
                          rintro _ h380 ⟨s380, G380, hn380, hp380⟩
                          have rr380 := Nat.le_trans rr379 (Nat.add_le_add_right hn380 R)
                          have NN380 := Nat.le_trans NN379 hn380
                          refine K_finL [] rfl (?_)
                          exact Told.mk [] rfl ⟨_, G380, NN380, by omega⟩
                        · refine K_reg (Wops_run rfl rfl (Wops_run rfl rfl (K_fin [(0, _), (1, _), (191, _)] rfl (?_))))
                          refine K_cond rfl (fun hc => ?_) (fun hc => ?_)
                          · refine K_reg (Wops_run rfl rfl (Wops_run rfl rfl (Wops_run rfl rfl (Wops_run rfl rfl (Wops_ld (v := ptr K.pp) rfl G5.m.gk rfl ?_)))))
                            refine Wops_call rfl (G5.c48 (by decide)) ?_
                            rintro _ h381 ⟨r381, n381, rfl, hr381, G381, hn381, hp381, hu381, hz381, x381⟩
                            have rr381 := Nat.le_trans rr5 (Nat.add_le_add_right hn381 R)
                            have NN381 := Nat.le_trans NN5 hn381
                            refine Wops_run rfl rfl (Wops_call rfl (G381.c60 (by omega)) ?_)
                            rintro _ h382 ⟨s382, G382, hn382, hp382⟩
                            have rr382 := Nat.le_trans rr381 (Nat.add_le_add_right hn382 R)
                            have NN382 := Nat.le_trans NN381 hn382
                            refine K_fin [(0, _)] rfl (?_)
                            refine K_reg (Wops_run rfl rfl (Wops_call rfl (G382.c75 (by omega)) ?_))
                            rintro _ h383 ⟨s383, G383, hn383, hp383⟩
                            have rr383 := Nat.le_trans rr382 (Nat.add_le_add_right hn383 R)
                            have NN383 := Nat.le_trans NN382 hn383
                            refine K_fin [(0, _)] rfl (?_)
                            refine K_reg (Wops_run rfl rfl (Wops_run rfl rfl (Wops_run rfl rfl (Wops_run rfl rfl (Wops_ld (v := ptr K.pp) rfl G383.m.gk rfl ?_)))))
                            refine Wops_call rfl (G383.c48 (by decide)) ?_
                            rintro _ h384 ⟨r384, n384, rfl, hr384, G384, hn384, hp384, hu384, hz384, x384⟩
                            have rr384 := Nat.le_trans rr383 (Nat.add_le_add_right hn384 R)
                            have NN384 := Nat.le_trans NN383 hn384
                            refine Wops_run rfl rfl (Wops_call rfl (G384.c60 (by omega)) ?_)
                            rintro _ h385 ⟨s385, G385, hn385, hp385⟩
                            have rr385 := Nat.le_trans rr384 (Nat.add_le_add_right hn385 R)
                            have NN385 := Nat.le_trans NN384 hn385
                            refine K_fin [(0, _)] rfl (?_)
                            refine K_last (Wops_run rfl rfl (Wops_call rfl (G385.c63 (st' := []) (by omega) (fun w q => .plain q (by decide))) ?_))
                            rintro _ h386 ⟨s386, G386, hn386, hp386⟩
                            have rr386 := Nat.le_trans rr385 (Nat.add_le_add_right hn386 R)
                            have NN386 := Nat.le_trans NN385 hn386
                            refine K_finL [] rfl (?_)
                            exact Told.mk [] rfl ⟨_, G386, NN386, by omega⟩
                          · refine K_last (Wops_run rfl rfl (Wops_run rfl rfl (Wops_call rfl ((H.j _).go G5 rr5 (by omega)) ?_)))
                            rintro _ h387 ⟨s387, G387, hn387, hp387⟩
                            have rr387 := Nat.le_trans rr5 (Nat.add_le_add_right hn387 R)
                            have NN387 := Nat.le_trans NN5 hn387
                            refine K_finL [] rfl (?_)
                            exact Told.mk [] rfl ⟨_, G387, NN387, by omega⟩

end
end Go.Dx.SYtfhdeagbgdnkaaa
