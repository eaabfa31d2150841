/- Texts merged: YtfhdeagbgdnkaaaMd5.lean, YtfhdeagbgdnkaaaMd6.lean, YtfhdeagbgdnkaaaMd7.lean, YtfhdeagbgdnkaaaMd8.lean, YtfhdeagbgdnkaaaMd9.lean, YtfhdeagbgdnkaaaMd10.lean. -/
import Derived.Test.YtfhdeagbgdnkaaaMw
namespace Go.Dx.SYtfhdeagbgdnkaaa
open Go.Proofs
section
/- Made modules: expr, three, called, stmts; all of them. -/
set_option linter.unusedVariables false
set_option linter.unusedSimpArgs false

/-- maker.expr, behind its choice -/
theorem E50r {K : Kt} {R : Nat} (H : AllAt K R) {h h1 : Heap} {s s1 : St} {t d c : Int} {kx : Nat → Kn} {kr : Kn} (G0 : Go K h s h1 s1 []) (r0 : K.xs.length ≤ s1.n + R) (n0 : s.n ≤ s1.n) (p0 : pot K s1 ≤ 99970) (p1 : pot K s1 ≤ pot K s + (-30)) :
    W Try.prog (match F50.code with | .seq _ (.seq _ b) => b | _ => .skip) [(0, ptr K.pk), (1, .int .u8 t), (2, .int .i64 d), (6, .int .i64 c)] h1 (K3 (Told F50.res fun v h' => Adds K h s s [] [] 1 h') kx kr) := by
  refine K_reg (Wops_run rfl rfl (Wops_run rfl rfl (Wops_run rfl rfl (K_fin [(0, _), (1, _), (2, _), (6, _), (7, _)] rfl (?_)))))
  exact E50 H G0 r0 n0 p0 p1
set_option maxHeartbeats 1000000 in
/-- maker.expr, where a number is left -/
theorem E50n {K : Kt} {R : Nat} (H : AllAt K R) {h : Heap} {s : St} {t d : Int} (m : Mk K h s) (hl : s.n < K.xs.length) (r0 : K.xs.length ≤ s.n + (R + 1)) (p0 : pot K s ≤ 100000) :
    Fn Try.prog 50 [ptr K.pk, .int .u8 t, .int .i64 d] h fun v h' => Adds K h s s [] [] 1 h' := by
  have G0 := Go.refl m
  refine fnK F50.fok rfl ?_
  refine K_reg (Wops_run rfl rfl (Wops_run rfl rfl (Wops_run rfl rfl (Wops_ld (v := ptr K.pp) rfl G0.m.gk rfl (Wops_call rfl (G0.c48 (by decide)) ?_)))))
  rintro _ h1 ⟨r1, n1, rfl, hr1, G1, hn1, hp1, hu1, hz1, x1⟩
  obtain ⟨hu, hpu⟩ := hu1 hl
  refine Wops_run rfl rfl (K_fin [(0, _), (1, _), (2, _), (6, _)] rfl (?_))
  have rr : K.xs.length ≤ n1 + R := by omega
  have fin : ∀ {c : Int} {kx : Nat → Kn} {kr : Kn}, W Try.prog (match F50.code with | .seq _ (.seq _ b) => b | _ => .skip) [(0, ptr K.pk), (1, .int .u8 t), (2, .int .i64 d), (6, .int .i64 c)] h1 (K3 (Told F50.res fun v h' => Adds K h s s [] [] 1 h') kx kr) :=
    fun {c kx kr} => E50r H G1 rr hn1 (by omega) (by omega)
  have go : ∀ {b : Bool} {kx : Nat → Kn} {kr : Kn}, W Try.prog (match F50.code with | .seq _ (.seq (.seq _ c) b) => .seq c b | _ => .skip) [(0, ptr K.pk), (1, .int .u8 t), (2, .int .i64 d), (6, .int .i64 (r1 : Int)), (37, .bool b)] h1 (K3 (Told F50.res fun v h' => Adds K h s s [] [] 1 h') kx kr) := by
    intro b kx kr
    refine K_scond rfl (fun _ => ?_) (fun _ => K_sskip fin)
    refine K_reg (Wops_run rfl rfl (Wops_rem rfl rfl (by decide) (Wops_run rfl rfl (K_fin [(0, _), (1, _), (2, _), (6, _)] rfl (?_)))))
    exact fin
  refine K_ss (K_reg (Wops_run rfl rfl (Wops_run rfl rfl (Wops_run rfl rfl ?_))))
  cases hd : decide (d ≤ 0)
  case true =>
    (repeat (first | refine Wops_skip rfl ?_ | refine Wops_run rfl rfl ?_))
    refine K_fin [(0, _), (1, _), (2, _), (6, _), (37, _)] rfl (?_)
    exact go
  refine Wops_go rfl (Wops_run rfl rfl (Wops_go rfl (Wops_run rfl rfl (Wops_go rfl (Wops_run rfl rfl (Wops_go rfl (Wops_ld (v := ptr K.pp) rfl G1.m.gk rfl (Wops_go rfl (Wops_call rfl G1.c58 ?_)))))))))
  rintro _ _ ⟨rfl, rfl⟩
  refine Wops_run rfl rfl (Wops_run rfl rfl ?_)
  cases ho : decide (((({ s with n := n1 } : St).n : Nat) : Int) ≥ (K.xs.length : Int))
  case true =>
    (repeat (first | refine Wops_skip rfl ?_ | refine Wops_run rfl rfl ?_))
    refine K_fin [(0, _), (1, _), (2, _), (6, _), (37, _)] rfl (?_)
    exact go
  refine Wops_go rfl (Wops_run rfl rfl (Wops_go rfl (Wops_run rfl rfl (Wops_go rfl (Wops_run rfl rfl (Wops_go rfl (Wops_ld (v := .slice s.oa s.ops.length s.oc) rfl G1.m.gk rfl ?_)))))))
  refine Wops_go rfl (Wops_run rfl rfl (Wops_go rfl (Wops_run rfl rfl (Wops_run rfl rfl (K_fin [(0, _), (1, _), (2, _), (6, _), (37, _)] rfl (?_))))))
  exact go
set_option maxHeartbeats 1000000 in
/-- maker.expr, where none is left -/
theorem E50z {K : Kt} {h : Heap} {s : St} {t d : Int} (m : Mk K h s) (hl : s.n = K.xs.length) (p0 : pot K s ≤ 100000) :
    Fn Try.prog 50 [ptr K.pk, .int .u8 t, .int .i64 d] h fun v h' => Adds K h s s [] [] 1 h' := by
  have G0 := Go.refl m
  refine fnK F50.fok rfl ?_
  refine K_reg (Wops_run rfl rfl (Wops_run rfl rfl (Wops_run rfl rfl (Wops_ld (v := ptr K.pp) rfl G0.m.gk rfl (Wops_call rfl (G0.c48 (by decide)) ?_)))))
  rintro _ h1 ⟨r1, n1, rfl, hr1, G1, hn1, hp1, hu1, hz1, x1⟩
  obtain rfl : r1 = 0 := hz1 hl
  have hn2 : n1 = K.xs.length := by have h1 : n1 ≤ K.xs.length := G1.m.hn; omega
  refine Wops_run rfl rfl (K_fin [(0, _), (1, _), (2, _), (6, _)] rfl (?_))
  have go : ∀ {kx : Nat → Kn} {kr : Kn}, W Try.prog (match F50.code with | .seq _ (.seq (.seq _ c) b) => .seq c b | _ => .skip) [(0, ptr K.pk), (1, .int .u8 t), (2, .int .i64 d), (6, .int .i64 ((0 : Nat) : Int)), (37, .bool true)] h1 (K3 (Told F50.res fun v h' => Adds K h s s [] [] 1 h') kx kr) := by
    intro kx kr
    refine K_scond rfl (fun _ => ?_) (fun hc => by cases hc)
    refine K_reg (Wops_run rfl rfl (Wops_rem rfl rfl (by decide) (Wops_run rfl rfl (K_fin [(0, _), (1, _), (2, _), (6, .int .i64 0)] rfl (?_)))))
    refine K_reg (Wops_run rfl rfl (Wops_run rfl rfl (Wops_run rfl rfl (K_fin [(0, _), (1, _), (2, _), (6, _), (7, _)] rfl (?_)))))
    refine K_block ?_
    refine K_reg (Wops_run rfl rfl (Wops_run rfl rfl (Wops_run rfl rfl (K_fin [(0, _), (1, _), (2, _), (6, _), (7, _), (46, .bool true)] rfl (?_)))))
    refine K_cond rfl (fun _ => ?_) (fun hc => by cases hc)
    refine K_last (Wops_run rfl rfl (Wops_run rfl rfl (Wops_run rfl rfl (Wops_call rfl G1.c61 ?_))))
    rintro _ h2 ⟨N2, n2, rfl, G2, hn2, hp2⟩
    refine Wops_call rfl (G2.c60 (by omega)) ?_
    rintro _ h3 ⟨s3, G3, hn3, hp3⟩
    refine K_finL [] rfl (?_)
    exact Told.mk [] rfl ⟨_, G3, Nat.le_trans hn1 (Nat.le_trans hn2 hn3), by omega⟩
  refine K_ss (K_reg (Wops_run rfl rfl (Wops_run rfl rfl (Wops_run rfl rfl ?_))))
  cases hd : decide (d ≤ 0)
  case true =>
    (repeat (first | refine Wops_skip rfl ?_ | refine Wops_run rfl rfl ?_))
    refine K_fin [(0, _), (1, _), (2, _), (6, _), (37, _)] rfl (?_)
    exact go
  refine Wops_go rfl (Wops_run rfl rfl (Wops_go rfl (Wops_run rfl rfl (Wops_go rfl (Wops_run rfl rfl (Wops_go rfl (Wops_ld (v := ptr K.pp) rfl G1.m.gk rfl (Wops_go rfl (Wops_call rfl G1.c58 ?_)))))))))
  rintro _ _ ⟨rfl, rfl⟩
  have ho : decide (((({ s with n := n1 } : St).n : Nat) : Int) ≥ (K.xs.length : Int)) = true := decide_eq_true (by show (n1 : Int) ≥ _; omega)
  refine Wops_as (w := .bool true) rfl rfl (by rw [ho]) (Wops_run rfl rfl ?_)
  (repeat (first | refine Wops_skip rfl ?_ | refine Wops_run rfl rfl ?_))
  refine K_fin [(0, _), (1, _), (2, _), (6, _), (37, _)] rfl (?_)
  exact go
abbrev Eh (K : Kt) (R : Nat) : Prop := ∀ t d, CF K R 50 [ptr K.pk, .int .u8 t, .int .i64 d] 1 100000
set_option maxHeartbeats 1000000 in
/-- maker.three -/
theorem E74 {K : Kt} {R : Nat} (E : Eh K R) {d : Int} : CF K R 74 [ptr K.pk, .int .i64 d] 3 99975 := by
  intro h s m r0 p0
  have G0 := Go.refl m
  refine fnK F74.fok rfl ?_
  refine K_reg (Wops_run rfl rfl (K_fin [(0, _), (1, _), (4, _)] rfl (?_)))
  refine K_block ?_
  refine K_loop (fun k e h' => ∃ (i : Nat) (s1 : St), e = [(0, ptr K.pk), (1, .int .i64 d), (4, .int .i64 (i : Int))] ∧ i ≤ 3 ∧ k = 3 - i ∧ Go K h s h' s1 [] ∧ s.n ≤ s1.n ∧ pot K s1 ≤ pot K s + i) ?_ (k := 3) ⟨0, s, rfl, by omega, rfl, G0, Nat.le_refl _, by omega⟩
  rintro k e h' ⟨i, s1, rfl, hi, rfl, G1, n1, p1⟩
  have r1 := Nat.le_trans r0 (Nat.add_le_add_right n1 R)
  refine K_ss (K_reg (Wops_run rfl rfl (Wops_run rfl rfl (K_fin [(0, _), (1, _), (4, _), (6, _)] rfl (?_)))))
  refine K_scond rfl (fun hc => ?_) (fun hc => ?_)
  · have hi3 : i < 3 := by have := of_decide_eq_true hc; omega
    refine K_sskip (K_sblock ?_)
    refine K_reg (Wops_run rfl rfl (Wops_run rfl rfl (Wops_run rfl rfl (Wops_ld (v := ptr K.pp) rfl G1.m.gk rfl (Wops_call rfl (G1.c48 (by decide)) ?_)))))
    rintro _ h2 ⟨r2, n2, rfl, hr2, G2, hn2, hp2, hu2, hz2, x2⟩
    have rr2 : K.xs.length ≤ n2 + R := by omega
    refine Wops_run rfl rfl (K_fin [(0, _), (1, _), (4, _), (14, _)] rfl (?_))
    refine K_cond rfl (fun _ => ?_) (fun _ => ?_)
    · refine K_last (Wops_run rfl rfl (Wops_run rfl rfl (Wops_run rfl rfl (Wops_call rfl ((E _ _).go G2 rr2 (by omega)) ?_))))
      rintro _ h3 ⟨s3, G3, hn3, hp3⟩
      refine K_finL [(0, _), (1, _), (4, _)] rfl (?_)
      refine K_last (Wops_run rfl rfl (Wops_run rfl rfl (Wops_run rfl rfl (K_finL [(0, _), (1, _), (4, _)] rfl (?_)))))
      exact ⟨3 - (i + 1), by omega, i + 1, s3, by rw [w64s (by omega)], by omega, rfl, G3, Nat.le_trans n1 (Nat.le_trans hn2 hn3), by omega⟩
    · refine K_last (Wops_run rfl rfl (Wops_run rfl rfl (Wops_run rfl rfl (Wops_run rfl rfl (Wops_ld (v := ptr K.pp) rfl G2.m.gk rfl (Wops_call rfl (G2.c48 (by decide)) ?_))))))
      rintro _ h3 ⟨r3, n3, rfl, hr3, G3, hn3, hp3, hu3, hz3, x3⟩
      refine Wops_run rfl rfl (Wops_call rfl (G3.c60 (by omega)) ?_)
      rintro _ h4 ⟨s4, G4, hn4, hp4⟩
      refine K_finL [(0, _), (1, _), (4, _)] rfl (?_)
      refine K_last (Wops_run rfl rfl (Wops_run rfl rfl (Wops_run rfl rfl (K_finL [(0, _), (1, _), (4, _)] rfl (?_)))))
      exact ⟨3 - (i + 1), by omega, i + 1, s4, by rw [w64s (by omega)], by omega, rfl, G4, Nat.le_trans n1 (Nat.le_trans hn2 (Nat.le_trans hn3 hn4)), by omega⟩
  · refine K_sexit (bx_same ?_)
    exact Told.mk [] rfl ⟨s1, G1, n1, by omega⟩
set_option maxHeartbeats 1000000 in
/-- maker.stmts -/
theorem E49 {K : Kt} {R : Nat} (T : ∀ (h : Heap) (s : St) (d : Int), Mk K h s → s.n < K.xs.length → K.xs.length ≤ s.n + R → pot K s ≤ 100000 → Fn Try.prog 59 [ptr K.pk, .int .i64 d] h fun v h' => Adds K h s s [] [] 0 h') {n d : Int} (hn : n ≤ 1000) :
    CF K R 49 [ptr K.pk, .int .i64 n, .int .i64 d] 0 100000 := by
  intro h s m r0 p0
  have G0 := Go.refl m
  refine fnK F49.fok rfl ?_
  refine K_reg (Wops_run rfl rfl (K_fin [(0, _), (1, _), (2, _), (6, _)] rfl (?_)))
  refine K_block ?_
  refine K_loop (fun k e h' => ∃ (i : Nat) (s1 : St), e = [(0, ptr K.pk), (1, .int .i64 n), (2, .int .i64 d), (6, .int .i64 (i : Int))] ∧ k = n.toNat - i ∧ i ≤ 1000 ∧ Go K h s h' s1 [] ∧ s.n ≤ s1.n ∧ pot K s1 ≤ pot K s + 0) ?_ (k := n.toNat) ⟨0, s, rfl, rfl, by omega, G0, Nat.le_refl _, by omega⟩
  rintro k e h' ⟨i, s1, rfl, rfl, hi, G1, n1, p1⟩
  have r1 := Nat.le_trans r0 (Nat.add_le_add_right n1 R)
  have out : ∀ {e : Env} {kn : Kn} {kr : Kn}, W Try.prog (.seq (.cond (.t 25) .skip (.exit 0)) (match F49.code with | .seq _ (.block _ (.loop (.seq _ b))) => b | _ => .skip)) ((0, ptr K.pk) :: (1, .int .i64 n) :: (2, .int .i64 d) :: (6, .int .i64 (i : Int)) :: (25, .bool false) :: e) h'
      (K3 kn (bx 0 (Told F49.res fun v h' => Adds K h s s [] [] 0 h') fun _ _ _ => False) kr) := by
    intro e kn kr
    refine K_scond rfl (fun hc => by cases hc) (fun _ => ?_)
    exact K_sexit (bx_same (Told.mk [] rfl ⟨s1, G1, n1, p1⟩))
  refine K_ss (K_reg (Wops_run rfl rfl (Wops_run rfl rfl ?_)))
  by_cases h1 : (i : Int) < n
  case neg =>
    refine Wops_as (w := .bool false) rfl rfl (by rw [decide_eq_false h1]) (Wops_run rfl rfl ?_)
    (repeat (first | refine Wops_skip rfl ?_ | refine Wops_run rfl rfl ?_))
    refine K_fin [(0, _), (1, _), (2, _), (6, _), (25, _)] rfl (?_)
    exact out
  refine Wops_as (w := .bool true) rfl rfl (by rw [decide_eq_true h1]) (Wops_run rfl rfl ?_)
  refine Wops_go rfl (Wops_run rfl rfl (Wops_go rfl (Wops_run rfl rfl (Wops_go rfl (Wops_run rfl rfl (Wops_go rfl (Wops_ld (v := ptr K.pp) rfl G1.m.gk rfl (Wops_go rfl (Wops_call rfl G1.c58 ?_)))))))))
  rintro _ _ ⟨rfl, rfl⟩
  by_cases h2 : s1.n < K.xs.length
  case neg =>
    refine Wops_go rfl (Wops_as (w := .bool false) rfl rfl (by rw [decide_eq_true (by omega)]; rfl) (Wops_run rfl rfl (Wops_run rfl rfl ?_)))
    (repeat (first | refine Wops_skip rfl ?_ | refine Wops_run rfl rfl ?_))
    refine K_fin [(0, _), (1, _), (2, _), (6, _), (25, _)] rfl (?_)
    exact out
  refine Wops_go rfl (Wops_as (w := .bool true) rfl rfl (by rw [decide_eq_false (by omega)]; rfl) (Wops_run rfl rfl (Wops_run rfl rfl ?_)))
  refine Wops_go rfl (Wops_run rfl rfl (Wops_go rfl (Wops_run rfl rfl (Wops_go rfl (Wops_run rfl rfl (Wops_go rfl (Wops_ld (v := .slice s1.oa s1.ops.length s1.oc) rfl G1.m.gk rfl ?_)))))))
  refine Wops_go rfl (Wops_run rfl rfl (Wops_go rfl (Wops_run rfl rfl (Wops_run rfl rfl (K_fin [(0, _), (1, _), (2, _), (6, _), (25, _)] rfl (?_))))))
  refine K_scond rfl (fun _ => ?_) (fun _ => ?_)
  · refine K_sskip (K_sblock ?_)
    refine K_last (Wops_run rfl rfl (Wops_run rfl rfl (Wops_call rfl (T _ _ _ G1.m h2 r1 (by omega)) ?_)))
    rintro _ h3 ⟨s3, Q3, hn3, hp3⟩
    have G3 := G1.trans Q3
    refine K_finL [(0, _), (1, _), (2, _), (6, _)] rfl (?_)
    refine K_last (Wops_run rfl rfl (Wops_run rfl rfl (Wops_run rfl rfl (K_finL [(0, _), (1, _), (2, _), (6, _)] rfl (?_)))))
    exact ⟨n.toNat - (i + 1), by omega, i + 1, s3, by rw [w64s (by omega)], rfl, by omega, G3, Nat.le_trans n1 hn3, by omega⟩
  · exact K_sexit (bx_same (Told.mk [] rfl ⟨s1, G1, n1, p1⟩))

end
section
/- Made modules: called; all of a maker's functions. -/
set_option linter.unusedVariables false
set_option linter.unusedSimpArgs false

set_option maxHeartbeats 4000000 in
/-- maker.called, behind its choice -/
theorem E66r {K : Kt} {R : Nat} (E : Eh K R) {h h1 : Heap} {s s1 : St} {d : Int} {f x : Nat} {pa ra : Option Addr} {pn pc rn rc : Nat} {ps : List Int} {kx : Nat → Kn} {kn : Kn} (G1 : Go K h s h1 s1 []) (r1 : K.xs.length ≤ s1.n + R) (n1 : s.n ≤ s1.n) (p0 : pot K s1 ≤ 99975) (p1 : pot K s1 ≤ pot K s)
    (gx : At h1 x (.cells [.slice pa pn pc, .slice ra rn rc] 0 false)) (hx : ¬ K.S x ∧ x ≠ K.pk ∧ x ≠ K.pp ∧ ¬ Blk s1.oa x) (sp : SlA h1 1 pa pn pc (ints .u8 ps)) (hpS : ∀ i, Blk pa i → K.S i) (hpn : pn ≤ 2) (hf : f < K.fs.length) :
    W Try.prog (match F66.code with | .seq (.seq _ (.block _ (.loop (.seq _ (.seq (.block _ (.seq _ (.seq _ b))) _))))) _ => b | _ => .skip) [(0, ptr K.pk), (2, .int .i64 d), (6, .int .i64 (f : Int)), (7, ptr x)] h1 (K3 kn kx (Told F66.res fun v h' => Adds K h s s [] [] 4 h')) := by
  have hpl : ps.length = pn := by simpa using sp.len
  refine K_ss (K_reg (Wops_run rfl rfl (K_fin [(0, _), (2, _), (6, _), (7, _), (8, _)] rfl (?_))))
  refine K_sblock ?_
  refine K_loop (fun k e h' => ∃ (i : Nat) (s2 : St), e = [(0, ptr K.pk), (2, .int .i64 d), (6, .int .i64 (f : Int)), (7, ptr x), (8, .int .i64 (i : Int))] ∧ i ≤ pn ∧ k = pn - i ∧ Go K h1 s1 h' s2 [] ∧ s1.n ≤ s2.n ∧ pot K s2 ≤ pot K s1 + i) ?_ (k := pn) ⟨0, s1, rfl, by omega, rfl, Go.refl G1.m, Nat.le_refl _, by omega⟩
  rintro k e h' ⟨i, s2, rfl, hi, rfl, Q2, n2, p2⟩
  have r2 := Nat.le_trans r1 (Nat.add_le_add_right n2 R)
  have dx : ∀ i, K.S i → ¬ (i = K.pk ∨ i = K.pp ∨ Blk s1.oa i) := fun i q r => by
    rcases r with r | r | r
    · exact G1.m.nk (by rw [← r]; exact q)
    · exact G1.m.np (by rw [← r]; exact q)
    · exact (G1.m.no i r).1 q
  have gx2 := gx.ext Q2.x fun r => by
    rcases r with r | r | r
    · exact hx.2.1 r
    · exact hx.2.2.1 r
    · exact hx.2.2.2 r
  have sp2 := sp.ext Q2.x fun i r => dx i (hpS i r)
  have G2 := G1.trans Q2
  refine K_ss (K_reg (Wops_run rfl rfl (Wops_run rfl rfl (Wops_ld (v := .slice pa pn pc) rfl gx2 rfl (Wops_run rfl rfl (Wops_run rfl rfl (K_fin [(0, _), (2, _), (6, _), (7, _), (8, _), (72, _)] rfl (?_))))))))
  refine K_scond rfl (fun hc => ?_) (fun hc => ?_)
  · have hil : i < pn := by have := of_decide_eq_true hc; omega
    have hip : i < ps.length := by omega
    refine K_sskip (K_sblock ?_)
    refine K_last (Wops_run rfl rfl (Wops_run rfl rfl (Wops_ld (v := .slice pa pn pc) rfl gx2 rfl (Wops_run rfl rfl (Wops_idx (u := .int .u8 ps[i]) rfl rfl sp2 ⟨by omega, by omega⟩ (by simp [hip]) fun _ => ?_)))))
    refine Wops_run rfl rfl (Wops_run rfl rfl (Wops_call rfl ((E _ _).go Q2 r2 (by omega)) ?_))
    rintro _ h3 ⟨s3, Q3, hn3, hp3⟩
    refine K_finL [(0, _), (2, _), (6, _), (7, _), (8, _)] rfl (?_)
    refine K_last (Wops_run rfl rfl (Wops_run rfl rfl (Wops_run rfl rfl (K_finL [(0, _), (2, _), (6, _), (7, _), (8, _)] rfl (?_)))))
    exact ⟨pn - (i + 1), by omega, i + 1, s3, by rw [w64s (by omega)], by omega, rfl, Q3, Nat.le_trans n2 hn3, by omega⟩
  · refine K_sexit (bx_same ?_)
    refine K_ss (K_reg (Wops_run rfl rfl (Wops_run rfl rfl (Wops_run rfl rfl (Wops_ld (v := ptr K.pp) rfl G2.m.gk rfl (Wops_call rfl (G2.c48 (by decide)) ?_))))))
    rintro _ h3 ⟨r3, n3, rfl, hr3, G3, hn3, hp3, hu3, hz3, x3⟩
    refine Wops_run rfl rfl (K_fin [(0, _), (6, _), (89, _)] rfl (?_))
    refine K_scond rfl (fun _ => ?_) (fun _ => ?_)
    · refine K_ss (K_reg (Wops_run rfl rfl (Wops_run rfl rfl (Wops_run rfl rfl (Wops_run rfl rfl (Wops_ld (v := ptr K.pp) rfl G3.m.gk rfl (Wops_call rfl (G3.c48 (by decide)) ?_)))))))
      rintro _ h4 ⟨r4, n4, rfl, hr4, G4, hn4, hp4, hu4, hz4, x4⟩
      refine Wops_run rfl rfl (Wops_call rfl (G4.c60 (by omega)) ?_)
      rintro _ h5 ⟨s5, G5, hn5, hp5⟩
      refine K_fin [(0, _), (6, _)] rfl (?_)
      obtain ⟨l, o, il⟩ := G5.m.o
      have hops : s5.ops.length ≤ 100100 := pot_opsB G5.m (by omega)
      refine K_reg (Wops_run rfl rfl (Wops_run rfl rfl (Wops_run rfl rfl (Wops_run rfl rfl (Wops_ld (v := .slice s5.oa s5.ops.length s5.oc) rfl G5.m.gk rfl ?_)))))
      refine Wops_run rfl rfl (Wops_run rfl rfl (Wops_run rfl rfl (Wops_ld (v := ptr K.pm) rfl G5.m.gk rfl (Wops_run rfl rfl (Wops_run rfl rfl (Wops_ld rfl G5.m.z.gm G5.m.z.hF ?_))))))
      refine Wops_run rfl rfl (Wops_idx (u := .int .u32 (K.fs[f] : Int)) rfl rfl G5.m.z.sf ⟨by omega, by omega⟩ (by simp [hf]) fun _ => ?_)
      refine Wops_run rfl rfl (Wops_bslice (l := [.int .i64 17, _, .int .u32 0, .int .u64 0, .slice none 0 0, .int .i64 0]) rfl rfl fun h6 n6 x6 g6 => ?_)
      refine Wops_app (m := 1) rfl rfl (o.ext x6) rfl (OwS.new (n := 1) (c := 1) g6 rfl).sl.first ⟨by omega, by omega⟩ rfl rfl (by decide) fun h7 a7 c7 x7 o7 b7 => ?_
      refine Wops_run rfl rfl (Wops_run rfl rfl (Wops_st (l := [.slice a7 (s5.ops.length + 1) c7]) rfl rfl rfl rfl ((G5.m.gk.ext x6).ext x7 fun r => (G5.m.no _ r).2.1 rfl) (by simp) rfl fun h8 n8 x8 g8 => ?_))
      obtain ⟨s8, G8, hn8, hp8⟩ := G5.push' (k := 1) (os := [17]) (st' := []) il x6 x7 rfl o7 b7 x8 g8 (.one rfl) fun w q => .plain q (by decide)
      refine K_fin [] rfl (?_)
      refine K_ret (Told.mk [] rfl ⟨s8, G8, Nat.le_trans n1 (Nat.le_trans n2 (Nat.le_trans hn3 (Nat.le_trans hn4 (Nat.le_trans hn5 hn8)))), by omega⟩)
    · refine K_reg (Wops_run rfl rfl (Wops_run rfl rfl (Wops_run rfl rfl (Wops_call rfl (G3.c63 (st' := []) (by omega) (fun w q => .plain q (by decide))) ?_))))
      rintro _ h4 ⟨s4, G4, hn4, hp4⟩
      refine K_fin [] rfl (?_)
      refine K_ret (Told.mk [] rfl ⟨s4, G4, Nat.le_trans n1 (Nat.le_trans n2 (Nat.le_trans hn3 hn4)), by omega⟩)
set_option maxHeartbeats 4000000 in
/-- maker.called: one of the functions -/
theorem E66c {K : Kt} {R : Nat} (E : Eh K R) {h h1 : Heap} {s s1 : St} {t d : Int} {f x : Nat} {pa ra : Option Addr} {pn pc rn rc : Nat} {ps rs : List Int} {kx : Nat → Kn} {kn : Kn} (G1 : Go K h s h1 s1 []) (r1 : K.xs.length ≤ s1.n + R) (n1 : s.n ≤ s1.n) (p0 : pot K s1 ≤ 99975) (p1 : pot K s1 ≤ pot K s)
    (gx : At h1 x (.cells [.slice pa pn pc, .slice ra rn rc] 0 false)) (hx : ¬ K.S x ∧ x ≠ K.pk ∧ x ≠ K.pp ∧ ¬ Blk s1.oa x) (sp : SlA h1 1 pa pn pc (ints .u8 ps)) (hpS : ∀ i, Blk pa i → K.S i) (hpn : pn ≤ 2) (sr : SlA h1 1 ra rn rc (ints .u8 rs)) (hf : f < K.fs.length)
    (hk : ∀ h4 s4, Go K h s h4 s4 [] → s1.n ≤ s4.n → pot K s4 ≤ pot K s1 → kx 1 [(0, ptr K.pk), (1, .int .u8 t), (2, .int .i64 d), (6, .int .i64 (f : Int)), (7, ptr x), (67, .bool true)] h4) :
    W Try.prog (match F66.code with | .seq (.seq _ (.block _ (.loop (.seq _ (.seq (.block _ (.seq _ b)) _))))) _ => b | _ => .skip) [(0, ptr K.pk), (1, .int .u8 t), (2, .int .i64 d), (6, .int .i64 (f : Int)), (7, ptr x)] h1 (K3 kn kx (Told F66.res fun v h' => Adds K h s s [] [] 4 h')) := by
  have hrl : rs.length = rn := by simpa using sr.len
  have out : ∀ {h4 : Heap} {s4 : St} {kn : Kn} {kr : Kn} {b : SCode}, Go K h s h4 s4 [] → s1.n ≤ s4.n → pot K s4 ≤ pot K s1 → W Try.prog (.seq (.cond (.t 67) (.exit 1) .skip) b) [(0, ptr K.pk), (1, .int .u8 t), (2, .int .i64 d), (6, .int .i64 (f : Int)), (7, ptr x), (67, .bool true)] h4 (K3 kn kx kr) := by
    intro h4 s4 kn kr b g n p
    refine K_scond rfl (fun _ => ?_) (fun hc => by cases hc)
    exact K_sexit (hk _ _ g n p)
  refine K_ss (K_reg (Wops_run rfl rfl (Wops_ld (v := .slice ra rn rc) rfl gx rfl (Wops_run rfl rfl ?_))))
  by_cases h1n : rn = 1
  case neg =>
    refine Wops_neq (v := true) rfl rfl (by simp; omega) (Wops_run rfl rfl ?_)
    (repeat (first | refine Wops_skip rfl ?_ | refine Wops_run rfl rfl ?_))
    refine K_fin [(0, _), (1, _), (2, _), (6, _), (7, _), (67, _)] rfl (?_)
    exact out G1 (Nat.le_refl _) (Int.le_refl _)
  refine Wops_neq (v := false) rfl rfl (by simp; omega) (Wops_run rfl rfl ?_)
  refine Wops_go rfl (Wops_run rfl rfl (Wops_go rfl (Wops_ld (v := .slice ra rn rc) rfl gx rfl ?_)))
  refine Wops_go rfl (Wops_idxG (u := .int .u8 (rs[0]'(by omega))) rfl rfl sr ⟨by omega, by omega⟩ (by simp) (fun _ => rfl) fun _ => ?_)
  refine Wops_go rfl (Wops_run rfl rfl (Wops_go rfl (Wops_run rfl rfl (Wops_run rfl rfl (Wops_run rfl rfl ?_)))))
  cases hq : (rs[0]'(by omega) != t)
  case true =>
    (repeat (first | refine Wops_skip rfl ?_ | refine Wops_run rfl rfl ?_))
    refine K_fin [(0, _), (1, _), (2, _), (6, _), (7, _), (67, _)] rfl (?_)
    exact out G1 (Nat.le_refl _) (Int.le_refl _)
  refine Wops_go rfl (Wops_run rfl rfl (Wops_go rfl (Wops_run rfl rfl (Wops_go rfl (Wops_run rfl rfl (Wops_go rfl (Wops_run rfl rfl (Wops_go rfl (Wops_ld (v := .int .i64 K.self) rfl G1.m.gk rfl ?_)))))))))
  refine Wops_go rfl (Wops_run rfl rfl (Wops_go rfl (Wops_run rfl rfl ?_)))
  cases hg : decide ((f : Int) ≥ K.self)
  case false =>
    refine Wops_skip rfl (Wops_skip rfl (Wops_skip rfl (Wops_skip rfl (Wops_skip rfl (Wops_skip rfl (Wops_go rfl (Wops_run rfl rfl (Wops_run rfl rfl (K_fin [(0, _), (1, _), (2, _), (6, _), (7, _), (67, _)] rfl (?_))))))))))
    refine K_scond rfl (fun hc => by cases hc) (fun _ => K_sskip ?_)
    exact E66r E G1 r1 n1 p0 p1 gx hx sp hpS hpn hf
  refine Wops_go rfl (Wops_run rfl rfl (Wops_go rfl (Wops_run rfl rfl (Wops_go rfl (Wops_run rfl rfl (Wops_go rfl (Wops_ld (v := ptr K.pp) rfl G1.m.gk rfl (Wops_go rfl (Wops_call rfl (G1.c48 (by decide)) ?_)))))))))
  rintro _ h2 ⟨r2, n2, rfl, hr2, G2, hn2, hp2, hu2, hz2, x2⟩
  refine Wops_go rfl (Wops_run rfl rfl (Wops_go rfl (Wops_run rfl rfl (Wops_run rfl rfl (K_fin [(0, _), (1, _), (2, _), (6, _), (7, _), (67, .bool (decide ((r2 : Int) > 0)))] rfl (?_))))))
  refine K_scond rfl (fun hc => ?_) (fun hc => ?_)
  · have := out (kn := kn) (kr := Told F66.res fun v h' => Adds K h s s [] [] 4 h') (b := .skip) G2 hn2 hp2
    rw [hc]
    exact K_sexit (hk _ _ G2 hn2 hp2)
  · refine K_sskip ?_
    have x2' : ∀ i, K.S i → ¬ (i = K.pp) := fun i q r => G1.m.np (by rw [← r]; exact q)
    rw [hc]
    exact E66r E G2 (by show _ ≤ n2 + R; omega) (Nat.le_trans n1 hn2) (by omega) (by omega) (gx.ext x2 hx.2.2.1) hx (sp.ext x2 fun i r => x2' i (hpS i r)) hpS hpn hf
set_option maxHeartbeats 4000000 in
/-- maker.called -/
theorem E66 {K : Kt} {R : Nat} (E : Eh K R) {t d : Int} : CF K R 66 [ptr K.pk, .int .u8 t, .int .i64 d] 4 99975 := by
  intro h s m r0 p0
  have G0 := Go.refl m
  refine fnK F66.fok rfl ?_
  refine K_ss (K_reg (Wops_run rfl rfl (K_fin [(0, _), (1, _), (2, _), (6, _)] rfl (?_))))
  refine K_sblock ?_
  refine K_loop (fun k e h' => ∃ (f : Nat) (s1 : St), e = [(0, ptr K.pk), (1, .int .u8 t), (2, .int .i64 d), (6, .int .i64 (f : Int))] ∧ f ≤ K.fs.length ∧ k = K.fs.length - f ∧ Go K h s h' s1 [] ∧ s.n ≤ s1.n ∧ pot K s1 ≤ pot K s) ?_ (k := K.fs.length) ⟨0, s, rfl, by omega, rfl, G0, Nat.le_refl _, by omega⟩
  rintro k e h' ⟨f, s1, rfl, hi, rfl, G1, n1, p1⟩
  have f3 := G1.m.z.f3
  refine K_ss (K_reg (Wops_run rfl rfl (Wops_run rfl rfl (Wops_run rfl rfl (Wops_run rfl rfl (Wops_ld (v := ptr K.pm) rfl G1.m.gk rfl (Wops_run rfl rfl (Wops_run rfl rfl (Wops_ld rfl G1.m.z.gm G1.m.z.hF (Wops_run rfl rfl (Wops_run rfl rfl (K_fin [(0, _), (1, _), (2, _), (6, _), (18, _)] rfl (?_)))))))))))))
  refine K_scond rfl (fun hc => ?_) (fun hc => ?_)
  · have hf : f < K.fs.length := by have := of_decide_eq_true hc; omega
    have hj : K.fs[f] < 6 := G1.m.z.fr _ (List.getElem_mem hf)
    obtain ⟨pa, pn, pc, ps, ra, rn, rc, rs, ht, sp, sr, pS, rS, hpn, hrn⟩ := G1.m.z.tys _ hj
    obtain ⟨idt, offt, vst, ezt, rot, hta, gt, hlt, hlt2, hgt⟩ := G1.m.z.st.at (by omega)
    have wt : (vst.drop (offt + ((K.fs[f] : Nat) : Int).toNat * 2)).take 2 = [.slice pa pn pc, .slice ra rn rc] := by
      rw [Int.toNat_natCast, ← ht]
      apply List.ext_getElem?
      intro q
      by_cases hq : q < 2
      · rw [List.getElem?_take_of_lt hq, List.getElem?_drop, List.getElem?_take_of_lt hq, List.getElem?_drop, Nat.add_assoc, hgt _ (by omega)]
      · rw [List.getElem?_eq_none (by simp; omega), List.getElem?_eq_none (by simp; omega)]
    have hT := G1.m.z.hT
    rw [hta] at hT
    have hrl : rs.length = rn := by simpa using sr.len
    refine K_sskip (K_sblock ?_)
    refine K_reg (Wops_run rfl rfl (Wops_run rfl rfl (Wops_run rfl rfl (Wops_ld (v := ptr K.pm) rfl G1.m.gk rfl (Wops_run rfl rfl (Wops_run rfl rfl (Wops_ld rfl G1.m.z.gm hT ?_)))))))
    refine Wops_run rfl rfl (Wops_run rfl rfl (Wops_run rfl rfl (Wops_ld (v := ptr K.pm) rfl G1.m.gk rfl (Wops_run rfl rfl (Wops_run rfl rfl (Wops_ld rfl G1.m.z.gm G1.m.z.hF ?_))))))
    refine Wops_run rfl rfl (Wops_idx (u := .int .u32 (K.fs[f] : Int)) rfl rfl G1.m.z.sf ⟨by omega, by omega⟩ (by simp [hf]) fun _ => ?_)
    refine Wops_iaV rfl rfl ⟨by omega, by omega⟩ (Wops_ldA rfl gt (by rw [Int.toNat_natCast]; omega) wt (Wops_new fun h2 n2 x2 g2 => ?_))
    refine Wops_st (l := [.slice pa pn pc, .slice ra rn rc]) rfl rfl rfl rfl g2 (by simp) rfl fun h3 n3 x3 g3 => ?_
    refine K_fin [(0, _), (1, _), (2, _), (6, _), (7, _)] rfl (?_)
    replace g3 : At h3 h'.next (.cells [.slice pa pn pc, .slice ra rn rc] 0 false) := g3
    have x23 : Ext0 h' h3 := x2.then x3 fun i r => .inr (by omega)
    have G3 := G1.ext0 x23
    have hx : ¬ K.S h'.next ∧ h'.next ≠ K.pk ∧ h'.next ≠ K.pp ∧ ¬ Blk s1.oa h'.next := by
      obtain ⟨l, o, il⟩ := G1.m.o
      have := G1.m.lt
      exact ⟨fun q => by have := G1.m.z.lt _ q; omega, by omega, by omega, fun q => by have := o.lt q; omega⟩
    have r1 := Nat.le_trans r0 (Nat.add_le_add_right n1 R)
    have sp3 := sp.ext x23
    have sr3 := sr.ext x23
    refine E66c E G3 r1 n1 (by omega) p1 g3 hx sp3 pS hpn sr3 hf fun h4 s4 G4 n4 p4 => bx_same ?_
    refine K_last (Wops_run rfl rfl (Wops_run rfl rfl (Wops_run rfl rfl (K_finL [(0, _), (1, _), (2, _), (6, _)] rfl (?_)))))
    exact ⟨K.fs.length - (f + 1), by omega, f + 1, s4, by rw [w64s (by omega)], by omega, rfl, G4, Nat.le_trans n1 n4, by omega⟩
  · refine K_sexit (bx_same ?_)
    refine K_last (Wops_run rfl rfl (Wops_run rfl rfl (Wops_call rfl (G1.c60 (by omega)) ?_)))
    rintro _ h2 ⟨s2, G2, hn2, hp2⟩
    refine K_finL [] rfl (?_)
    exact Told.mk [] rfl ⟨s2, G2, Nat.le_trans n1 hn2, by omega⟩
/-- All of them, of one of expr and of stmt. -/
theorem all_of {K : Kt} {R : Nat} (E : Eh K R) (T : ∀ (h : Heap) (s : St) (d : Int), Mk K h s → s.n < K.xs.length → K.xs.length ≤ s.n + R → pot K s ≤ 100000 → Fn Try.prog 59 [ptr K.pk, .int .i64 d] h fun v h' => Adds K h s s [] [] 0 h') : AllAt K R := by
  have S : ∀ (n d : Int), n ≤ 1000 → CF K R 49 [ptr K.pk, .int .i64 n, .int .i64 d] 0 100000 := fun n d hn => E49 T hn
  refine ⟨E, fun op t d ho => ?_, fun t d => E66 E, fun t d => E67 E, fun d => E74 E, S, fun d => E76 S, fun d => E77 E S⟩
  rcases ho with rfl | rfl
  · exact E65a E S
  · exact E65b E S
theorem all_at (K : Kt) : ∀ R, AllAt K R
  | 0 => all_of (fun t d h s m r0 p0 => E50z m (by have := m.hn; omega) p0) fun h s d m hl r0 p0 => by omega
  | R + 1 => all_of (fun t d h s m r0 p0 => by
      by_cases hl : s.n < K.xs.length
      · exact E50n (all_at K R) m hl r0 p0
      · exact E50z m (by have := m.hn; omega) p0) fun h s d m hl r0 p0 => E59 (all_at K R) m hl r0 p0
/-- expr, stmts: from anywhere. -/
theorem Go.c50 {K : Kt} {h h1 : Heap} {s s1 : St} {st : List Bool} {t d : Int} (g : Go K h s h1 s1 st) (hp : pot K s1 ≤ 100000) : Fn Try.prog 50 [ptr K.pk, .int .u8 t, .int .i64 d] h1 fun v h2 => Adds K h s s1 st st 1 h2 :=
  ((all_at K K.xs.length).e t d).go g (Nat.le_add_left _ _) hp
theorem Go.c49 {K : Kt} {h h1 : Heap} {s s1 : St} {st : List Bool} {n d : Int} (g : Go K h s h1 s1 st) (hn : n ≤ 1000) (hp : pot K s1 ≤ 100000) : Fn Try.prog 49 [ptr K.pk, .int .i64 n, .int .i64 d] h1 fun v h2 => Adds K h s s1 st st 0 h2 :=
  ((all_at K K.xs.length).s n d hn).go g (Nat.le_add_left _ _) hp

end
section
/- Made modules: what was laid by one who works; types, Made. -/
set_option linter.unusedVariables false
set_option linter.unusedSimpArgs false

/-- Blocks of one's own. -/
def Mem (h0 h : Heap) : List (Nat × List Value × Nat) → Prop
  | [] => True
  | (b, cs, e) :: r => (h0.next ≤ b ∧ At h b (.cells cs e false)) ∧ Mem h0 h r
theorem Mem.ext {h0 h h' : Heap} {T : Nat → Prop} (x : Ext T h h') (d : ∀ i, h0.next ≤ i → ¬ T i) : ∀ {L : List (Nat × List Value × Nat)}, Mem h0 h L → Mem h0 h' L
  | [], _ => trivial
  | (b, cs, e) :: r, m => ⟨⟨m.1.1, m.1.2.ext x (d _ m.1.1)⟩, Mem.ext x d m.2⟩
theorem Mem.ext0 {h0 h h' : Heap} (x : Ext0 h h') {L : List (Nat × List Value × Nat)} (m : Mem h0 h L) : Mem h0 h' L := m.ext x fun i _ r => r
theorem Mem.put {h0 h h' : Heap} {T : Nat → Prop} (x : Ext T h h') : ∀ {L : List (Nat × List Value × Nat)}, Mem h0 h L → (∀ p ∈ L, ¬ T p.1) → Mem h0 h' L
  | [], _, _ => trivial
  | (b, cs, e) :: r, m, d => ⟨⟨m.1.1, m.1.2.ext x (d (b, cs, e) (by simp))⟩, Mem.put x m.2 fun p hp => d p (by simp [hp])⟩

set_option maxHeartbeats 1000000 in
/-- types -/
theorem C47 {h : Heap} : Fn Try.prog 47 [] h fun v h' => ∃ ta tc ty, v = .slice ta 6 tc ∧ SlA h' 2 ta 6 tc ty ∧ (∀ i, Blk ta i → h.next ≤ i ∧ i < h'.next) ∧ Tys h' (fun i => h.next ≤ i ∧ i < h'.next) ty ∧ Ext0 h h' := by
  refine fnK F47.fok rfl ?_
  refine K_reg (Wops_run rfl rfl (K_fin [] rfl (?_)))
  refine K_reg (Wops_run rfl rfl (Wops_run rfl rfl (K_fin [(1, _), (2, _)] rfl (?_))))
  refine K_reg (Wops_run rfl rfl (Wops_run rfl rfl (Wops_bslice (l := ints .u8 [127]) rfl rfl fun h1 n1 x1 g1 => ?_)))
  refine Wops_run rfl rfl (Wops_bslice (l := ints .u8 [127]) rfl rfl fun h2 n2 x2 g2 => ?_)
  refine Wops_run rfl rfl (Wops_run rfl rfl (Wops_run rfl rfl (Wops_bslice (l := ints .u8 [127, 127]) rfl rfl fun h3 n3 x3 g3 => ?_)))
  refine Wops_run rfl rfl (Wops_bslice (l := ints .u8 [127]) rfl rfl fun h4 n4 x4 g4 => ?_)
  refine Wops_run rfl rfl (Wops_run rfl rfl (Wops_bslice (l := ints .u8 [126]) rfl rfl fun h5 n5 x5 g5 => ?_))
  refine Wops_run rfl rfl (Wops_bslice (l := ints .u8 [126]) rfl rfl fun h6 n6 x6 g6 => ?_)
  refine Wops_run rfl rfl (Wops_run rfl rfl (Wops_bslice (l := ints .u8 [127]) rfl rfl fun h7 n7 x7 g7 => ?_))
  refine Wops_run rfl rfl (Wops_run rfl rfl (Wops_bslice (l := ints .u8 [127]) rfl rfl fun h8 n8 x8 g8 => ?_))
  refine Wops_run rfl rfl (Wops_run rfl rfl (Wops_bslice (l := ints .u8 [127, 127]) rfl rfl fun h9 n9 x9 g9 => ?_))
  refine Wops_run rfl rfl (Wops_bslice (l := [.slice none 0 0, .slice none 0 0, .slice (some ⟨h.next, 0, none⟩) 1 1, .slice (some ⟨h1.next, 0, none⟩) 1 1, .slice (some ⟨h2.next, 0, none⟩) 2 1, .slice (some ⟨h3.next, 0, none⟩) 1 1, .slice (some ⟨h4.next, 0, none⟩) 1 1, .slice (some ⟨h5.next, 0, none⟩) 1 1, .slice none 0 0, .slice (some ⟨h6.next, 0, none⟩) 1 1, .slice (some ⟨h7.next, 0, none⟩) 1 1, .slice (some ⟨h8.next, 0, none⟩) 2 1]) rfl rfl fun h10 n10 x10 g10 => ?_)
  refine Wops_run rfl rfl (K_fin [(0, _)] rfl (?_))
  have e9 := x10
  have e8 := x9.trans e9
  have e7 := x8.trans e8
  have e6 := x7.trans e7
  have e5 := x6.trans e6
  have e4 := x5.trans e5
  have e3 := x4.trans e4
  have e2 := x3.trans e3
  have e1 := x2.trans e2
  have s1 : SlA h10 1 (some ⟨h.next, 0, none⟩) 1 1 (ints .u8 [127]) := (OwS.new (n := 1) (c := 1) g1 rfl).sl.ext e1
  have b1 : ∀ i, Blk (some ⟨h.next, 0, none⟩) i → h.next ≤ i ∧ i < h10.next := fun i r => by rw [Blk.at] at r; omega
  have s2 : SlA h10 1 (some ⟨h1.next, 0, none⟩) 1 1 (ints .u8 [127]) := (OwS.new (n := 1) (c := 1) g2 rfl).sl.ext e2
  have b2 : ∀ i, Blk (some ⟨h1.next, 0, none⟩) i → h.next ≤ i ∧ i < h10.next := fun i r => by rw [Blk.at] at r; omega
  have s3 : SlA h10 1 (some ⟨h2.next, 0, none⟩) 2 1 (ints .u8 [127, 127]) := (OwS.new (n := 2) (c := 1) g3 rfl).sl.ext e3
  have b3 : ∀ i, Blk (some ⟨h2.next, 0, none⟩) i → h.next ≤ i ∧ i < h10.next := fun i r => by rw [Blk.at] at r; omega
  have s4 : SlA h10 1 (some ⟨h3.next, 0, none⟩) 1 1 (ints .u8 [127]) := (OwS.new (n := 1) (c := 1) g4 rfl).sl.ext e4
  have b4 : ∀ i, Blk (some ⟨h3.next, 0, none⟩) i → h.next ≤ i ∧ i < h10.next := fun i r => by rw [Blk.at] at r; omega
  have s5 : SlA h10 1 (some ⟨h4.next, 0, none⟩) 1 1 (ints .u8 [126]) := (OwS.new (n := 1) (c := 1) g5 rfl).sl.ext e5
  have b5 : ∀ i, Blk (some ⟨h4.next, 0, none⟩) i → h.next ≤ i ∧ i < h10.next := fun i r => by rw [Blk.at] at r; omega
  have s6 : SlA h10 1 (some ⟨h5.next, 0, none⟩) 1 1 (ints .u8 [126]) := (OwS.new (n := 1) (c := 1) g6 rfl).sl.ext e6
  have b6 : ∀ i, Blk (some ⟨h5.next, 0, none⟩) i → h.next ≤ i ∧ i < h10.next := fun i r => by rw [Blk.at] at r; omega
  have s7 : SlA h10 1 (some ⟨h6.next, 0, none⟩) 1 1 (ints .u8 [127]) := (OwS.new (n := 1) (c := 1) g7 rfl).sl.ext e7
  have b7 : ∀ i, Blk (some ⟨h6.next, 0, none⟩) i → h.next ≤ i ∧ i < h10.next := fun i r => by rw [Blk.at] at r; omega
  have s8 : SlA h10 1 (some ⟨h7.next, 0, none⟩) 1 1 (ints .u8 [127]) := (OwS.new (n := 1) (c := 1) g8 rfl).sl.ext e8
  have b8 : ∀ i, Blk (some ⟨h7.next, 0, none⟩) i → h.next ≤ i ∧ i < h10.next := fun i r => by rw [Blk.at] at r; omega
  have s9 : SlA h10 1 (some ⟨h8.next, 0, none⟩) 2 1 (ints .u8 [127, 127]) := (OwS.new (n := 2) (c := 1) g9 rfl).sl.ext e9
  have b9 : ∀ i, Blk (some ⟨h8.next, 0, none⟩) i → h.next ≤ i ∧ i < h10.next := fun i r => by rw [Blk.at] at r; omega
  have s10 := (OwS.new (sz := 2) (n := 6) (c := 1) g10 rfl).sl
  refine K_ret (Told.mk _ rfl ⟨_, 1, _, rfl, s10, fun i r => by rw [Blk.at] at r; omega, fun j hj => ?_, x1.trans e1⟩)
  have bn : ∀ i, Blk (none : Option Addr) i → h.next ≤ i ∧ i < h10.next := fun i r => absurd r Blk.none
  match j, hj with
  | 0, _ => exact ⟨none, 0, 0, [], none, 0, 0, [], rfl, SlA.none, SlA.none, bn, bn, by decide, by decide⟩
  | 1, _ => exact ⟨_, 1, 1, _, _, 1, 1, _, rfl, s1, s2, b1, b2, by decide, by decide⟩
  | 2, _ => exact ⟨_, 2, 1, _, _, 1, 1, _, rfl, s3, s4, b3, b4, by decide, by decide⟩
  | 3, _ => exact ⟨_, 1, 1, _, _, 1, 1, _, rfl, s5, s6, b5, b6, by decide, by decide⟩
  | 4, _ => exact ⟨none, 0, 0, [], _, 1, 1, _, rfl, SlA.none, s7, bn, b7, by decide, by decide⟩
  | 5, _ => exact ⟨_, 1, 1, _, _, 2, 1, _, rfl, s8, s9, b8, b9, by decide, by decide⟩
/-- Made -/
theorem C28 {h : Heap} {a : Option Addr} {n c : Nat} : Fn Try.prog 28 [.slice a n c] h fun v h' => v = ptr h.next ∧ At h' h.next (.cells [.slice a n c, .int .i64 0] 0 false) ∧ Ext0 h h' := by
  refine fnK F28.fok rfl ?_
  refine K_reg (Wops_run rfl rfl (K_fin [(0, _)] rfl (?_)))
  refine K_reg (Wops_run rfl rfl (Wops_run rfl rfl (Wops_box (cs := [.slice a n c, .int .i64 0]) rfl rfl fun h1 n1 x1 g1 => Wops_run rfl rfl (K_fin [(2, _)] rfl (?_)))))
  exact K_ret (Told.mk _ rfl ⟨rfl, g1, x1⟩)

end
section
/- Made modules: Module, till its bodies. -/
set_option linter.unusedVariables false
set_option linter.unusedSimpArgs false

section
variable {d : Option Nat} {r : List SOp} {e : Env} {h : Heap} {Q : Env → Heap → Prop}
theorem Wops_chkA {off id ez t n : Nat} {a : Arg} {vs l : List Value} {ro : Bool} (ha : a.ev e = some (.pointer (some ⟨id, off, none⟩))) (ht : e.get t = some (.agg ⟨l⟩)) (hg : h.get id = some (.cells vs ez ro)) (hl : off + n ≤ vs.length) (hv : (vs.drop off).take n = l) (hs : sameCells l l = true) (hq : Wops Try.prog r (e.put d undefV) h Q) :
    Wops Try.prog (⟨d, none, .chk n true a t⟩ :: r) e h Q := by
  refine Wops_run (v := undefV) (h' := h) rfl ?_ hq
  simp only [SO.run, ha, ht, ldV_agg hg hl hv, sameV, hs, cond_true]
theorem Wops_mark {x : Arg} {id off len cap ez : Nat} {cs : List Value} (hx : x.ev e = some (.slice (some ⟨id, off, none⟩) len cap)) (hl : 0 < len) (g : h.get id = some (.cells cs ez false)) (hq : Wops Try.prog r (e.put d (.slice (some ⟨id, off, none⟩) len cap)) h Q) :
    Wops Try.prog (⟨d, none, .mark x⟩ :: r) e h Q := by
  refine Wops_run (v := .slice (some ⟨id, off, none⟩) len cap) (h' := h) rfl ?_ hq
  have hb : len.beq 0 = false := by cases len with | zero => omega | succ k => rfl
  simp only [SO.run, hx, hb, cond_false, g]
end
/-- What a module's maker has before its bodies. -/
structure MB (h h' : Heap) (pp : Nat) (xa : Option Addr) (xc : Nat) (xs : List Int) (n hi : Nat) (ta : Option Addr) (tc : Nat) (ty : List Value) (L : List (Nat × List Value × Nat)) : Prop where
  x : Ext (· = pp) h h'
  gp : At h' pp (.cells [.slice xa xs.length xc, .int .i64 (n : Int)] 0 false)
  hn : n ≤ xs.length
  sx : SlA h' 1 xa xs.length xc (ints .u8 xs)
  st : SlA h' 2 ta 6 tc ty
  tS : ∀ i, Blk ta i → h.next ≤ i ∧ i < hi
  tys : Tys h' (fun i => h.next ≤ i ∧ i < hi) ty
  m : Mem h h' L
  hh : hi ≤ h'.next
  pl : pp < h.next
  xS : ∀ i, Blk xa i → i < h.next ∧ i ≠ pp
  xw : ∀ x ∈ xs, 0 ≤ x ∧ x ≤ 255
  xl : xs.length ≤ 1000
section
variable {h h' h2 : Heap} {pp xc n hi tc : Nat} {xa ta : Option Addr} {xs : List Int} {ty : List Value} {L : List (Nat × List Value × Nat)}
theorem Tys.ext {T S : Nat → Prop} (q : Tys h S ty) (x : Ext T h h2) (d : ∀ i, S i → ¬ T i) : Tys h2 S ty := fun j hj => by
  obtain ⟨pa, pn, pc, ps, ra, rn, rc, rs, h1, h2, h3, h4, h5, h6⟩ := q j hj
  exact ⟨pa, pn, pc, ps, ra, rn, rc, rs, h1, h2.ext x fun i r => d i (h4 i r), h3.ext x fun i r => d i (h5 i r), h4, h5, h6⟩
theorem MB.ext0 (b : MB h h' pp xa xc xs n hi ta tc ty L) (x : Ext0 h' h2) : MB h h2 pp xa xc xs n hi ta tc ty L :=
  ⟨b.x.then0 x, b.gp.ext x, b.hn, b.sx.ext x, b.st.ext x, b.tS, b.tys.ext x fun i _ r => r, b.m.ext0 x, Nat.le_trans b.hh x.next, b.pl, b.xS, b.xw, b.xl⟩
/-- A block of one's own is written. -/
theorem MB.set {c : Nat} {L' : List (Nat × List Value × Nat)} (b : MB h h' pp xa xc xs n hi ta tc ty L) (x : Ext (· = c) h' h2) (hc : hi ≤ c) (hc2 : h.next ≤ c) (m : Mem h h2 L') : MB h h2 pp xa xc xs n hi ta tc ty L' := by
  have pl := b.pl
  exact ⟨b.x.then x fun i r => .inr (by omega), b.gp.ext x fun r => by omega, b.hn, b.sx.ext x fun i q r => by have := (b.xS i q).1; omega, b.st.ext x fun i q r => by have := (b.tS i q).2; omega, b.tS, b.tys.ext x fun i q r => by have := q.2; omega, m, Nat.le_trans b.hh x.next, b.pl, b.xS, b.xw, b.xl⟩
theorem MB.c48 {m : Int} (b : MB h h' pp xa xc xs n hi ta tc ty L) (hm : 0 < m) : Fn Try.prog 48 [ptr pp, .int .i64 m] h' fun v h2 => ∃ (r n' : Nat), v = .int .i64 (r : Int) ∧ (r : Int) < m ∧ MB h h2 pp xa xc xs n' hi ta tc ty L ∧ Ext (· = pp) h' h2 :=
  (C48 b.gp b.hn b.sx b.xw b.xl (fun r => (b.xS _ r).2 rfl) hm).mono fun v h2 ⟨r, n', hv, hr, x, gp, h1, h2, h3, h4⟩ => ⟨r, n', hv, hr,
    ⟨b.x.trans x, gp, h2, b.sx.ext x fun i q r => (b.xS i q).2 r, b.st.ext x fun i q r => by have := (b.tS i q).1; have := b.pl; omega, b.tS, b.tys.ext x fun i q r => by have := q.1; have := b.pl; omega, b.m.ext x fun i q r => by have := b.pl; omega, Nat.le_trans b.hh x.next, b.pl, b.xS, b.xw, b.xl⟩, x⟩
/-- What lies behind all that is looked at is written. -/
theorem MB.own {T : Nat → Prop} {L' : List (Nat × List Value × Nat)} (b : MB h h' pp xa xc xs n hi ta tc ty L) (x : Ext T h' h2) (d : ∀ i, T i → hi ≤ i) (o : h.next ≤ hi) (m : Mem h h2 L') : MB h h2 pp xa xc xs n hi ta tc ty L' := by
  have pl := b.pl
  exact ⟨b.x.then x fun i r => .inr (by have := d i r; omega), b.gp.ext x fun r => by have := d _ r; omega, b.hn, b.sx.ext x fun i q r => by have := (b.xS i q).1; have := d i r; omega, b.st.ext x fun i q r => by have := (b.tS i q).2; have := d i r; omega, b.tS, b.tys.ext x fun i q r => by have := q.2; have := d i r; omega, m, Nat.le_trans b.hh x.next, b.pl, b.xS, b.xw, b.xl⟩
end
theorem wU32 {x : Int} (h : 0 ≤ x ∧ x < 4294967296) : IntKind.wrap .u32 x = x := by
  simp [IntKind.wrap, IntKind.signed, IntKind.bits]; omega
abbrev u32s (fs : List Nat) : List Value := fs.map fun (x : Nat) => Value.int .u32 (x : Int)
/-- The same, with what its functions' types are. -/
structure MF (h h' : Heap) (pp : Nat) (xa : Option Addr) (xc : Nat) (xs : List Int) (n hi : Nat) (ta : Option Addr) (tc : Nat) (ty : List Value) (L : List (Nat × List Value × Nat)) (fa : Option Addr) (fc : Nat) (fs : List Nat) (pe q1 : Nat) : Prop where
  b : MB h h' pp xa xc xs n hi ta tc ty L
  sF : SlA h' 1 fa fs.length fc (u32s fs)
  fb : ∀ i, Blk fa i → pe < i ∧ i < q1
  hq : q1 ≤ h'.next
  o : h.next ≤ hi
  o2 : hi ≤ pe
section
variable {h h' h2 : Heap} {pp xc n hi tc fc pe q1 : Nat} {xa ta fa : Option Addr} {xs : List Int} {ty : List Value} {L : List (Nat × List Value × Nat)} {fs : List Nat}
theorem MF.ext0 (b : MF h h' pp xa xc xs n hi ta tc ty L fa fc fs pe q1) (x : Ext0 h' h2) : MF h h2 pp xa xc xs n hi ta tc ty L fa fc fs pe q1 := ⟨b.b.ext0 x, b.sF.ext x, b.fb, Nat.le_trans b.hq x.next, b.o, b.o2⟩
theorem MF.c48 {m : Int} (b : MF h h' pp xa xc xs n hi ta tc ty L fa fc fs pe q1) (hm : 0 < m) : Fn Try.prog 48 [ptr pp, .int .i64 m] h' fun v h2 => ∃ (r n' : Nat), v = .int .i64 (r : Int) ∧ (r : Int) < m ∧ MF h h2 pp xa xc xs n' hi ta tc ty L fa fc fs pe q1 ∧ Ext (· = pp) h' h2 :=
  (b.b.c48 hm).mono fun v h2 ⟨r, n', hv, hr, q, x⟩ => ⟨r, n', hv, hr, ⟨q, b.sF.ext x fun i r e => by have := (b.fb i r).1; have := b.b.pl; have := b.o; have := b.o2; omega, b.fb, Nat.le_trans b.hq x.next, b.o, b.o2⟩, x⟩
theorem MF.own {T : Nat → Prop} {L' : List (Nat × List Value × Nat)} (b : MF h h' pp xa xc xs n hi ta tc ty L fa fc fs pe q1) (x : Ext T h' h2) (d : ∀ i, T i → hi ≤ i ∧ (q1 ≤ i ∨ i ≤ pe)) (m : Mem h h2 L') : MF h h2 pp xa xc xs n hi ta tc ty L' fa fc fs pe q1 :=
  ⟨b.b.own x (fun i r => (d i r).1) b.o m, b.sF.ext x fun i q r => by have := b.fb i q; have := (d i r).2; omega, b.fb, Nat.le_trans b.hq x.next, b.o, b.o2⟩
end
abbrev endC : List Value := [.int .i64 11, .int .u32 0, .int .u32 0, .int .u64 0, .slice none 0 0, .int .i64 0]
abbrev z13 : List Value := [.slice none 0 0, .slice none 0 0, .slice none 0 0, .slice none 0 0, .slice none 0 0, .slice none 0 0, .bool false, .int .u32 0, .slice none 0 0, .bool false, .int .u32 0, .slice none 0 0, .slice none 0 0]
abbrev mC (ta : Option Addr) (tc : Nat) (fu tb me gl ex el b9 u10 co da : Value) : List Value := [.slice ta 6 tc, fu, tb, me, gl, ex, .bool false, .int .u32 0, el, b9, u10, co, da]
abbrev meC (mv : Int) : List Value := [.int .u32 mv, .int .u32 0, .bool false]
abbrev nilS : Value := .slice none 0 0

/-- What Module comes to. -/
def ModP (h : Heap) (pp : Nat) (v : Value) (h' : Heap) : Prop :=
  ∃ (mc : List Value) (ca : Option Addr) (cn cc : Nat) (cl : List Value), v = .agg ⟨mc⟩ ∧ mc.length = 13 ∧ mc.all isCell = true ∧ mc[11]? = some (.slice ca cn cc) ∧ SlA h' 2 ca cn cc cl ∧ 0 < cn ∧ cn ≤ 3 ∧ Ext (· = pp) h h' ∧
    ∀ i, i < cn → ∃ (ls : Value) (ba : Option Addr) (bn bc : Nat) (l : List Value) (w : List Int), (cl.drop (i * 2)).take 2 = [ls, .slice ba bn bc] ∧ Ins h' ba bn bc l (w ++ [11]) ∧ Opn [] w

/-- Bodies that are done. -/
def Cd (h : Heap) (S : Nat → Prop) (cl : List Value) (i : Nat) : Prop :=
  ∀ j, j < i → ∃ (ls : Value) (ba : Option Addr) (bn bc : Nat) (l : List Value) (w : List Int), (cl.drop (j * 2)).take 2 = [ls, .slice ba bn bc] ∧ Ins h ba bn bc l (w ++ [11]) ∧ Opn [] w ∧ ∀ q, Blk ba q → S q
theorem Cd.ext {h h' : Heap} {S T : Nat → Prop} {cl : List Value} {i : Nat} (c : Cd h S cl i) (x : Ext T h h') (d : ∀ q, S q → ¬ T q) : Cd h' S cl i := fun j hj => by
  obtain ⟨ls, ba, bn, bc, l, w, h1, h2, h3, h4⟩ := c j hj
  exact ⟨ls, ba, bn, bc, l, w, h1, h2.ext x fun q r => d q (h4 q r), h3, h4⟩
theorem Cd.mono {h : Heap} {S T : Nat → Prop} {cl : List Value} {i : Nat} (c : Cd h S cl i) (d : ∀ q, q < h.next → S q → T q) : Cd h T cl i := fun j hj => by
  obtain ⟨ls, ba, bn, bc, l, w, h1, h2, h3, h4⟩ := c j hj
  exact ⟨ls, ba, bn, bc, l, w, h1, h2, h3, fun q r => d q (h2.lt q r) (h4 q r)⟩
theorem Cd.snoc {h : Heap} {S : Nat → Prop} {cl : List Value} {i : Nat} {ls : Value} {ba : Option Addr} {bn bc : Nat} {l : List Value} {w : List Int} (c : Cd h S cl i) (hl : cl.length = i * 2) (I : Ins h ba bn bc l (w ++ [11])) (o : Opn [] w) (d : ∀ q, Blk ba q → S q) : Cd h S (cl ++ [ls, .slice ba bn bc]) (i + 1) := fun j hj => by
  by_cases hji : j < i
  · obtain ⟨ls, ba, bn, bc, l, w, h1, h2, h3, h4⟩ := c j hji
    exact ⟨ls, ba, bn, bc, l, w, by rw [List.drop_append_of_le_length (by omega), List.take_append_of_le_length (by rw [List.length_drop]; omega)]; exact h1, h2, h3, h4⟩
  · obtain rfl : j = i := by omega
    exact ⟨ls, ba, bn, bc, l, w, by rw [List.drop_append, List.drop_of_length_le (by omega), show j * 2 - cl.length = 0 by omega]; rfl, I, o, d⟩
theorem Tys.mono {h : Heap} {S T : Nat → Prop} {ty : List Value} (q : Tys h S ty) (d : ∀ i, S i → T i) : Tys h T ty := fun j hj => by
  obtain ⟨pa, pn, pc, ps, ra, rn, rc, rs, h1, h2, h3, h4, h5, h6⟩ := q j hj
  exact ⟨pa, pn, pc, ps, ra, rn, rc, rs, h1, h2, h3, fun i r => d i (h4 i r), fun i r => d i (h5 i r), h6⟩

set_option maxHeartbeats 4000000 in
/-- Picks.Module -/
theorem C29 {h : Heap} {pp xc : Nat} {xa : Option Addr} {xs : List Int} (gp : At h pp (.cells [.slice xa xs.length xc, .int .i64 0] 0 false)) (sx : SlA h 1 xa xs.length xc (ints .u8 xs)) (xw : ∀ x ∈ xs, 0 ≤ x ∧ x ≤ 255) (xl : xs.length ≤ 1000) (xS : ∀ i, Blk xa i → i < h.next ∧ i ≠ pp) :
    Fn Try.prog 29 [ptr pp] h (ModP h pp) := by
  have pl := gp.lt
  refine fnK F29.fok rfl ?_
  refine K_reg (Wops_new fun h0 n0 x0 g0 => K_fin [(0, _), (2, _)] rfl (?_))
  replace g0 : At h0 h.next (.cells z13 0 false) := g0
  refine K_reg (Wops_call rfl C47 ?_)
  rintro _ h1 ⟨ta, tc, ty, rfl, st, tS, tys, x1⟩
  have z1 := x1.next
  have B1 : MB h h1 pp xa xc xs 0 h1.next ta tc ty [(h.next, z13, 0)] :=
    ⟨(x0.trans x1).of0, (gp.ext x0).ext x1, Nat.zero_le _, (sx.ext x0).ext x1, st, fun i r => ⟨by have := (tS i r).1; omega, (tS i r).2⟩, fun j hj => by
      obtain ⟨pa, pn, pc, ps, ra, rn, rc, rs, q1, q2, q3, q4, q5, q6⟩ := tys j hj
      exact ⟨pa, pn, pc, ps, ra, rn, rc, rs, q1, q2, q3, fun i r => ⟨by have := (q4 i r).1; omega, (q4 i r).2⟩, fun i r => ⟨by have := (q5 i r).1; omega, (q5 i r).2⟩, q6⟩, ⟨⟨Nat.le_refl _, g0.ext x1⟩, trivial⟩, Nat.le_refl _, pl, xS, xw, xl⟩
  refine Wops_run rfl rfl (Wops_call rfl (B1.c48 (by decide)) ?_)
  rintro _ h2 ⟨r2, n2, rfl, hr2, B2, x2⟩
  have z2 := x2.next
  refine Wops_as (w := .int .i64 (IntKind.wrap .i64 ((r2 : Int).tdiv 3))) rfl rfl rfl (Wops_run rfl rfl (Wops_run rfl rfl ?_))
  refine Wops_bslice (l := meC _) rfl rfl fun h3 n3 x3 g3 => ?_
  generalize hmv : IntKind.wrap .u32 (IntKind.wrap .i64 ((r2 : Int).tdiv 3)) = mv at g3
  replace g3 : At h3 h2.next (.cells (meC mv) 3 false) := g3
  refine Wops_run rfl rfl (Wops_run rfl rfl (Wops_bslice (l := [.int .u8 112, .int .u32 4, .int .u32 0, .bool false]) rfl rfl fun h4 n4 x4 g4 => ?_))
  replace g4 : At h4 h3.next (.cells [.int .u8 112, .int .u32 4, .int .u32 0, .bool false] 4 false) := g4
  refine Wops_run rfl rfl (Wops_new fun h5 n5 x5 g5 => ?_)
  refine Wops_st (l := mC ta tc nilS (.slice (some ⟨h3.next, 0, none⟩) 1 1) (.slice (some ⟨h2.next, 0, none⟩) 1 1) nilS nilS nilS (.bool false) (.int .u32 0) nilS nilS) rfl rfl rfl rfl g5 (by simp) rfl fun h6 n6 x6 g6 => ?_
  replace g6 : At h6 h4.next (.cells (mC ta tc nilS (.slice (some ⟨h3.next, 0, none⟩) 1 1) (.slice (some ⟨h2.next, 0, none⟩) 1 1) nilS nilS nilS (.bool false) (.int .u32 0) nilS nilS) 0 false) := g6
  have x46 : Ext0 h4 h6 := x5.then x6 fun i r => .inr (by omega)
  have B6 : MB h h6 pp xa xc xs n2 h1.next ta tc ty [(h.next, z13, 0), (h4.next, mC ta tc nilS (.slice (some ⟨h3.next, 0, none⟩) 1 1) (.slice (some ⟨h2.next, 0, none⟩) 1 1) nilS nilS nilS (.bool false) (.int .u32 0) nilS nilS, 0), (h2.next, meC mv, 3), (h3.next, [.int .u8 112, .int .u32 4, .int .u32 0, .bool false], 4)] := by
    have b := ((B2.ext0 x3).ext0 x4).ext0 x46
    exact { b with m := ⟨b.m.1, ⟨by omega, g6⟩, ⟨by omega, (g3.ext x4).ext x46⟩, ⟨by omega, g4.ext x46⟩, trivial⟩ }
  refine K_fin [(0, _), (2, _), (3, _)] rfl (?_)
  clear g6 g5 g4 g3 x46 x6 x5 x4 x3 x2 B2 B1 hmv
  generalize hbm : h2.next = bm at B6 ⊢
  generalize hbt : h3.next = bt at B6 ⊢
  generalize hpm : h4.next = pm at B6 ⊢
  generalize hhi : h1.next = hi at B6
  have o1 : h.next < hi := by omega
  have o2 : hi ≤ bm ∧ bt = bm + 1 ∧ pm = bt + 1 := by omega
  clear hbm hbt hpm hhi n6 n5 n4 n3 z2 z1 n0 g0 st tS tys x1 x0
  obtain ⟨tb, htb⟩ : ∃ v : Value, v = .slice (some ⟨bt, 0, none⟩) 1 1 := ⟨_, rfl⟩
  obtain ⟨me, hme⟩ : ∃ v : Value, v = .slice (some ⟨bm, 0, none⟩) 1 1 := ⟨_, rfl⟩
  rw [← htb, ← hme] at B6
  refine K_join (fun e h' => ∃ (n' : Nat) (l : Env), e = [(0, ptr pp), (2, ptr h.next), (3, ptr pm)] ++ l ∧ MB h h' pp xa xc xs n' hi ta tc ty [(h.next, z13, 0), (pm, mC ta tc nilS tb me nilS nilS nilS (.bool false) (.int .u32 0) nilS nilS, 0), (bm, meC mv, 3)]) ?_ ?_
  · refine K_reg (Wops_run rfl rfl (Wops_call rfl (B6.c48 (by decide)) ?_))
    rintro _ h7 ⟨r7, n7, rfl, hr7, B7, x7⟩
    refine Wops_run rfl rfl (K_fin [(0, _), (2, _), (3, _), (29, _)] rfl (?_))
    have M7 := B7.m
    refine K_cond rfl (fun _ => ?_) (fun _ => K_skip ⟨n7, _, rfl, { B7 with m := ⟨M7.1, M7.2.1, M7.2.2.1, trivial⟩ }⟩)
    refine K_last (Wops_run rfl rfl (Wops_ld (v := .slice (some ⟨bt, 0, none⟩) 1 1) rfl M7.2.1.2 (by rw [htb]; rfl) (Wops_run rfl rfl (Wops_ld (v := .slice (some ⟨bt, 0, none⟩) 1 1) rfl M7.2.1.2 (by rw [htb]; rfl) ?_))))
    refine Wops_iaV rfl rfl ⟨by decide, by decide⟩ (Wops_run rfl rfl (Wops_run rfl rfl (Wops_st (l := [.int .u32 8]) rfl rfl rfl rfl M7.2.2.2.1.2 (by simp) rfl fun h8 n8 x8 g8 => ?_)))
    refine Wops_iaV rfl rfl ⟨by decide, by decide⟩ (Wops_run rfl rfl (Wops_run rfl rfl (Wops_st (l := [.bool true]) rfl rfl rfl rfl g8 (by simp [putL]) rfl fun h9 n9 x9 g9 => ?_)))
    refine K_finL [(0, _), (2, _), (3, _)] rfl ⟨n7, [], rfl, ?_⟩
    have x79 := x8.trans x9
    exact B7.set x79 (by omega) (by omega) ⟨⟨M7.1.1, M7.1.2.ext x79 fun r => by omega⟩, ⟨M7.2.1.1, M7.2.1.2.ext x79 fun r => by omega⟩, ⟨M7.2.2.1.1, M7.2.2.1.2.ext x79 fun r => by omega⟩, trivial⟩
  clear B6
  rintro e h7 ⟨n7, l7, rfl, B7⟩
  refine K_join (fun e h' => ∃ (n' : Nat) (mv : Int) (l : Env), e = [(0, ptr pp), (2, ptr h.next), (3, ptr pm)] ++ l ∧ MB h h' pp xa xc xs n' hi ta tc ty [(h.next, z13, 0), (pm, mC ta tc nilS tb me nilS nilS nilS (.bool false) (.int .u32 0) nilS nilS, 0), (bm, meC mv, 3)]) ?_ ?_
  · have M7 := B7.m
    refine K_reg (Wops_run rfl rfl (Wops_ld (v := .slice (some ⟨bm, 0, none⟩) 1 1) rfl M7.2.1.2 (by rw [hme]; rfl) (Wops_iaV rfl rfl ⟨by decide, by decide⟩ (Wops_run rfl rfl (Wops_ld (v := .int .u32 mv) rfl M7.2.2.1.2 rfl (Wops_run rfl rfl (Wops_run rfl rfl ?_)))))))
    cases hq : (mv == 0)
    case false =>
      refine Wops_skip rfl (Wops_skip rfl (Wops_skip rfl (Wops_run rfl rfl (K_fin [(0, _), (2, _), (3, _), (50, _)] rfl (?_)))))
      exact K_cond rfl (fun hc => by cases hc) (fun _ => K_skip ⟨n7, mv, _, rfl, B7⟩)
    refine Wops_go rfl (Wops_run rfl rfl (Wops_go rfl (Wops_call rfl (B7.c48 (by decide)) ?_)))
    rintro _ h8 ⟨r8, n8, rfl, hr8, B8, x8⟩
    refine Wops_go rfl (Wops_run rfl rfl (Wops_run rfl rfl (K_fin [(0, _), (2, _), (3, _), (50, _)] rfl (?_))))
    have M8 := B8.m
    refine K_cond rfl (fun _ => ?_) (fun _ => K_skip ⟨n8, mv, _, rfl, B8⟩)
    refine K_last (Wops_run rfl rfl (Wops_ld (v := .slice (some ⟨bm, 0, none⟩) 1 1) rfl M8.2.1.2 (by rw [hme]; rfl) (Wops_iaV rfl rfl ⟨by decide, by decide⟩ (Wops_run rfl rfl (Wops_st (l := [.int .u32 1]) rfl rfl rfl rfl M8.2.2.1.2 (by simp) rfl fun h9 n9 x9 g9 => ?_)))))
    refine K_finL [(0, _), (2, _), (3, _)] rfl ⟨n8, 1, [], rfl, ?_⟩
    exact B8.set x9 (by omega) (by omega) ⟨⟨M8.1.1, M8.1.2.ext x9 fun r => by omega⟩, ⟨M8.2.1.1, M8.2.1.2.ext x9 fun r => by omega⟩, ⟨M8.2.2.1.1, g9⟩, trivial⟩
  clear B7
  rintro e h8 ⟨n8, mv, l8, rfl, B8⟩
  -- end, globals, how many functions
  refine K_reg (Wops_run rfl rfl (Wops_new fun h9 n9 x9 g9 => Wops_st (l := endC) rfl rfl rfl rfl g9 (by simp) rfl fun h10 n10 x10 g10 => K_fin [(0, _), (2, _), (3, _), (4, _)] rfl (?_)))
  replace g10 : At h10 h8.next (.cells endC 0 false) := g10
  have x810 : Ext0 h8 h10 := x9.then x10 fun i r => .inr (by omega)
  have hh8 := B8.hh
  have pml := B8.m.2.1.2.lt
  have B10 : MB h h10 pp xa xc xs n8 hi ta tc ty [(h.next, z13, 0), (pm, mC ta tc nilS tb me nilS nilS nilS (.bool false) (.int .u32 0) nilS nilS, 0), (bm, meC mv, 3), (h8.next, endC, 0)] := by
    have b := B8.ext0 x810
    exact { b with m := ⟨b.m.1, b.m.2.1, b.m.2.2.1, ⟨by omega, g10⟩, trivial⟩ }
  generalize hpe : h8.next = pe at B10 ⊢
  have o3 : pm < pe := by omega
  clear g10 x810 g9 x9 x10 n9 n10 hh8 pml hpe B8
  have M10 := B10.m
  refine K_reg (Wops_run rfl rfl (Wops_ldA (l := endC) rfl M10.2.2.2.1.2 (by simp) rfl (Wops_run rfl rfl (Wops_ldA (l := endC) rfl M10.2.2.2.1.2 (by simp) rfl (Wops_bslice (l := [.int .i64 66, .int .u32 0, .int .u32 0, .int .u64 18446744073709551615, nilS, .int .i64 0] ++ endC) rfl rfl fun h11 n11 x11 g11 => ?_)))))
  have B11 := B10.ext0 x11
  refine Wops_run rfl rfl (Wops_call rfl (B11.c48 (by decide)) ?_)
  rintro _ h12 ⟨r12, n12, rfl, hr12, B12, x12⟩
  have M12 := B12.m
  refine Wops_chkA rfl rfl M12.2.2.2.1.2 (by simp) rfl rfl (Wops_chkA rfl rfl M12.2.2.2.1.2 (by simp) rfl rfl (Wops_run rfl rfl (Wops_run rfl rfl ?_)))
  refine Wops_bslice (l := [.int .i64 65, .int .u32 0, .int .u32 0, _, nilS, .int .i64 0] ++ endC) rfl rfl fun h13 n13 x13 g13 => ?_
  refine Wops_run rfl rfl (Wops_bslice (l := [.int .u8 127, .bool true, _, .int .u8 126, .bool true, _]) rfl rfl fun h14 n14 x14 g14 => ?_)
  have B14 := (B12.ext0 x13).ext0 x14
  have M14 := B14.m
  refine Wops_run rfl rfl (Wops_st (l := [_]) rfl rfl rfl rfl M14.2.1.2 (by simp) rfl fun h15 n15 x15 g15 => ?_)
  refine K_fin [(0, _), (2, _), (3, _), (4, _)] rfl (?_)
  obtain ⟨gl, hgl, cgl⟩ : ∃ v : Value, v = .slice (some ⟨h13.next, 0, none⟩) 2 1 ∧ isCell v = true := ⟨_, rfl, rfl⟩
  have B15 : MB h h15 pp xa xc xs n12 hi ta tc ty [(h.next, z13, 0), (pm, mC ta tc nilS tb me gl nilS nilS (.bool false) (.int .u32 0) nilS nilS, 0), (bm, meC mv, 3), (pe, endC, 0)] :=
    B14.set x15 (by omega) (by omega) ⟨⟨M14.1.1, M14.1.2.ext x15 fun r => by omega⟩, ⟨M14.2.1.1, by rw [hgl]; exact g15⟩, ⟨M14.2.2.1.1, M14.2.2.1.2.ext x15 fun r => by omega⟩, ⟨M14.2.2.2.1.1, M14.2.2.2.1.2.ext x15 fun r => by omega⟩, trivial⟩
  clear g15 g14 g13 g11 B14 B12 B11 B10 M14 M12 M10
  refine K_reg (Wops_run rfl rfl (Wops_call rfl (B15.c48 (by decide)) ?_))
  rintro _ h16 ⟨r16, n16, rfl, hr16, B16, x16⟩
  refine Wops_as (w := .int .i64 ((r16 + 1 : Nat) : Int)) rfl rfl (by rw [w64 (by omega)]; congr 1; omega) (Wops_run rfl rfl (K_fin [(0, _), (2, _), (3, _), (4, _), (5, _)] rfl (?_)))
  obtain ⟨nn, hnn⟩ : ∃ nn : Nat, nn = r16 + 1 := ⟨_, rfl⟩
  rw [← hnn]
  have hn3 : 0 < nn ∧ nn ≤ 3 := by omega
  clear hgl x16 x15 x14 x13 x12 x11 n15 n14 n13 n11 B15
  have o4 : hi ≤ pm := by omega
  refine K_ss (K_reg (Wops_run rfl rfl (K_fin [(0, _), (2, _), (3, _), (4, _), (5, _), (6, _)] rfl (?_))))
  refine K_sblock ?_
  refine K_loop (fun k e h' => ∃ (f n' : Nat) (fa : Option Addr) (fc : Nat) (fs : List Nat) (ea : Option Addr) (ec : Nat) (el : List Value), e = [(0, ptr pp), (2, ptr h.next), (3, ptr pm), (4, ptr pe), (5, .int .i64 (nn : Int)), (6, .int .i64 (f : Int))] ∧ f ≤ nn ∧ k = nn - f ∧
      MB h h' pp xa xc xs n' hi ta tc ty [(h.next, z13, 0), (pm, mC ta tc (.slice fa f fc) tb me gl (.slice ea f ec) nilS (.bool false) (.int .u32 0) nilS nilS, 0), (bm, meC mv, 3), (pe, endC, 0)] ∧
      OwS h' 1 fa f fc (u32s fs) ∧ fs.length = f ∧ (∀ x ∈ fs, x < 6) ∧ OwS h' 3 ea f ec el ∧ (∀ i, Blk fa i → pe < i) ∧ (∀ i, Blk ea i → pe < i) ∧ ∀ i, Blk fa i → ¬ Blk ea i) ?_ (k := nn)
    ⟨0, n16, none, 0, [], none, 0, [], rfl, Nat.zero_le _, rfl, B16, OwS.none, rfl, (fun x hx => by cases hx), OwS.none, fun i r => absurd r Blk.none, fun i r => absurd r Blk.none, fun i r => absurd r Blk.none⟩
  clear B16
  rintro k e h17 ⟨f, n17, fa, fc, fs, ea, ec, el, rfl, hf, rfl, B17, oF, hfl, hf6, oE, fb, eb, de⟩
  refine K_ss (K_reg (Wops_run rfl rfl (Wops_run rfl rfl (Wops_run rfl rfl (K_fin [(0, _), (2, _), (3, _), (4, _), (5, _), (6, _), (74, _)] rfl (?_))))))
  refine K_scond rfl (fun hc => ?_) (fun hc => ?_)
  · have hfn : f < nn := by have := of_decide_eq_true hc; omega
    have M17 := B17.m
    refine K_sskip (K_sblock ?_)
    refine K_reg (Wops_run rfl rfl (Wops_ld (v := .slice fa f fc) rfl M17.2.1.2 rfl (Wops_run rfl rfl (Wops_call rfl (B17.c48 (by decide)) ?_))))
    rintro _ h18 ⟨r18, n18, rfl, hr18, B18, x18⟩
    have M18 := B18.m
    have ppe : pp < pe := by omega
    refine Wops_chk rfl rfl M18.2.1.2 (v := .slice fa f fc) rfl oF.sl.same ?_
    refine Wops_as (w := .int .i64 ((r18 + 1 : Nat) : Int)) rfl rfl (by rw [w64 (by omega)]; congr 1; omega) (Wops_as (w := .int .u32 ((r18 + 1 : Nat) : Int)) rfl rfl (by rw [wU32 (by omega)]) ?_)
    refine Wops_bslice (l := u32s [r18 + 1]) rfl rfl fun h19 n19 x19 g19 => ?_
    have oF19 := (oF.ext x18 fun i r e => by have := fb i r; omega).ext x19
    have oE19 := (oE.ext x18 fun i r e => by have := eb i r; omega).ext x19
    have B19 := B18.ext0 x19
    have z18 := x18.next
    refine Wops_app (m := 1) rfl rfl oF19 rfl (OwS.new (n := 1) (c := 1) g19 rfl).sl.first ⟨by omega, by omega⟩ rfl rfl (by decide) fun h20 fa' fc' x20 oF20 bF20 => ?_
    have z20 := x20.next
    have M19 := B19.m
    have pel := M19.2.2.2.1.2.lt
    have oE20 := oE19.ext x20 fun i q r => de i r q
    have bF20' : ∀ i, Blk fa' i → pe < i := fun i r => (bF20 i r).elim (fb i) fun r => by omega
    have de20 : ∀ i, Blk fa' i → ¬ Blk ea i := fun i r q => (bF20 i r).elim (fun r => de i r q) fun r => by have := oE19.lt q; omega
    have M20 : Mem h h20 [(h.next, z13, 0), (pm, mC ta tc (.slice fa f fc) tb me gl (.slice ea f ec) nilS (.bool false) (.int .u32 0) nilS nilS, 0), (bm, meC mv, 3), (pe, endC, 0)] := M19.put x20 fun p hp r => by
      have := fb _ r
      simp only [List.mem_cons, List.not_mem_nil, or_false] at hp
      rcases hp with rfl | rfl | rfl | rfl <;> simp only [] at this <;> omega
    have B20 := B19.own x20 (fun i r => by have := fb i r; omega) (by omega) M20
    refine Wops_run rfl rfl (Wops_st (l := [.slice fa' (f + 1) fc']) rfl rfl rfl rfl M20.2.1.2 (by simp) rfl fun h21 n21 x21 g21 => ?_)
    replace g21 : At h21 pm (.cells (mC ta tc (.slice fa' (f + 1) fc') tb me gl (.slice ea f ec) nilS (.bool false) (.int .u32 0) nilS nilS) 0 false) := g21
    refine K_fin [(0, _), (2, _), (3, _), (4, _), (5, _), (6, _)] rfl (?_)
    have B21 : MB h h21 pp xa xc xs n18 hi ta tc ty [(h.next, z13, 0), (pm, mC ta tc (.slice fa' (f + 1) fc') tb me gl (.slice ea f ec) nilS (.bool false) (.int .u32 0) nilS nilS, 0), (bm, meC mv, 3), (pe, endC, 0)] :=
      B20.set x21 (by omega) (by omega) ⟨⟨M20.1.1, M20.1.2.ext x21 fun r => by omega⟩, ⟨M20.2.1.1, g21⟩, ⟨M20.2.2.1.1, M20.2.2.1.2.ext x21 fun r => by omega⟩, ⟨M20.2.2.2.1.1, M20.2.2.2.1.2.ext x21 fun r => by omega⟩, trivial⟩
    have oF21 := oF20.ext x21 fun i r e => by have := bF20' i r; omega
    have oE21 := oE20.ext x21 fun i r e => by have := eb i r; omega
    refine K_last (Wops_run rfl rfl (Wops_ld (v := .slice ea f ec) rfl g21 rfl (Wops_run rfl rfl (Wops_run rfl rfl (Wops_run rfl rfl ?_)))))
    refine Wops_bslice (l := ints .u8 [IntKind.wrap .u8 (IntKind.wrap .i64 (48 + (f : Int)))]) rfl rfl fun h22 n22 x22 g22 => ?_
    refine Wops_toStr rfl (OwS.new (n := 1) (c := 1) g22 rfl).sl (Wops_run rfl rfl (Wops_run rfl rfl (Wops_run rfl rfl (Wops_run rfl rfl ?_))))
    refine Wops_bslice (l := [_, .int .u8 0, .int .u32 _]) rfl rfl fun h23 n23 x23 g23 => ?_
    have x2123 := x22.trans x23
    have z2123 := x2123.next
    have oE23 := oE21.ext x2123
    refine Wops_app (m := 1) rfl rfl oE23 rfl (OwS.new (n := 1) (c := 1) g23 rfl).sl.first ⟨by omega, by omega⟩ rfl rfl (by decide) fun h24 ea' ec' x24 oE24 bE24 => ?_
    have B23 := B21.ext0 x2123
    have M23 := B23.m
    have pel2 := M23.2.2.2.1.2.lt
    have M24 : Mem h h24 [(h.next, z13, 0), (pm, mC ta tc (.slice fa' (f + 1) fc') tb me gl (.slice ea f ec) nilS (.bool false) (.int .u32 0) nilS nilS, 0), (bm, meC mv, 3), (pe, endC, 0)] := M23.put x24 fun p hp r => by
      have := eb _ r
      simp only [List.mem_cons, List.not_mem_nil, or_false] at hp
      rcases hp with rfl | rfl | rfl | rfl <;> simp only [] at this <;> omega
    have B24 := B23.own x24 (fun i r => by have := eb i r; omega) (by omega) M24
    have bE24' : ∀ i, Blk ea' i → pe < i := fun i r => (bE24 i r).elim (eb i) fun r => by omega
    have oF24 := (oF21.ext x2123).ext x24 de20
    refine Wops_run rfl rfl (Wops_st (l := [.slice ea' (f + 1) ec']) rfl rfl rfl rfl M24.2.1.2 (by simp) rfl fun h25 n25 x25 g25 => ?_)
    replace g25 : At h25 pm (.cells (mC ta tc (.slice fa' (f + 1) fc') tb me gl (.slice ea' (f + 1) ec') nilS (.bool false) (.int .u32 0) nilS nilS) 0 false) := g25
    refine K_finL [(0, _), (2, _), (3, _), (4, _), (5, _), (6, _)] rfl (?_)
    refine K_last (Wops_run rfl rfl (Wops_run rfl rfl (Wops_run rfl rfl (K_finL [(0, _), (2, _), (3, _), (4, _), (5, _), (6, _)] rfl (?_)))))
    refine ⟨nn - (f + 1), by omega, f + 1, n18, fa', fc', fs ++ [r18 + 1], ea', ec', _, by rw [w64s (by omega)], by omega, rfl, ?_, by rw [u32s, List.map_append]; exact oF24.ext x25 (fun i r e => by have := bF20' i r; omega), by simp [hfl], fun x hx => ?_, oE24.ext x25 (fun i r e => by have := bE24' i r; omega), bF20', bE24', fun i r q => ?_⟩
    · exact B24.set x25 (by omega) (by omega) ⟨⟨M24.1.1, M24.1.2.ext x25 fun r => by omega⟩, ⟨M24.2.1.1, g25⟩, ⟨M24.2.2.1.1, M24.2.2.1.2.ext x25 fun r => by omega⟩, ⟨M24.2.2.2.1.1, M24.2.2.2.1.2.ext x25 fun r => by omega⟩, trivial⟩
    · rcases List.mem_append.1 hx with hx | hx
      · exact hf6 x hx
      · have : x = r18 + 1 := by simpa using hx
        omega
    · rcases bE24 i q with q | q
      · exact de20 i r q
      · have := oF20.lt r
        have := x21.next
        omega
  have hfn : f = nn := by have := of_decide_eq_false hc; omega
  subst hfn
  refine K_sexit (bx_same ?_)
  obtain ⟨ex, hex, cex⟩ : ∃ v : Value, v = .slice ea f ec ∧ isCell v = true := ⟨_, rfl, rfl⟩
  rw [← hex] at B17
  obtain ⟨q1, hq1⟩ : ∃ q, q = h17.next := ⟨_, rfl⟩
  have peq : pe < q1 := by rw [hq1]; exact B17.m.2.2.2.1.2.lt
  have F17 : MF h h17 pp xa xc xs n17 hi ta tc ty [(h.next, z13, 0), (pm, mC ta tc (.slice fa fs.length fc) tb me gl ex nilS (.bool false) (.int .u32 0) nilS nilS, 0), (bm, meC mv, 3), (pe, endC, 0)] fa fc fs pe q1 := by
    rw [hfl]
    exact ⟨B17, by rw [hfl]; exact oF.sl, fun i r => ⟨fb i r, by rw [hq1]; exact oF.lt r⟩, by omega, by omega, by omega⟩
  clear B17 oF oE eb de hex
  -- what tables begin with
  refine K_reg (Wops_run rfl rfl (K_fin [(0, _), (2, _), (3, _), (4, _), (5, _), (7, _)] rfl (?_)))
  refine K_ss (K_reg (Wops_run rfl rfl (K_fin [(0, _), (2, _), (3, _), (4, _), (5, _), (7, _), (8, _)] rfl (?_))))
  refine K_sblock ?_
  refine K_loop (fun k e h' => ∃ (i n' : Nat) (ia : Option Addr) (ic : Nat) (il : List Value), e = [(0, ptr pp), (2, ptr h.next), (3, ptr pm), (4, ptr pe), (5, .int .i64 (f : Int)), (7, .slice ia i ic), (8, .int .i64 (i : Int))] ∧ i ≤ 3 ∧ k = 3 - i ∧
      MF h h' pp xa xc xs n' hi ta tc ty [(h.next, z13, 0), (pm, mC ta tc (.slice fa fs.length fc) tb me gl ex nilS (.bool false) (.int .u32 0) nilS nilS, 0), (bm, meC mv, 3), (pe, endC, 0)] fa fc fs pe q1 ∧ OwS h' 1 ia i ic il ∧ (∀ j, Blk ia j → q1 ≤ j)) ?_ (k := 3)
    ⟨0, n17, none, 0, [], rfl, Nat.zero_le _, rfl, F17, OwS.none, fun i r => absurd r Blk.none⟩
  clear F17 hq1
  rintro k e h17 ⟨i, n17, ia, ic, il, rfl, hi3, rfl, F17, oI, ib⟩
  refine K_ss (K_reg (Wops_run rfl rfl (Wops_run rfl rfl (K_fin [(0, _), (2, _), (3, _), (4, _), (5, _), (7, _), (8, _), (101, _)] rfl (?_)))))
  refine K_scond rfl (fun hc => ?_) (fun hc => ?_)
  · have hi2 : i < 3 := by have := of_decide_eq_true hc; omega
    have M17 := F17.b.m
    have hq17 := F17.hq
    have ppe : pp < pe := by omega
    have pel := M17.2.2.2.1.2.lt
    refine K_sskip (K_sblock ?_)
    refine K_reg (Wops_run rfl rfl (Wops_run rfl rfl (Wops_ldA (l := endC) rfl M17.2.2.2.1.2 (by simp) rfl (Wops_call rfl (F17.c48 (m := (f : Int)) (by omega)) ?_))))
    rintro _ h18 ⟨r18, n18, rfl, hr18, F18, x18⟩
    have M18 := F18.b.m
    have z18 := x18.next
    refine Wops_chkA rfl rfl M18.2.2.2.1.2 (by simp) rfl rfl (Wops_run rfl rfl (Wops_run rfl rfl ?_))
    refine Wops_bslice (l := [.int .i64 210, _, .int .u32 0, .int .u64 0, nilS, .int .i64 0] ++ endC) rfl rfl fun h19 n19 x19 g19 => ?_
    refine Wops_run rfl rfl (K_fin [(0, _), (2, _), (3, _), (4, _), (5, _), (7, _), (8, _), (9, _)] rfl (?_))
    have F19 := F18.ext0 x19
    have oI19 := (oI.ext x18 fun j r e => by have := ib j r; have := F17.fb; have := F17.o2; have := hq17; omega).ext x19
    refine K_ss (K_reg (Wops_run rfl rfl (Wops_call rfl (F19.c48 (by decide)) ?_)))
    rintro _ h20 ⟨r20, n20, rfl, hr20, F20, x20⟩
    have z20 := x20.next
    have oI20 := oI19.ext x20 fun j r e => by have := ib j r; omega
    have g20 := At.ext g19 x20 (by omega)
    refine Wops_run rfl rfl (K_fin [(0, _), (2, _), (3, _), (4, _), (5, _), (7, _), (8, _), (9, _), (113, _)] rfl (?_))
    refine K_scond rfl (fun _ => ?_) (fun _ => ?_)
    · refine K_reg (Wops_run rfl rfl (Wops_run rfl rfl (Wops_iaV rfl rfl ⟨by decide, by decide⟩ (Wops_st (l := [.int .i64 208, .int .u32 112, .int .u32 0, .int .u64 0, nilS, .int .i64 0]) rfl rfl rfl rfl g20 (by simp) rfl fun h21 n21 x21 g21 => ?_))))
      refine K_fin [(0, _), (2, _), (3, _), (4, _), (5, _), (7, _), (8, _), (9, _)] rfl (?_)
      have M20 := F20.b.m
      have F21 := F20.own x21 (fun j r => ⟨by omega, .inl (by omega)⟩) (M20.put x21 fun p hp r => by
        simp only [List.mem_cons, List.not_mem_nil, or_false] at hp
        rcases hp with rfl | rfl | rfl | rfl <;> simp only [] at r <;> omega)
      have oI21 := oI20.ext x21 fun j r e => by have := oI.lt r; omega
      refine K_last (Wops_run rfl rfl (Wops_run rfl rfl (Wops_bslice (l := [_]) rfl rfl fun h22 n22 x22 g22 => ?_)))
      have M22 := (F21.ext0 x22).b.m
      refine Wops_app (m := 1) rfl rfl (oI21.ext x22) rfl (OwS.new (n := 1) (c := 1) g22 rfl).sl.first ⟨by omega, by omega⟩ rfl rfl (by decide) fun h23 ia' ic' x23 oI23 bI23 => ?_
      refine Wops_run rfl rfl (K_finL [(0, _), (2, _), (3, _), (4, _), (5, _), (7, _), (8, _)] rfl (?_))
      refine K_last (Wops_run rfl rfl (Wops_run rfl rfl (Wops_run rfl rfl (K_finL [(0, _), (2, _), (3, _), (4, _), (5, _), (7, _), (8, _)] rfl (?_)))))
      have F23 := (F21.ext0 x22).own x23 (fun j r => ⟨by have := ib j r; have := F17.fb; omega, .inl (ib j r)⟩) (M22.put x23 fun p hp r => by
        have := ib _ r
        simp only [List.mem_cons, List.not_mem_nil, or_false] at hp
        rcases hp with rfl | rfl | rfl | rfl <;> simp only [] at this <;> omega)
      have z21 := x21.next
      refine ⟨3 - (i + 1), by omega, i + 1, n20, ia', ic', _, by rw [w64s (by omega)], by omega, rfl, F23, oI23, fun j r => (bI23 j r).elim (ib j) fun r => by omega⟩
    · refine K_sskip (K_last (Wops_run rfl rfl (Wops_run rfl rfl (Wops_bslice (l := [_]) rfl rfl fun h22 n22 x22 g22 => ?_))))
      have M22 := (F20.ext0 x22).b.m
      refine Wops_app (m := 1) rfl rfl (oI20.ext x22) rfl (OwS.new (n := 1) (c := 1) g22 rfl).sl.first ⟨by omega, by omega⟩ rfl rfl (by decide) fun h23 ia' ic' x23 oI23 bI23 => ?_
      refine Wops_run rfl rfl (K_finL [(0, _), (2, _), (3, _), (4, _), (5, _), (7, _), (8, _)] rfl (?_))
      refine K_last (Wops_run rfl rfl (Wops_run rfl rfl (Wops_run rfl rfl (K_finL [(0, _), (2, _), (3, _), (4, _), (5, _), (7, _), (8, _)] rfl (?_)))))
      have F23 := (F20.ext0 x22).own x23 (fun j r => ⟨by have := ib j r; have := F17.fb; omega, .inl (ib j r)⟩) (M22.put x23 fun p hp r => by
        have := ib _ r
        simp only [List.mem_cons, List.not_mem_nil, or_false] at hp
        rcases hp with rfl | rfl | rfl | rfl <;> simp only [] at this <;> omega)
      refine ⟨3 - (i + 1), by omega, i + 1, n20, ia', ic', _, by rw [w64s (by omega)], by omega, rfl, F23, oI23, fun j r => (bI23 j r).elim (ib j) fun r => by omega⟩
  refine K_sexit (bx_same ?_)
  clear hc hi3
  -- elements, data
  have M17 := F17.b.m
  have hq17 := F17.hq
  refine K_reg (Wops_run rfl rfl (Wops_ldA (l := endC) rfl M17.2.2.2.1.2 (by simp) rfl (Wops_call rfl (F17.c48 (by decide)) ?_)))
  rintro _ h18 ⟨r18, n18, rfl, hr18, F18, x18⟩
  have z18 := x18.next
  refine Wops_chkA rfl rfl F18.b.m.2.2.2.1.2 (by simp) rfl rfl (Wops_run rfl rfl (Wops_run rfl rfl ?_))
  refine Wops_bslice (l := [.int .i64 65, .int .u32 0, .int .u32 0, _, nilS, .int .i64 0] ++ endC) rfl rfl fun h19 n19 x19 g19 => ?_
  refine Wops_run rfl rfl (K_fin [(0, _), (2, _), (3, _), (4, _), (5, _), (7, _), (10, _)] rfl (?_))
  refine K_reg (Wops_run rfl rfl (Wops_run rfl rfl (Wops_run rfl rfl (Wops_run rfl rfl (Wops_run rfl rfl ?_)))))
  refine Wops_bslice (l := [.int .u8 0, .int .u8 112, .int .u32 0, _, _, .int .u8 1, .int .u8 112, .int .u32 0, nilS, _]) rfl rfl fun h20 n20 x20 g20 => ?_
  have F20 := (F18.ext0 x19).ext0 x20
  have M20 := F20.b.m
  refine Wops_run rfl rfl (Wops_st (l := [_]) rfl rfl rfl rfl M20.2.1.2 (by simp) rfl fun h21 n21 x21 g21 => ?_)
  refine K_fin [(0, _), (2, _), (3, _), (4, _), (5, _)] rfl (?_)
  obtain ⟨el, hel, cel⟩ : ∃ v : Value, v = .slice (some ⟨h19.next, 0, none⟩) 2 1 ∧ isCell v = true := ⟨_, rfl, rfl⟩
  have F21 : MF h h21 pp xa xc xs n18 hi ta tc ty [(h.next, z13, 0), (pm, mC ta tc (.slice fa fs.length fc) tb me gl ex el (.bool false) (.int .u32 0) nilS nilS, 0), (bm, meC mv, 3), (pe, endC, 0)] fa fc fs pe q1 :=
    F20.own x21 (fun j r => ⟨by omega, .inr (by omega)⟩) ⟨⟨M20.1.1, M20.1.2.ext x21 fun r => by omega⟩, ⟨M20.2.1.1, by rw [hel]; exact g21⟩, ⟨M20.2.2.1.1, M20.2.2.1.2.ext x21 fun r => by omega⟩, ⟨M20.2.2.2.1.1, M20.2.2.2.1.2.ext x21 fun r => by omega⟩, trivial⟩
  have hq21 := F21.hq
  clear F20 M20 g21 g20 g19 F18 M17 F17 oI ib hel
  refine K_reg (Wops_bslice (l := ints .u8 [112, 97, 115, 115, 105, 118, 101]) rfl rfl fun h22 n22 x22 g22 => ?_)
  refine Wops_mark rfl (by decide) g22 (Wops_run rfl rfl (Wops_bslice (l := ints .u8 [1, 2, 255]) rfl rfl fun h23 n23 x23 g23 => ?_))
  refine Wops_run rfl rfl (Wops_bslice (l := [.int .u8 1, nilS, _, .int .u8 1, nilS, _]) rfl rfl fun h24 n24 x24 g24 => ?_)
  have F24 := ((F21.ext0 x22).ext0 x23).ext0 x24
  have M24 := F24.b.m
  refine Wops_run rfl rfl (Wops_st (l := [.slice (some ⟨h23.next, 0, none⟩) 2 1]) rfl rfl rfl rfl M24.2.1.2 (by simp) rfl fun h25 n25 x25 g25 => ?_)
  refine K_fin [(0, _), (2, _), (3, _), (4, _), (5, _)] rfl (?_)
  replace g25 : At h25 pm (.cells (mC ta tc (.slice fa fs.length fc) tb me gl ex el (.bool false) (.int .u32 0) nilS (.slice (some ⟨h23.next, 0, none⟩) 2 1)) 0 false) := g25
  have F25 : MF h h25 pp xa xc xs n18 hi ta tc ty [(h.next, z13, 0), (pm, mC ta tc (.slice fa fs.length fc) tb me gl ex el (.bool false) (.int .u32 0) nilS (.slice (some ⟨h23.next, 0, none⟩) 2 1), 0), (bm, meC mv, 3), (pe, endC, 0)] fa fc fs pe q1 :=
    F24.own x25 (fun j r => ⟨by omega, .inr (by omega)⟩) ⟨⟨M24.1.1, M24.1.2.ext x25 fun r => by omega⟩, ⟨M24.2.1.1, g25⟩, ⟨M24.2.2.1.1, M24.2.2.1.2.ext x25 fun r => by omega⟩, ⟨M24.2.2.2.1.1, M24.2.2.2.1.2.ext x25 fun r => by omega⟩, trivial⟩
  have gd25 := At.ext g24 x25 (fun r => by omega)
  have obd : q1 ≤ h23.next := by omega
  have hbdl := gd25.lt
  generalize h23.next = bd at F25 gd25 obd hbdl
  clear g25 M24 F24 g24 g23 g22 F21 hq21 hq17
  refine K_join (fun e h' => ∃ (n' : Nat) (l : Env), e = [(0, ptr pp), (2, ptr h.next), (3, ptr pm), (4, ptr pe), (5, .int .i64 (f : Int))] ++ l ∧ MF h h' pp xa xc xs n' hi ta tc ty [(h.next, z13, 0), (pm, mC ta tc (.slice fa fs.length fc) tb me gl ex el (.bool false) (.int .u32 0) nilS (.slice (some ⟨bd, 0, none⟩) 2 1), 0), (bm, meC mv, 3), (pe, endC, 0)] fa fc fs pe q1) ?_ ?_
  · have M25 := F25.b.m
    refine K_reg (Wops_run rfl rfl (Wops_ld (v := .slice (some ⟨bm, 0, none⟩) 1 1) rfl M25.2.1.2 (by rw [hme]; rfl) (Wops_iaV rfl rfl ⟨by decide, by decide⟩ (Wops_run rfl rfl (Wops_ld (v := .int .u32 mv) rfl M25.2.2.1.2 rfl (Wops_run rfl rfl (K_fin [(0, _), (2, _), (3, _), (4, _), (5, _), (146, _)] rfl (?_))))))))
    refine K_cond rfl (fun _ => ?_) (fun _ => K_skip ⟨n18, _, rfl, F25⟩)
    refine K_last (Wops_run rfl rfl (Wops_ld (v := .slice (some ⟨bd, 0, none⟩) 2 1) rfl M25.2.1.2 rfl (Wops_run rfl rfl (Wops_ld (v := .slice (some ⟨bd, 0, none⟩) 2 1) rfl M25.2.1.2 rfl (Wops_run rfl rfl (Wops_ldA (l := endC) rfl M25.2.2.2.1.2 (by simp) rfl (Wops_call rfl (F25.c48 (by decide)) ?_)))))))
    rintro _ h26 ⟨r26, n26, rfl, hr26, F26, x26⟩
    have M26 := F26.b.m
    have gd26 := gd25.ext x26 fun r => by omega
    refine Wops_chk rfl rfl M26.2.1.2 (v := .slice (some ⟨bd, 0, none⟩) 2 1) rfl (by simp [sameV, sameCell]) (Wops_chk rfl rfl M26.2.1.2 (v := .slice (some ⟨bd, 0, none⟩) 2 1) rfl (by simp [sameV, sameCell]) (Wops_chkA rfl rfl M26.2.2.2.1.2 (by simp) rfl rfl (Wops_run rfl rfl (Wops_run rfl rfl ?_))))
    refine Wops_bslice (l := [.int .i64 65, .int .u32 0, .int .u32 0, _, nilS, .int .i64 0] ++ endC) rfl rfl fun h27 n27 x27 g27 => ?_
    have F27 := F26.ext0 x27
    have M27 := F27.b.m
    have gd27 := gd26.ext x27
    refine Wops_iaV rfl rfl ⟨by decide, by decide⟩ (Wops_run rfl rfl (Wops_st (l := [.int .u8 0]) rfl rfl rfl rfl gd27 (by simp) rfl fun h28 n28 x28 g28 => ?_))
    refine Wops_chkA rfl rfl (M27.2.2.2.1.2.ext x28 fun r => by omega) (by simp) rfl rfl ?_
    refine Wops_iaV rfl rfl ⟨by decide, by decide⟩ (Wops_run rfl rfl (Wops_st (l := [_]) rfl rfl rfl rfl g28 (by simp [putL]) rfl fun h29 n29 x29 g29 => ?_))
    refine K_finL [(0, _), (2, _), (3, _), (4, _), (5, _)] rfl ⟨n26, [], rfl, ?_⟩
    have x2729 := x28.trans x29
    exact F27.own x2729 (fun j r => ⟨by omega, .inl (by omega)⟩) (M27.put x2729 fun p hp r => by
      simp only [List.mem_cons, List.not_mem_nil, or_false] at hp
      rcases hp with rfl | rfl | rfl | rfl <;> simp only [] at r <;> omega)
  clear F25 gd25
  rintro e h26 ⟨n26, l26, rfl, F26⟩
  have M26 := F26.b.m
  have hq26 := F26.hq
  refine K_reg (Wops_run rfl rfl (Wops_st (l := [.bool true]) rfl rfl rfl rfl M26.2.1.2 (by simp) rfl fun h27 n27 x27 g27 => Wops_run rfl rfl (Wops_st (l := [.int .u32 2]) rfl rfl rfl rfl g27 (by simp [putL]) rfl fun h28 n28 x28 g28 => ?_)))
  replace g28 : At h28 pm (.cells (mC ta tc (.slice fa fs.length fc) tb me gl ex el (.bool true) (.int .u32 2) nilS (.slice (some ⟨bd, 0, none⟩) 2 1)) 0 false) := g28
  refine K_fin [(0, _), (2, _), (3, _), (4, _), (5, _)] rfl (?_)
  have x2628 := x27.trans x28
  obtain ⟨da, hda, cda⟩ : ∃ v : Value, v = .slice (some ⟨bd, 0, none⟩) 2 1 ∧ isCell v = true := ⟨_, rfl, rfl⟩
  have F28 : MF h h28 pp xa xc xs n26 hi ta tc ty [(h.next, z13, 0), (pm, mC ta tc (.slice fa fs.length fc) tb me gl ex el (.bool true) (.int .u32 2) nilS da, 0), (bm, meC mv, 3), (pe, endC, 0)] fa fc fs pe q1 :=
    F26.own x2628 (fun j r => ⟨by omega, .inr (by omega)⟩) ⟨⟨M26.1.1, M26.1.2.ext x2628 fun r => by omega⟩, ⟨M26.2.1.1, by rw [hda]; exact g28⟩, ⟨M26.2.2.1.1, M26.2.2.1.2.ext x2628 fun r => by omega⟩, ⟨M26.2.2.2.1.1, M26.2.2.2.1.2.ext x2628 fun r => by omega⟩, trivial⟩
  clear g28 g27 M26 F26 hda
  -- the bodies
  have hf1 : 0 < fs.length := by omega
  have hf3 : fs.length ≤ 3 := by omega
  refine K_ss (K_reg (Wops_run rfl rfl (K_fin [(0, _), (2, _), (3, _), (4, _), (5, _), (11, _)] rfl (?_))))
  refine K_sblock ?_
  refine K_loop (fun k e h' => ∃ (i n' : Nat) (ca : Option Addr) (cc : Nat) (cl : List Value), e = [(0, ptr pp), (2, ptr h.next), (3, ptr pm), (4, ptr pe), (5, .int .i64 (f : Int)), (11, .int .i64 (i : Int))] ∧ i ≤ f ∧ k = f - i ∧
      MF h h' pp xa xc xs n' hi ta tc ty [(h.next, z13, 0), (pm, mC ta tc (.slice fa fs.length fc) tb me gl ex el (.bool true) (.int .u32 2) (.slice ca i cc) da, 0), (bm, meC mv, 3), (pe, endC, 0)] fa fc fs pe q1 ∧ OwS h' 2 ca i cc cl ∧ (∀ j, Blk ca j → q1 ≤ j) ∧ Cd h' (fun q => q1 ≤ q ∧ ¬ Blk ca q) cl i) ?_ (k := f)
    ⟨0, n26, none, 0, [], rfl, Nat.zero_le _, rfl, F28, OwS.none, fun i r => absurd r Blk.none, fun j hj => by omega⟩
  clear F28 x2628 x27 x28
  rintro k e h29 ⟨i, n29, ca, cc, cl, rfl, hif, rfl, F29, oC, cb, C29⟩
  refine K_ss (K_reg (Wops_run rfl rfl (Wops_run rfl rfl (Wops_run rfl rfl (K_fin [(0, _), (2, _), (3, _), (4, _), (5, _), (11, _), (165, _)] rfl (?_))))))
  refine K_scond rfl (fun hc => ?_) (fun hc => ?_)
  · have hin : i < f := by have := of_decide_eq_true hc; omega
    have hil : i < fs.length := by omega
    have M29 := F29.b.m
    have hq29 := F29.hq
    have hj : fs[i] < 6 := hf6 _ (List.getElem_mem hil)
    obtain ⟨pa, pn, pc, ps, ra, rn, rc, rs, ht, sp, sr, pS, rS, hpn, hrn⟩ := F29.b.tys _ hj
    obtain ⟨idt, offt, vst, ezt, rot, hta, gt, hlt, hlt2, hgt⟩ := F29.b.st.at (by omega)
    have hpl : ps.length = pn := by simpa using sp.len
    have hrl : rs.length = rn := by simpa using sr.len
    have wt : (vst.drop (offt + ((fs[i] : Nat) : Int).toNat * 2)).take 2 = [.slice pa pn pc, .slice ra rn rc] := by
      rw [Int.toNat_natCast, ← ht]
      apply List.ext_getElem?
      intro q
      by_cases hq : q < 2
      · rw [List.getElem?_take_of_lt hq, List.getElem?_drop, List.getElem?_take_of_lt hq, List.getElem?_drop, Nat.add_assoc, hgt _ (by omega)]
      · rw [List.getElem?_eq_none (by simp; omega), List.getElem?_eq_none (by simp; omega)]
    refine K_sskip (K_sblock ?_)
    refine K_reg (Wops_run rfl rfl (Wops_ld (v := .slice (some ⟨idt, offt, none⟩) 6 tc) rfl M29.2.1.2 (by rw [hta]; rfl) (Wops_run rfl rfl (Wops_ld (v := .slice fa fs.length fc) rfl M29.2.1.2 rfl (Wops_run rfl rfl ?_)))))
    refine Wops_idx (u := .int .u32 (fs[i] : Int)) rfl rfl F29.sF ⟨by omega, by omega⟩ (by simp [hil]) fun _ => ?_
    refine Wops_iaV rfl rfl ⟨by omega, by omega⟩ (Wops_ldA rfl gt (by rw [Int.toNat_natCast]; omega) wt (Wops_new fun h30 n30 x30 g30 => ?_))
    refine Wops_st (l := [.slice pa pn pc, .slice ra rn rc]) rfl rfl rfl rfl g30 (by simp) rfl fun h31 n31 x31 g31 => ?_
    refine K_fin [(0, _), (2, _), (3, _), (4, _), (5, _), (11, _), (12, _)] rfl (?_)
    replace g31 : At h31 h29.next (.cells [.slice pa pn pc, .slice ra rn rc] 0 false) := g31
    refine K_reg (Wops_bslice (l := ints .u8 [127, 126, 127]) rfl rfl fun h32 n32 x32 g32 => Wops_run rfl rfl (Wops_new fun h33 n33 x33 g33 => Wops_st (l := [.slice (some ⟨h31.next, 0, none⟩) 3 1, nilS]) rfl rfl rfl rfl g33 (by simp) rfl fun h34 n34 x34 g34 => ?_))
    refine K_fin [(0, _), (2, _), (3, _), (4, _), (5, _), (11, _), (12, _), (13, _)] rfl (?_)
    replace g34 : At h34 h32.next (.cells [.slice (some ⟨h31.next, 0, none⟩) 3 1, nilS] 0 false) := g34
    have x2931 : Ext0 h29 h31 := x30.then x31 fun j r => .inr (by omega)
    have x3234 : Ext0 h32 h34 := x33.then x34 fun j r => .inr (by omega)
    have x2934 : Ext0 h29 h34 := (x2931.trans x32).trans x3234
    have sloc : SlA h34 1 (some ⟨h31.next, 0, none⟩) 3 1 (ints .u8 [127, 126, 127]) := (OwS.new (n := 3) (c := 1) g32 rfl).sl.ext x3234
    refine K_reg (Wops_run rfl rfl (Wops_bslice (l := []) rfl rfl fun h35 n35 x35 g35 => ?_))
    have g12 := (((g31.ext x32).ext x3234).ext x35)
    have g13 := g34.ext x35
    refine Wops_run rfl rfl (Wops_ld (v := .slice pa pn pc) rfl g12 rfl (Wops_run rfl rfl (Wops_ld (v := .slice (some ⟨h31.next, 0, none⟩) 3 1) rfl g13 rfl (Wops_run rfl rfl ?_))))
    refine Wops_app (m := pn) rfl rfl (OwS.new (n := 0) g35 rfl) rfl (sp.ext (x2934.trans x35)).first ⟨by omega, by omega⟩ (by simp [hpl]) (ints_cell _ _) (by decide) fun h36 a36 c36 x36 o36 b36 => ?_
    have b36' : ∀ j, Blk a36 j → h34.next ≤ j := fun j r => (b36 j r).elim (fun r => by rw [Blk.at] at r; omega) fun r => by omega
    have x3436 : Ext0 h34 h36 := x35.then x36 fun j r => .inr (by rw [Blk.at] at r; omega)
    have z36 := x3436.next
    have g12' := ((g31.ext x32).ext x3234).ext x3436
    have g13' := g34.ext x3436
    refine Wops_chk rfl rfl g13' (v := .slice (some ⟨h31.next, 0, none⟩) 3 1) rfl (by simp [sameV, sameCell]) ?_
    refine Wops_app (m := 3) rfl rfl o36 rfl (sloc.ext x3436).first ⟨by omega, by omega⟩ rfl rfl (by decide) fun h37 a37 c37 x37 o37 b37 => ?_
    have b37' : ∀ j, Blk a37 j → h34.next ≤ j := fun j r => (b37 j r).elim (b36' j) fun r => by omega
    have x2937 : Ext0 h29 h37 := (x2934.trans x3436).then x37 fun j r => .inr (by have := b36' j r; have := x2934.next; omega)
    have z37 := x37.next
    have z2937 := x2937.next
    have z2934 := x2934.next
    have z2931 := x2931.next
    refine Wops_run rfl rfl (Wops_box (cs := [ptr pp, ptr pm, .slice a37 (0 + pn + 3) c37, nilS, .int .i64 0, .int .i64 (i : Int)]) rfl rfl fun h38 n38 x38 g38 => ?_)
    refine Wops_run rfl rfl (K_fin [(0, _), (2, _), (3, _), (4, _), (5, _), (11, _), (12, _), (13, _), (14, _)] rfl (?_))
    have x2938 := x2937.trans x38
    have F38 := F29.ext0 x2938
    have M38 := F38.b.m
    have hlsl : (ps ++ [127, 126, 127]).length = 0 + pn + 3 := by rw [List.length_append, hpl]; simp
    have ppl := F38.b.pl
    -- the maker
    have m38 : Mk ⟨h37.next, pp, pm, a37, c37, ps ++ [127, 126, 127], (i : Int), xa, xc, xs, mC ta tc (.slice fa fs.length fc) tb me gl ex el (.bool true) (.int .u32 2) (.slice ca i cc) da, fa, fc, fs, ta, tc, ty, fun j => j < h37.next ∧ j ≠ pp⟩ h38 ⟨none, 0, [], 0, n29⟩ := by
      refine ⟨⟨fun j r => by have := r.1; omega, M38.2.1.2, (show pm < h37.next ∧ pm ≠ pp from ⟨by have := M29.2.1.2.lt; omega, by omega⟩), rfl, rfl, F38.sF, fun j r => ⟨by have := F38.fb j r; omega, by have := F38.fb j r; omega⟩, hf6, hf1, hf3, F38.b.st, fun j r => ⟨by have := F38.b.tS j r; omega, by have := F38.b.tS j r; omega⟩,
        F38.b.tys.mono fun j r => ⟨by have := r.2; omega, by have := r.1; omega⟩, F38.b.sx, fun j r => ⟨by have := (F38.b.xS j r).1; omega, (F38.b.xS j r).2⟩, xw, xl, ?_, fun j r => ⟨o37.lt r, by have := b37' j r; omega⟩, ?_⟩, ?_, F38.b.gp, F38.b.hn, ⟨[], OwS.none, InL.nil⟩, fun r => absurd (show h37.next < h37.next from r.1) (Nat.lt_irrefl _), fun r => r.2 rfl, ?_, fun j r => absurd r Blk.none⟩
      · show SlA h38 1 a37 (ps ++ [127, 126, 127]).length c37 (ints .u8 (ps ++ [127, 126, 127]))
        rw [hlsl, show ints .u8 (ps ++ [127, 126, 127]) = [] ++ ints .u8 ps ++ ints .u8 [127, 126, 127] by simp [ints]]
        exact (o37.ext x38).sl
      · show (ps ++ [127, 126, 127]).length ≤ 10
        rw [hlsl]; omega
      · show At h38 h37.next (.cells [ptr pp, ptr pm, .slice a37 (ps ++ [127, 126, 127]).length c37, .slice none 0 0, .int .i64 0, .int .i64 (i : Int)] 0 false)
        rw [hlsl]; exact g38
      · show h37.next ≠ pp
        omega
    obtain ⟨K, hK⟩ : ∃ K : Kt, K = ⟨h37.next, pp, pm, a37, c37, ps ++ [127, 126, 127], (i : Int), xa, xc, xs, mC ta tc (.slice fa fs.length fc) tb me gl ex el (.bool true) (.int .u32 2) (.slice ca i cc) da, fa, fc, fs, ta, tc, ty, fun j => j < h37.next ∧ j ≠ pp⟩ := ⟨_, rfl⟩
    rw [← hK] at m38
    have kk : K.pk = h37.next := by rw [hK]
    have kp : K.pp = pp := by rw [hK]
    have kx : K.xs = xs := by rw [hK]
    have G38 := Go.refl m38
    have p38 : pot K ⟨none, 0, [], 0, n29⟩ ≤ 30000 := by
      unfold pot; rw [kx]; simp only [List.length_nil]; omega
    rw [← kk, ← kp]
    refine K_reg (Wops_run rfl rfl (Wops_run rfl rfl (Wops_call rfl (G38.c48 (by decide)) ?_)))
    rintro _ h39 ⟨r39, n39, rfl, hr39, G39, hn39, hp39, hu39, hz39, x39⟩
    refine Wops_call rfl (G39.c49 (by omega) (by omega)) ?_
    rintro v40 h40 ⟨s40, G40, hn40, hp40⟩
    refine K_fin [(0, _), (2, _), (3, _), (4, _), (5, _), (11, _), (12, _), (13, _), (14, _)] rfl (?_)
    have tt : ∀ {h' : Heap} {s' : St} {st : List Bool}, Go K h38 ⟨none, 0, [], 0, n29⟩ h' s' st → Ext (fun j => j = h37.next ∨ j = pp) h38 h' := fun g => g.x.mono fun j _ r => by
      rcases r with r | r | r
      · exact .inl (by rw [r, kk])
      · exact .inr (by rw [r, kp])
      · exact absurd r Blk.none
    have g12e := (g12'.ext x37 fun r => by have := b36' _ r; omega).ext x38
    have g13e := (g13'.ext x37 fun r => by have := b36' _ r; omega).ext x38
    have sr38 := sr.ext x2938
    refine K_ss (K_reg (Wops_run rfl rfl (K_fin [(0, _), (2, _), (3, _), (4, _), (5, _), (11, _), (12, _), (13, _), (14, _), (15, _)] rfl (?_))))
    refine K_sblock ?_
    refine K_loop (fun k e h' => ∃ (j : Nat) (s1 : St), e = [(0, ptr K.pp), (2, ptr h.next), (3, ptr pm), (4, ptr pe), (5, .int .i64 (f : Int)), (11, .int .i64 (i : Int)), (12, ptr h29.next), (13, ptr h32.next), (14, ptr K.pk), (15, .int .i64 (j : Int))] ∧ j ≤ rn ∧ k = rn - j ∧ Go K h38 ⟨none, 0, [], 0, n29⟩ h' s1 [] ∧ pot K s1 ≤ 30000 + j) ?_ (k := rn)
      ⟨0, s40, rfl, Nat.zero_le _, rfl, G40, by omega⟩
    clear G40 hp40 hn40 G39 hp39 hn39 x39 hu39 hz39
    rintro k e h41 ⟨j, s41, rfl, hjr, rfl, G41, p41⟩
    have T41 := tt G41
    have z41 := T41.next
    have g12f := g12e.ext T41 fun r => by omega
    have g13f := g13e.ext T41 fun r => by omega
    refine K_ss (K_reg (Wops_run rfl rfl (Wops_run rfl rfl (Wops_ld (v := .slice ra rn rc) rfl g12f rfl (Wops_run rfl rfl (Wops_run rfl rfl (K_fin [(0, _), (2, _), (3, _), (4, _), (5, _), (11, _), (12, _), (13, _), (14, _), (15, _), (198, _)] rfl (?_))))))))
    refine K_scond rfl (fun hc => ?_) (fun hc => ?_)
    · have hjn : j < rn := by have := of_decide_eq_true hc; omega
      have hjl : j < rs.length := by omega
      have sr41 := sr38.ext T41 fun q r => by have := rS q r; omega
      refine K_sskip (K_sblock ?_)
      refine K_last (Wops_run rfl rfl (Wops_run rfl rfl (Wops_ld (v := .slice ra rn rc) rfl g12f rfl (Wops_run rfl rfl (Wops_idx (u := .int .u8 rs[j]) rfl rfl sr41 ⟨by omega, by omega⟩ (by simp [hjl]) fun _ => ?_)))))
      refine Wops_call rfl (G41.c50 (by omega)) ?_
      rintro v42 h42 ⟨s42, G42, hn42, hp42⟩
      refine K_finL [(0, _), (2, _), (3, _), (4, _), (5, _), (11, _), (12, _), (13, _), (14, _), (15, _)] rfl (?_)
      refine K_last (Wops_run rfl rfl (Wops_run rfl rfl (Wops_run rfl rfl (K_finL [(0, _), (2, _), (3, _), (4, _), (5, _), (11, _), (12, _), (13, _), (14, _), (15, _)] rfl (?_)))))
      exact ⟨rn - (j + 1), by omega, j + 1, s42, by rw [w64s (by omega)], by omega, rfl, G42, by omega⟩
    refine K_sexit (bx_same ?_)
    -- the body is done
    have hops : s41.ops.length ≤ 100100 := pot_opsB G41.m (by omega)
    obtain ⟨l41, o41, il41⟩ := G41.m.o
    obtain ⟨w41, hw41, ow41⟩ := G41.w
    have hw : s41.ops = w41 := by simpa using hw41
    have hpk : At h41 h37.next (.cells (pkC K s41) 0 false) := by rw [← kk]; exact G41.m.gk
    have oab : ∀ q, Blk s41.oa q → h38.next ≤ q := fun q r => (G41.b q r).elim (fun r => absurd r Blk.none) id
    have F41 : MF h h41 pp xa xc xs s41.n hi ta tc ty [(h.next, z13, 0), (pm, mC ta tc (.slice fa fs.length fc) tb me gl ex el (.bool true) (.int .u32 2) (.slice ca i cc) da, 0), (bm, meC mv, 3), (pe, endC, 0)] fa fc fs pe q1 := by
      have gp41 := G41.m.gp
      have hn41 := G41.m.hn
      have sx41 := G41.m.z.sx
      rw [hK] at gp41 hn41 sx41
      have hne : ∀ q, h.next ≤ q → q < h37.next → ¬ (q = h37.next ∨ q = pp) := fun q h1 h2 r => by omega
      refine ⟨⟨F38.b.x.then T41 fun q r => by rcases r with r | r; exact .inr (by omega); exact .inl r, gp41, hn41, sx41, F38.b.st.ext T41 fun q r => hne q (by have := F38.b.tS q r; omega) (by have := F38.b.tS q r; omega), F38.b.tS, F38.b.tys.ext T41 fun q r => hne q r.1 (by have := r.2; omega), F38.b.m.put T41 fun p hp r => ?_, by omega, F38.b.pl, F38.b.xS, xw, xl⟩, F38.sF.ext T41 fun q r => hne q (by have := F38.fb q r; omega) (by have := F38.fb q r; omega), F38.fb, by omega, F38.o, F38.o2⟩
      simp only [List.mem_cons, List.not_mem_nil, or_false] at hp
      rcases hp with rfl | rfl | rfl | rfl <;> simp only [] at r <;> omega
    have M41 := F41.b.m
    have hne : ∀ q, q1 ≤ q → q < h37.next → ¬ (q = h37.next ∨ q = pp) := fun q h1 h2 r => by omega
    have oC41 := (oC.ext x2938).ext T41 fun q r => hne q (cb q r) (by have := oC.lt r; omega)
    have C41 := ((C29.ext x2938 fun q _ r => r).mono (T := fun q => q1 ≤ q ∧ ¬ Blk ca q) fun q _ r => r)
    have C41' : Cd h41 (fun q => q1 ≤ q ∧ ¬ Blk ca q) cl i := fun j hj => by
      obtain ⟨ls, ba, bn, bc, l, w, q1', q2, q3, q4⟩ := C29 j hj
      exact ⟨ls, ba, bn, bc, l, w, q1', (q2.ext x2938).ext T41 fun q r => hne q (q4 q r).1 (by have := q2.lt q r; omega), q3, q4⟩
    refine K_reg (Wops_run rfl rfl (Wops_run rfl rfl (Wops_run rfl rfl (Wops_ld (v := .slice s41.oa s41.ops.length s41.oc) rfl G41.m.gk rfl (Wops_ldA (l := endC) rfl M41.2.2.2.1.2 (by simp) rfl ?_)))))
    refine Wops_bslice (l := endC) rfl rfl fun h42 n42 x42 g42 => ?_
    refine Wops_app (m := 1) rfl rfl (o41.ext x42) rfl (OwS.new (n := 1) (c := 1) g42 rfl).sl.first ⟨by omega, by omega⟩ rfl rfl (by decide) fun h43 a43 c43 x43 o43 b43 => ?_
    have b43' : ∀ q, Blk a43 q → h38.next ≤ q := fun q r => (b43 q r).elim (oab q) fun r => by omega
    have F42 := F41.ext0 x42
    have M42 := F42.b.m
    have F43 := F42.own x43 (fun q r => ⟨by have := oab q r; omega, .inl (by have := oab q r; omega)⟩) (M42.put x43 fun p hp r => by
      have := oab _ r
      simp only [List.mem_cons, List.not_mem_nil, or_false] at hp
      rcases hp with rfl | rfl | rfl | rfl <;> simp only [] at this <;> omega)
    have g13g := (g13f.ext x42).ext x43 fun r => by have := oab _ r; omega
    refine Wops_run rfl rfl (Wops_st (l := [.slice a43 (s41.ops.length + 1) c43]) rfl rfl rfl rfl g13g (by simp) rfl fun h44 n44 x44 g44 => ?_)
    refine K_fin [(0, _), (2, _), (3, _), (4, _), (5, _), (11, _), (13, _)] rfl (?_)
    replace g44 : At h44 h32.next (.cells [.slice (some ⟨h31.next, 0, none⟩) 3 1, .slice a43 (s41.ops.length + 1) c43] 0 false) := g44
    have M43 := F43.b.m
    have F44 := F43.own x44 (fun q r => ⟨by omega, .inl (by omega)⟩) (M43.put x44 fun p hp r => by
      simp only [List.mem_cons, List.not_mem_nil, or_false] at hp
      rcases hp with rfl | rfl | rfl | rfl <;> simp only [] at r <;> omega)
    have I44 : Ins h44 a43 (s41.ops.length + 1) c43 (l41 ++ endC) (w41 ++ [11]) := by
      have il := il41.app (InL.one (o := 11) (a := .int .u32 0) (b := .int .u32 0) (c := .int .u64 0) (d := .slice none 0 0) (e := .int .i64 0) rfl)
      rw [hw] at il
      have o44 := o43.ext x44 fun q r e => by have := b43' q r; omega
      refine ⟨o44.sl, by rw [List.length_append, hw]; simp, il.op, il.cell, by omega, fun q r => o44.lt r⟩
    have oC44 := ((oC41.ext x42).ext x43 fun q r e => by have := oab q e; have := oC.lt r; omega).ext x44 fun q r e => by have := oC.lt r; omega
    have C44 : Cd h44 (fun q => q1 ≤ q ∧ ¬ Blk ca q) cl i := fun j hj => by
      obtain ⟨ls, ba, bn, bc, l, w, q1', q2, q3, q4⟩ := C41' j hj
      obtain ⟨_, _, _, _, _, _, q1'', q2', _, _⟩ := C29 j hj
      have hlt : ∀ q, Blk ba q → q < h29.next := by
        intro q r
        have e1 := q1'.symm.trans q1''
        simp only [List.cons.injEq, Value.slice.injEq] at e1
        exact q2'.lt q (by rw [← e1.2.1.1]; exact r)
      exact ⟨ls, ba, bn, bc, l, w, q1', ((q2.ext x42).ext x43 fun q r e => by have := oab q e; have := hlt q r; omega).ext x44 fun q r e => by have := hlt q r; omega, q3, q4⟩
    have M44 := F44.b.m
    refine K_last (Wops_run rfl rfl (Wops_ld (v := .slice ca i cc) rfl M44.2.1.2 rfl (Wops_ldA (l := [.slice (some ⟨h31.next, 0, none⟩) 3 1, .slice a43 (s41.ops.length + 1) c43]) rfl g44 (by simp) rfl ?_)))
    refine Wops_bslice (l := [.slice (some ⟨h31.next, 0, none⟩) 3 1, .slice a43 (s41.ops.length + 1) c43]) rfl rfl fun h45 n45 x45 g45 => ?_
    refine Wops_app (m := 1) rfl rfl (oC44.ext x45) rfl (OwS.new (n := 1) (c := 1) g45 rfl).sl.first ⟨by omega, by omega⟩ rfl rfl (by decide) fun h46 ca' cc' x46 oC46 bC46 => ?_
    have F45 := F44.ext0 x45
    have M45 := F45.b.m
    have F46 := F45.own x46 (fun q r => ⟨by have := cb q r; omega, .inl (cb q r)⟩) (M45.put x46 fun p hp r => by
      have := cb _ r
      simp only [List.mem_cons, List.not_mem_nil, or_false] at hp
      rcases hp with rfl | rfl | rfl | rfl <;> simp only [] at this <;> omega)
    have M46 := F46.b.m
    have bC46' : ∀ q, Blk ca' q → q1 ≤ q := fun q r => (bC46 q r).elim (cb q) fun r => by have := F45.hq; omega
    refine Wops_run rfl rfl (Wops_st (l := [.slice ca' (i + 1) cc']) rfl rfl rfl rfl M46.2.1.2 (by simp) rfl fun h47 n47 x47 g47 => ?_)
    replace g47 : At h47 pm (.cells (mC ta tc (.slice fa fs.length fc) tb me gl ex el (.bool true) (.int .u32 2) (.slice ca' (i + 1) cc') da) 0 false) := g47
    refine K_finL [(0, _), (2, _), (3, _), (4, _), (5, _), (11, _)] rfl (?_)
    refine K_last (Wops_run rfl rfl (Wops_run rfl rfl (Wops_run rfl rfl (K_finL [(0, _), (2, _), (3, _), (4, _), (5, _), (11, _)] rfl (?_)))))
    have a43ca : ∀ q, Blk a43 q → ¬ Blk ca q := fun q r e => by have := b43' q r; have := oC.lt e; omega
    have C44s := (C44.snoc (ls := .slice (some ⟨h31.next, 0, none⟩) 3 1) (by have := oC.sl.len; omega) I44 (by rw [← hw]; exact hw ▸ ow41) fun q r => ⟨by have := b43' q r; omega, a43ca q r⟩)
    have C46 : Cd h46 (fun q => q1 ≤ q ∧ ¬ Blk ca' q) (cl ++ [.slice (some ⟨h31.next, 0, none⟩) 3 1, .slice a43 (s41.ops.length + 1) c43]) (i + 1) := by
      refine fun j hj => ?_
      obtain ⟨ls, ba, bn, bc, l, w, q1', q2, q3, q4⟩ := C44s j hj
      exact ⟨ls, ba, bn, bc, l, w, q1', (q2.ext x45).ext x46 fun q r => (q4 q r).2, q3, fun q r => ⟨(q4 q r).1, fun e => (bC46 q e).elim (q4 q r).2 fun e => by have := q2.lt q r; omega⟩⟩
    refine ⟨f - (i + 1), by omega, i + 1, s41.n, ca', cc', _, by rw [w64s (by omega), kp], by omega, rfl, (by rw [kp]; exact F46.own (L' := [(h.next, z13, 0), (pm, mC ta tc (.slice fa fs.length fc) tb me gl ex el (.bool true) (.int .u32 2) (.slice ca' (i + 1) cc') da, 0), (bm, meC mv, 3), (pe, endC, 0)]) x47 (fun q r => ⟨by omega, .inr (by omega)⟩) ⟨⟨M46.1.1, M46.1.2.ext x47 fun r => by omega⟩, ⟨M46.2.1.1, g47⟩, ⟨M46.2.2.1.1, M46.2.2.1.2.ext x47 fun r => by omega⟩, ⟨M46.2.2.2.1.1, M46.2.2.2.1.2.ext x47 fun r => by omega⟩, trivial⟩), oC46.ext x47 (fun q r e => by have := bC46' q r; omega), bC46', C46.ext x47 fun q r e => by have := r.1; omega⟩
  -- all of it
  have hie : i = f := by have := of_decide_eq_false hc; omega
  subst hie
  refine K_sexit (bx_same ?_)
  have M29 := F29.b.m
  have hq29 := F29.hq
  refine K_reg (Wops_ldA (l := mC ta tc (.slice fa fs.length fc) tb me gl ex el (.bool true) (.int .u32 2) (.slice ca i cc) da) rfl M29.2.1.2 (by simp) rfl (Wops_st (l := mC ta tc (.slice fa fs.length fc) tb me gl ex el (.bool true) (.int .u32 2) (.slice ca i cc) da) rfl rfl rfl rfl M29.1.2 (by simp) ?_ fun h30 n30 x30 g30 => ?_))
  · rw [htb, hme]; simp only [List.all_cons, List.all_nil, cgl, cex, cel, cda]; rfl
  refine K_fin [(2, _)] rfl (?_)
  have x30' : Ext (· = pp) h h30 := F29.b.x.then x30 fun q r => .inr (by omega)
  refine K_ret (Told.mk _ (resL_cons (res_c (l := mC ta tc (.slice fa fs.length fc) tb me gl ex el (.bool true) (.int .u32 2) (.slice ca i cc) da) rfl g30 (by simp [putL]) (by rfl)) rfl) ?_)
  refine ⟨_, ca, i, cc, cl, rfl, rfl, by rw [htb, hme]; simp only [List.all_cons, List.all_nil, cgl, cex, cel, cda]; rfl, rfl, oC.sl.ext x30 (fun q r e => by have := cb q r; omega), by omega, by omega, x30', fun j hj => ?_⟩
  obtain ⟨ls, ba, bn, bc, l, w, q1', q2, q3, q4⟩ := C29 j hj
  exact ⟨ls, ba, bn, bc, l, w, q1', q2.ext x30 fun q r e => by have := (q4 q r).1; omega, q3⟩

end
section
/- Made modules: plain law: blocks of what is shut lie within blocks, or apart. -/
set_option linter.unusedVariables false
set_option linter.unusedSimpArgs false

/-- Instructions whose blocks are all shut. -/
inductive Bal : List Int → Prop
  | nil : Bal []
  | app {u v : List Int} : Bal u → Bal v → Bal (u ++ v)
  | plain {x : Int} : Plain x → Bal [x]
  | blk {x : Int} {u : List Int} : x = 2 ∨ x = 3 ∨ x = 4 → Bal u → Bal ([x] ++ u ++ [11])
  | iff {u v : List Int} : Bal u → Bal v → Bal ([4] ++ u ++ [5] ++ v ++ [11])
/-- Taken apart at what is open. -/
def Dec : List Bool → List Int → Prop
  | [], w => Bal w
  | true :: st, w => ∃ u v, w = u ++ [4] ++ v ∧ Dec st u ∧ Bal v
  | false :: st, w => ∃ u v x, w = u ++ x ++ v ∧ Dec st u ∧ Bal v ∧ ∀ z, Bal z → Bal (x ++ z ++ [11])
theorem Dec.app : ∀ {st : List Bool} {w z : List Int}, Dec st w → Bal z → Dec st (w ++ z)
  | [], w, z, h, b => Bal.app h b
  | true :: st, w, z, ⟨u, v, e, d, c⟩, b => ⟨u, v ++ z, by rw [e]; simp, d, .app c b⟩
  | false :: st, w, z, ⟨u, v, x, e, d, c, f⟩, b => ⟨u, v ++ z, x, by rw [e]; simp, d, .app c b, f⟩
theorem dec_of {st : List Bool} {w : List Int} (h : Opn st w) : Dec st w := by
  induction h with
  | nil => exact .nil
  | plain _ hx ih => exact ih.app (.plain hx)
  | @blk st w x _ hx ih =>
    exact ⟨w, [], [x], by simp, ih, .nil, fun z hz => .blk (hx.elim .inl fun h => .inr (.inl h)) hz⟩
  | @iff st w _ ih => exact ⟨w, [], by simp, ih, .nil⟩
  | @els st w _ ih =>
    obtain ⟨u, v, e, d, c⟩ := ih
    exact ⟨u, [], [4] ++ v ++ [5], by rw [e]; simp, d, .nil, fun z hz => by have := Bal.iff c hz; simpa using this⟩
  | @shut b st w _ ih =>
    cases b with
    | true =>
      obtain ⟨u, v, e, d, c⟩ := ih
      have := d.app (Bal.blk (x := 4) (.inr (.inr rfl)) c)
      rw [e]; simpa using this
    | false =>
      obtain ⟨u, v, x, e, d, c, f⟩ := ih
      have := d.app (f v c)
      rw [e]; simpa using this
  | app _ _ ih1 ih2 => exact ih1.app ih2

theorem getM_put {k k' : Nat} {v : Int × Int} : ∀ {es : Bl}, getM k (putM k' v es) = if k = k' then some v else getM k es
  | [] => by
    show (if k = k' then some v else none) = _
    rfl
  | (j, w) :: r => by
    rw [putM_cons]
    by_cases h : k' = j
    · subst h
      rw [if_pos rfl, getM_cons, getM_cons]
      by_cases hk : k = k'
      · rw [if_pos hk, if_pos hk]
      · rw [if_neg hk, if_neg hk, if_neg hk]
    · rw [if_neg h, getM_cons, getM_cons, getM_put]
      by_cases hj : k = j
      · rw [if_pos hj, if_pos hj, if_neg (fun e => h (by rw [← e, hj]))]
      · rw [if_neg hj, if_neg hj]
theorem putM_len_new {k : Nat} {v : Int × Int} : ∀ {es : Bl}, getM k es = none → (putM k v es).length = es.length + 1
  | [], _ => rfl
  | (j, w) :: r, h => by
    rw [getM_cons] at h
    rw [putM_cons]
    by_cases hk : k = j
    · rw [if_pos hk] at h; cases h
    · rw [if_neg hk] at h ⊢
      simp only [List.length_cons, putM_len_new h]
theorem putM_len_old {k : Nat} {v b : Int × Int} : ∀ {es : Bl}, getM k es = some b → (putM k v es).length = es.length
  | [], h => by cases h
  | (j, w) :: r, h => by
    rw [getM_cons] at h
    rw [putM_cons]
    by_cases hk : k = j
    · rw [if_pos hk]; rfl
    · rw [if_neg hk] at h ⊢
      simp only [List.length_cons, putM_len_old h]

def opens (x : Int) : Bool := decide (2 ≤ x ∧ x ≤ 4)
/-- Blocks that lie in a stretch: each within it, with what lies in it within it. -/
def Nst (ops : List Int) (es : Bl) (a b : Nat) : Prop :=
  ∀ i, a ≤ i → i < b → ((getM i es).isSome = opens (ops.getD i 0)) ∧ ∀ el en, getM i es = some (el, en) → (i : Int) < en ∧ en < (b : Int) ∧ ops.getD en.toNat 0 = 11 ∧
    (0 ≤ el → (i : Int) < el ∧ el < en ∧ ops.getD el.toNat 0 = 5 ∧ ops.getD i 0 = 4) ∧ ∀ (k : Nat) el' en', i < k → (k : Int) < en → getM k es = some (el', en') → en' < en
theorem Nst.cong {ops : List Int} {es es' : Bl} {a b : Nat} (n : Nst ops es a b) (h : ∀ k, a ≤ k → k < b → getM k es' = getM k es) : Nst ops es' a b := fun i hi hb => by
  obtain ⟨h1, h2⟩ := n i hi hb
  rw [h i hi hb]
  refine ⟨h1, fun el en he => ?_⟩
  obtain ⟨q1, q2, q3, q4, q5⟩ := h2 el en he
  exact ⟨q1, q2, q3, q4, fun k el' en' hk hke hg => q5 k el' en' hk hke (by rw [← h k (by omega) (by omega)]; exact hg)⟩
theorem Nst.join {ops : List Int} {es : Bl} {a b c : Nat} (n : Nst ops es a b) (m : Nst ops es b c) (hbc : b ≤ c) : Nst ops es a c := fun i hi hc => by
  by_cases hb : i < b
  · obtain ⟨h1, h2⟩ := n i hi hb
    exact ⟨h1, fun el en he => by obtain ⟨q1, q2, q3⟩ := h2 el en he; exact ⟨q1, by omega, q3⟩⟩
  · exact m i (by omega) hc
theorem Nst.nil {ops : List Int} {es : Bl} {a : Nat} : Nst ops es a a := fun i h1 h2 => by omega
theorem Nst.one {ops : List Int} {es : Bl} {a : Nat} (h : getM a es = none) (ho : opens (ops.getD a 0) = false) : Nst ops es a (a + 1) := fun i h1 h2 => by
  obtain rfl : i = a := by omega
  exact ⟨by rw [h, ho]; rfl, fun el en he => by rw [h] at he; cases he⟩
/-- Words stand there. -/
def Sits (ops : List Int) (i : Nat) (w : List Int) : Prop := ∀ j, j < w.length → ops.getD (i + j) 0 = w.getD j 0
theorem Sits.left {ops : List Int} {i : Nat} {u v : List Int} (h : Sits ops i (u ++ v)) : Sits ops i u := fun j hj => by
  rw [h j (by rw [List.length_append]; omega)]
  simp only [List.getD_eq_getElem?_getD]; rw [List.getElem?_append_left hj]
theorem Sits.right {ops : List Int} {i : Nat} {u v : List Int} (h : Sits ops i (u ++ v)) : Sits ops (i + u.length) v := fun j hj => by
  have := h (u.length + j) (by rw [List.length_append]; omega)
  rw [Nat.add_assoc, this]
  simp only [List.getD_eq_getElem?_getD]; rw [List.getElem?_append_right (by omega), show u.length + j - u.length = j by omega]
theorem Sits.one {ops : List Int} {i : Nat} {x : Int} (h : Sits ops i [x]) : ops.getD i 0 = x := h 0 (by simp)
def cnt (w : List Int) : Nat := w.countP opens

/-- What comes of shut instructions. -/
theorem bal_run {w : List Int} (hw : Bal w) : ∀ (ops : List Int) (i : Nat) (st : List Nat) (es : Bl), Sits ops i w → i + w.length < ops.length → rfS ops i = .inl (st, es) → (∀ k, i ≤ k → getM k es = none) →
    ∃ es', rfS ops (i + w.length) = .inl (st, es') ∧ (∀ k, k < i → getM k es' = getM k es) ∧ (∀ k, i + w.length ≤ k → getM k es' = none) ∧ Nst ops es' i (i + w.length) ∧ es'.length = es.length + cnt w := by
  have plainOp : ∀ {x : Int}, Plain x → opens x = false := fun {x} h => by
    unfold opens; unfold Plain at h
    exact decide_eq_false (by omega)
  have stepP : ∀ {ops : List Int} {i : Nat} {st : List Nat} {es : Bl} {x : Int}, ops.getD i 0 = x → Plain x → rfS ops i = .inl (st, es) → rfS ops (i + 1) = .inl (st, es) := by
    intro ops i st es x hx hp hr
    unfold Plain at hp
    simp only [rfS, hr]
    unfold refOne
    rw [hx, if_neg (by omega), if_neg (by omega), if_neg (by omega)]
  have stepO : ∀ {ops : List Int} {i : Nat} {st : List Nat} {es : Bl} {x : Int}, ops.getD i 0 = x → (x = 2 ∨ x = 3 ∨ x = 4) → rfS ops i = .inl (st, es) → rfS ops (i + 1) = .inl (st ++ [i], putM i (-1, -1) es) := by
    intro ops i st es x hx hp hr
    simp only [rfS, hr]
    unfold refOne
    rw [hx, if_pos hp]
  have stepE : ∀ {ops : List Int} {i k : Nat} {st : List Nat} {es : Bl} {z : Int}, ops.getD i 0 = 5 → ops.getD k 0 = 4 → getM k es = some (-1, z) → rfS ops i = .inl (st ++ [k], es) → rfS ops (i + 1) = .inl (st ++ [k], putM k ((i : Int), z) es) := by
    intro ops i k st es z hx hk hg hr
    simp only [rfS, hr]
    unfold refOne
    rw [hx, if_neg (by omega), if_pos rfl, List.getLast?_append]
    rw [List.getD_eq_getElem?_getD] at hk
    simp [hk, hg]
  have stepC : ∀ {ops : List Int} {i k : Nat} {st : List Nat} {es : Bl} {y z : Int}, ops.getD i 0 = 11 → getM k es = some (y, z) → rfS ops i = .inl (st ++ [k], es) → rfS ops (i + 1) = .inl (st, putM k (y, (i : Int)) es) := by
    intro ops i k st es y z hx hg hr
    simp only [rfS, hr]
    unfold refOne
    rw [hx, if_neg (by omega), if_neg (by omega), if_pos rfl, List.getLast?_append]
    simp [hg]
  induction hw with
  | nil => exact fun ops i st es _ _ hr hn => ⟨es, hr, fun k _ => rfl, fun k hk => hn k hk, Nst.nil, rfl⟩
  | @app u v _ _ ih1 ih2 =>
    intro ops i st es hs hl hr hn
    rw [List.length_append] at hl ⊢
    obtain ⟨e1, r1, a1, b1, n1, c1⟩ := ih1 ops i st es hs.left (by omega) hr hn
    obtain ⟨e2, r2, a2, b2, n2, c2⟩ := ih2 ops (i + u.length) st e1 hs.right (by omega) r1 b1
    refine ⟨e2, by rw [← Nat.add_assoc]; exact r2, fun k hk => by rw [a2 k (by omega), a1 k hk], fun k hk => b2 k (by omega), ?_, by unfold cnt at c1 c2 ⊢; rw [List.countP_append]; omega⟩
    rw [← Nat.add_assoc]
    exact (n1.cong fun k _ hk => a2 k hk).join n2 (by omega)
  | @plain x hx =>
    intro ops i st es hs hl hr hn
    have hx' := hs.one
    refine ⟨es, stepP hx' hx hr, fun k _ => rfl, fun k hk => hn k (by omega), Nst.one (hn i (Nat.le_refl _)) (by rw [hx']; exact plainOp hx), ?_⟩
    unfold cnt; simp [plainOp hx]
  | @blk x u hx _ ih =>
    intro ops i st es hs hl hr hn
    have hlen : ([x] ++ u ++ [11]).length = u.length + 2 := by simp
    rw [hlen] at hl ⊢
    have hx' := hs.left.left.one
    have hsu : Sits ops (i + 1) u := hs.left.right
    have h11 : ops.getD (i + 1 + u.length) 0 = 11 := by have := hs.right.one; simpa [Nat.add_assoc, Nat.add_comm 1] using this
    have r1 := stepO hx' hx hr
    obtain ⟨e2, r2, a2, b2, n2, c2⟩ := ih ops (i + 1) (st ++ [i]) _ hsu (by omega) r1 (fun k hk => by rw [getM_put, if_neg (by omega)]; exact hn k (by omega))
    have gi : getM i e2 = some (-1, -1) := by rw [a2 i (by omega), getM_put, if_pos rfl]
    have r3 := stepC h11 gi r2
    have ho : opens x = true := by unfold opens; exact decide_eq_true (by omega)
    refine ⟨_, by rw [show i + (u.length + 2) = i + 1 + u.length + 1 by omega]; exact r3, fun k hk => by rw [getM_put, if_neg (by omega), a2 k (by omega), getM_put, if_neg (by omega)], fun k hk => by rw [getM_put, if_neg (by omega)]; exact b2 k (by omega), ?_, ?_⟩
    · intro j hj1 hj2
      rcases Nat.eq_or_lt_of_le hj1 with rfl | hj1
      · rw [getM_put, if_pos rfl, hx', ho]
        refine ⟨rfl, fun el en he => ?_⟩
        simp only [Option.some.injEq, Prod.mk.injEq] at he
        obtain ⟨rfl, rfl⟩ := he
        refine ⟨by omega, by omega, by rw [Int.toNat_natCast]; exact h11, fun h => by omega, fun k el' en' hk hke hg => ?_⟩
        rw [getM_put, if_neg (by omega)] at hg
        have := (n2 k (by omega) (by omega)).2 el' en' hg
        omega
      · have hje : getM j (putM i (-1, ((i + 1 + u.length : Nat) : Int)) e2) = getM j e2 := by rw [getM_put, if_neg (by omega)]
        rw [hje]
        by_cases hj : j < i + 1 + u.length
        · obtain ⟨q1, q2⟩ := n2 j (by omega) hj
          refine ⟨q1, fun el en he => ?_⟩
          obtain ⟨p1, p2, p3, p4, p5⟩ := q2 el en he
          exact ⟨p1, by omega, p3, p4, fun k el' en' hk hke hg => p5 k el' en' hk hke (by rw [getM_put, if_neg (by omega)] at hg; exact hg)⟩
        · obtain rfl : j = i + 1 + u.length := by omega
          rw [b2 _ (Nat.le_refl _), h11]
          exact ⟨rfl, fun el en he => by cases he⟩
    · rw [putM_len_old gi, c2, putM_len_new (hn i (Nat.le_refl _))]
      unfold cnt
      simp only [List.countP_append, List.countP_cons, List.countP_nil, ho]
      simp [opens]; omega
  | @iff u v _ _ ih1 ih2 =>
    intro ops i st es hs hl hr hn
    have hlen : ([4] ++ u ++ [5] ++ v ++ [11]).length = u.length + v.length + 3 := by simp; omega
    rw [hlen] at hl ⊢
    have hx' := hs.left.left.left.left.one
    have hsu : Sits ops (i + 1) u := hs.left.left.left.right
    have h5 : ops.getD (i + 1 + u.length) 0 = 5 := by have := hs.left.left.right.one; simpa [Nat.add_assoc, Nat.add_comm 1] using this
    have hsv : Sits ops (i + 1 + u.length + 1) v := by have := hs.left.right; simpa [Nat.add_assoc, Nat.add_comm 1] using this
    have h11 : ops.getD (i + 1 + u.length + 1 + v.length) 0 = 11 := by
      have := hs.right.one
      have e : i + ([4] ++ u ++ [5] ++ v).length = i + 1 + u.length + 1 + v.length := by simp; omega
      rw [e] at this
      exact this
    have r1 := stepO hx' (.inr (.inr rfl)) hr
    obtain ⟨e2, r2, a2, b2, n2, c2⟩ := ih1 ops (i + 1) (st ++ [i]) _ hsu (by omega) r1 (fun k hk => by rw [getM_put, if_neg (by omega)]; exact hn k (by omega))
    have gi : getM i e2 = some (-1, -1) := by rw [a2 i (by omega), getM_put, if_pos rfl]
    have r3 := stepE h5 hx' gi r2
    obtain ⟨e4, r4, a4, b4, n4, c4⟩ := ih2 ops (i + 1 + u.length + 1) (st ++ [i]) _ hsv (by omega) r3 (fun k hk => by rw [getM_put, if_neg (by omega)]; exact b2 k (by omega))
    have gi4 : getM i e4 = some (((i + 1 + u.length : Nat) : Int), -1) := by rw [a4 i (by omega), getM_put, if_pos rfl]
    have r5 := stepC h11 gi4 r4
    refine ⟨_, by rw [show i + (u.length + v.length + 3) = i + 1 + u.length + 1 + v.length + 1 by omega]; exact r5, fun k hk => by rw [getM_put, if_neg (by omega), a4 k (by omega), getM_put, if_neg (by omega), a2 k (by omega), getM_put, if_neg (by omega)], fun k hk => by rw [getM_put, if_neg (by omega)]; exact b4 k (by omega), ?_, ?_⟩
    · have n2' : Nst ops e4 (i + 1) (i + 1 + u.length) := n2.cong fun k h1 h2 => by rw [a4 k (by omega), getM_put, if_neg (by omega)]
      have g5 : getM (i + 1 + u.length) e4 = none := by rw [a4 _ (by omega), getM_put, if_neg (by omega)]; exact b2 _ (Nat.le_refl _)
      have n5 : Nst ops e4 (i + 1 + u.length) (i + 1 + u.length + 1) := Nst.one g5 (by rw [h5]; rfl)
      have nin : Nst ops e4 (i + 1) (i + 1 + u.length + 1 + v.length) := (n2'.join n5 (by omega)).join n4 (by omega)
      intro j hj1 hj2
      rcases Nat.eq_or_lt_of_le hj1 with rfl | hj1
      · rw [getM_put, if_pos rfl, hx']
        refine ⟨rfl, fun el en he => ?_⟩
        simp only [Option.some.injEq, Prod.mk.injEq] at he
        obtain ⟨rfl, rfl⟩ := he
        refine ⟨by omega, by omega, by rw [Int.toNat_natCast]; exact h11, fun h => ⟨by omega, by omega, by rw [Int.toNat_natCast]; exact h5, rfl⟩, fun k el' en' hk hke hg => ?_⟩
        rw [getM_put, if_neg (by omega)] at hg
        have := (nin k (by omega) (by omega)).2 el' en' hg
        omega
      · rw [getM_put, if_neg (by omega)]
        by_cases hj : j < i + 1 + u.length + 1 + v.length
        · obtain ⟨q1, q2⟩ := nin j (by omega) hj
          refine ⟨q1, fun el en he => ?_⟩
          obtain ⟨p1, p2, p3, p4, p5⟩ := q2 el en he
          exact ⟨p1, by omega, p3, p4, fun k el' en' hk hke hg => p5 k el' en' hk hke (by rw [getM_put, if_neg (by omega)] at hg; exact hg)⟩
        · obtain rfl : j = i + 1 + u.length + 1 + v.length := by omega
          rw [b4 _ (Nat.le_refl _), h11]
          exact ⟨rfl, fun el en he => by cases he⟩
    · rw [putM_len_old gi4, c4, putM_len_old gi, c2, putM_len_new (hn i (Nat.le_refl _))]
      unfold cnt
      simp only [List.countP_append, List.countP_cons, List.countP_nil]
      simp [opens]; omega

/-- A body's blocks. -/
theorem body_run {w : List Int} (h : Opn [] w) : ∃ es, refB (w ++ [11]) = some es ∧ Nst (w ++ [11]) es 0 w.length ∧ (∀ k, w.length ≤ k → getM k es = none) ∧ es.length = cnt w := by
  have hb : Bal w := dec_of h
  have hs : Sits (w ++ [11]) 0 w := fun j hj => by
    simp only [List.getD_eq_getElem?_getD, Nat.zero_add]; rw [List.getElem?_append_left hj]
  obtain ⟨es, r, a, b, n, c⟩ := bal_run hb (w ++ [11]) 0 [] [] hs (by simp) rfl fun k _ => rfl
  rw [Nat.zero_add] at r b n
  refine ⟨es, ?_, n, b, by simpa using c⟩
  have h11 : (w ++ [11]).getD w.length 0 = 11 := by simp
  have hr : rfS (w ++ [11]) (w ++ [11]).length = .inr (some es) := by
    have e : (w ++ [11]).length = w.length + 1 := by simp
    rw [e]
    simp only [rfS, r]
    unfold refOne
    rw [h11, if_neg (by omega), if_neg (by omega), if_pos rfl]
    simp
  unfold refB
  rw [hr]

end
section
/- CtrlMade: the walk, its argument. -/
set_option linter.unusedVariables false
set_option linter.unusedSimpArgs false

theorem code_cell {vs cl : List Value} {off i cn : Nat} {a b : Value} (hg : ∀ j, j < cn * 2 → vs[off + j]? = cl[j]?) (hi : i < cn) (ht : (cl.drop (i * 2)).take 2 = [a, b]) : vs[off + (i : Int).toNat * 2 + 1]? = some b := by
  rw [Int.toNat_natCast, Nat.add_assoc, hg _ (by omega)]
  have h1 : ((cl.drop (i * 2)).take 2)[1]? = some b := by rw [ht]; rfl
  rw [List.getElem?_take_of_lt (by decide), List.getElem?_drop] at h1
  exact h1

set_option maxHeartbeats 4000000 in
/-- CtrlMade -/
theorem C8 {h0 : Heap} {a : Option Addr} {n c : Nat} {xs : List Int} (s : InS h0 a n c (ints .u8 xs)) (hx : ∀ x ∈ xs, 0 ≤ x ∧ x ≤ 255) : Fn Try.prog 8 [.slice a n c] h0 fun v _ => v = .bool true := by
  have hxn : xs.length = n := by simpa using s.sl.len
  subst hxn
  refine fnK F8.fok rfl ?_
  refine K_reg (Wops_run rfl rfl (K_fin [(0, _)] rfl (?_)))
  refine K_ss (K_reg (Wops_call rfl C22 ?_))
  rintro _ _ ⟨rfl, rfl⟩
  refine Wops_run rfl rfl (K_fin [(0, _), (10, _)] rfl (?_))
  refine K_scond rfl (fun hc => by cases hc) (fun _ => ?_)
  refine K_sskip (K_ss (K_reg (Wops_run rfl rfl (Wops_run rfl rfl (Wops_run rfl rfl (K_fin [(0, _), (13, _)] rfl (?_)))))))
  refine K_scond rfl (fun hc => ?_) (fun hc => ?_)
  · refine K_ss (K_reg (Wops_run rfl rfl (K_fin [(2, _)] rfl (?_))))
    exact K_sret (Told.mk _ rfl rfl)
  have hn150 : xs.length ≤ 150 := by have := of_decide_eq_false hc; omega
  refine K_sskip (K_reg (Wops_run rfl rfl (Wops_call rfl C28 ?_)))
  rintro _ h1 ⟨rfl, g1, x1⟩
  have z1 := x1.next
  have l1 := g1.lt
  refine Wops_call rfl (C29 g1 (s.sl.ext x1) hx (by omega) fun i r => ⟨by have := s.lt i r; omega, by have := s.lt i r; omega⟩) ?_
  rintro _ h2 ⟨mc, ca, cn, cc, cl, rfl, ml, mcell, m11, sC, c0, c3, x2, hC⟩
  refine Wops_new fun h3 n3 x3 g3 => Wops_st (l := mc) rfl rfl rfl (by rw [ml]) g3 (by simp) mcell fun h4 n4 x4 g4 => K_fin [(3, _)] rfl (?_)
  have hput : putL z13 0 mc = mc := by
    match mc, ml with
    | [_, _, _, _, _, _, _, _, _, _, _, _, _], _ => rfl
  replace g4 : At h4 h2.next (.cells mc 0 false) := by
    have : h4.get h2.next = some (.cells (putL z13 0 mc) 0 false) := g4
    rw [hput] at this; exact this
  have x24 : Ext0 h2 h4 := x3.then x4 fun i r => .inr (by omega)
  have sC4 := sC.ext x24
  obtain ⟨idc, offc, vsc, ezc, roc, hca, gc, hlc, _, hgc⟩ := sC4.at c0
  subst hca
  refine K_ss (K_reg (Wops_run rfl rfl (K_fin [(3, _), (4, _)] rfl (?_))))
  refine K_sblock ?_
  refine K_loop (fun k e h' => ∃ i : Nat, e = [(3, ptr h2.next), (4, .int .i64 (i : Int))] ∧ i ≤ cn ∧ k = cn - i ∧ Ext0 h4 h') ?_ (k := cn) ⟨0, rfl, Nat.zero_le _, rfl, Ext.refl _ _⟩
  rintro k e h5 ⟨i, rfl, hi, rfl, x5⟩
  have g5 := g4.ext x5
  have gc5 := gc.ext x5
  have sC5 := sC4.ext x5
  refine K_ss (K_reg (Wops_run rfl rfl (Wops_run rfl rfl (Wops_ld rfl g5 (by rw [Nat.zero_add]; exact m11) (Wops_run rfl rfl (Wops_run rfl rfl (K_fin [(3, _), (4, _), (21, _)] rfl (?_))))))))
  refine K_scond rfl (fun hc => ?_) (fun hc => ?_)
  · have hin : i < cn := by have := of_decide_eq_true hc; omega
    obtain ⟨ls, ba, bn, bc, l, w, ht, I, ow⟩ := hC i hin
    have hcell := code_cell hgc hin ht
    obtain ⟨es, hr, -, -, -⟩ := body_run ow
    obtain ⟨dep, hw, hd⟩ := ctrl_some hr
    have I5 := (I.ext x24).ext x5
    refine K_sskip (K_sblock ?_)
    refine K_reg (Wops_run rfl rfl (Wops_ld rfl g5 (by rw [Nat.zero_add]; exact m11) (Wops_run rfl rfl (Wops_iaV rfl rfl ⟨by omega, by omega⟩ (Wops_run rfl rfl (Wops_ld rfl gc5 hcell (Wops_call rfl (C23 I5) ?_)))))))
    rintro v1 h6 ⟨x6, hv1⟩
    obtain ⟨m, rfl, gm⟩ : ∃ m, v1 = .tuple ⟨[.map (some m), .bool true]⟩ ∧ At h6 m (.map (mapC es)) := by
      rcases hv1 with ⟨e, _⟩ | ⟨es', dep', m, e, e2, g⟩
      · exact absurd hw (e es dep)
      · rw [hw] at e; cases e; exact ⟨m, e2, g⟩
    have I6 := I5.ext x6
    have g6 := g5.ext x6
    have gc6 := gc5.ext x6
    refine Wops_run rfl rfl (Wops_run rfl rfl (Wops_run rfl rfl (Wops_run rfl rfl (Wops_run rfl rfl (K_fin [(3, _), (4, _), (5, _), (6, _)] rfl (?_))))))
    refine K_reg (Wops_run rfl rfl (Wops_ld rfl g6 (by rw [Nat.zero_add]; exact m11) (Wops_run rfl rfl (Wops_iaV rfl rfl ⟨by omega, by omega⟩ (Wops_run rfl rfl (Wops_ld rfl gc6 hcell (Wops_call rfl (C24 I6) ?_)))))))
    rintro v2 h7 ⟨x7, hv2⟩
    obtain ⟨m2, rfl, gm2⟩ : ∃ m, v2 = .tuple ⟨[.map (some m), .bool true]⟩ ∧ At h7 m (.map (mapC es)) := by
      rcases hv2 with ⟨e, _⟩ | ⟨es', m, e, e2, g⟩
      · rw [hr] at e; cases e
      · rw [hr] at e; cases e; exact ⟨m, e2, g⟩
    have I7 := I6.ext x7
    have g7 := g6.ext x7
    have gc7 := gc6.ext x7
    refine Wops_run rfl rfl (Wops_run rfl rfl (Wops_run rfl rfl (Wops_run rfl rfl (Wops_run rfl rfl (K_fin [(3, _), (4, _), (5, _), (6, _), (7, _), (8, _)] rfl (?_))))))
    refine K_reg (Wops_run rfl rfl (Wops_run rfl rfl (Wops_run rfl rfl (Wops_go rfl (Wops_run rfl rfl (Wops_go rfl (Wops_run rfl rfl (Wops_run rfl rfl (Wops_run rfl rfl ?_)))))))))
    refine Wops_go rfl (Wops_run rfl rfl (Wops_go rfl (Wops_run rfl rfl (Wops_go rfl (Wops_call rfl (C25 (.inr ⟨m, m2, es, rfl, rfl, gm.ext x7, gm2⟩)) ?_)))))
    rintro _ _ ⟨rfl, rfl⟩
    refine Wops_go rfl (Wops_run rfl rfl (Wops_run rfl rfl (Wops_run rfl rfl ?_)))
    refine Wops_go rfl (Wops_run rfl rfl (Wops_go rfl (Wops_ld rfl g7 (by rw [Nat.zero_add]; exact m11) (Wops_go rfl (Wops_run rfl rfl (Wops_go rfl (Wops_iaV rfl rfl ⟨by omega, by omega⟩ (Wops_go rfl (Wops_run rfl rfl (Wops_go rfl (Wops_ld rfl gc7 hcell ?_)))))))))))
    refine Wops_go rfl (Wops_run rfl rfl (Wops_go rfl (Wops_ld rfl g7 (by rw [Nat.zero_add]; exact m11) (Wops_go rfl (Wops_run rfl rfl (Wops_go rfl (Wops_iaV rfl rfl ⟨by omega, by omega⟩ (Wops_go rfl (Wops_run rfl rfl (Wops_go rfl (Wops_ld rfl gc7 hcell ?_)))))))))))
    refine Wops_go rfl (Wops_call rfl (C26 I7) ?_)
    rintro v3 h8 ⟨x8, hv3⟩
    obtain rfl : v3 = .int .i64 (dep : Int) := by
      rcases hv3 with ⟨e, _⟩ | ⟨es', dep', e, e2⟩
      · exact absurd hw (e es dep)
      · rw [hw] at e; cases e; exact e2
    have I8 := I7.ext x8
    refine Wops_go rfl (Wops_chk rfl rfl (g7.ext x8) (by rw [Nat.zero_add]; exact m11) sC4.same (Wops_go rfl (Wops_chk rfl rfl (gc7.ext x8) hcell I.sl.same (Wops_go rfl (Wops_call rfl (C27 I8) ?_)))))
    rintro v4 h9 ⟨x9, hv4⟩
    obtain rfl : v4 = .int .i64 (dep : Int) := by
      rcases hv4 with ⟨e, _⟩ | ⟨es', e, e2⟩
      · rw [hr] at e; cases e
      · rw [e2, hd]
    refine Wops_go rfl (Wops_neq (v := false) rfl rfl (by simp) (Wops_run rfl rfl (K_fin [(3, _), (4, _), (72, _)] rfl (?_))))
    refine K_cond rfl (fun hc => by cases hc) (fun _ => K_skip ?_)
    refine K_last (Wops_run rfl rfl (Wops_run rfl rfl (Wops_run rfl rfl (K_finL [(3, _), (4, _)] rfl (?_)))))
    exact ⟨cn - (i + 1), by omega, i + 1, by rw [w64s (by omega)], by omega, rfl, (((x5.trans x6).trans x7).trans x8).trans x9⟩
  · refine K_sexit (bx_same ?_)
    refine K_reg (Wops_run rfl rfl (K_fin [(2, _)] rfl (?_)))
    exact K_ret (Told.mk _ rfl rfl)

set_option maxRecDepth 100000 in
theorem ctrlMade_fn {L : List (List Value)} {vs : List Value} (hG : FlatG Try.prog 0 [30] vs L) : Fn Try.prog 8 vs (flatH L) fun v _ => v = .bool true := by
  obtain ⟨a, n, c, l, r, k2, L2, L3, rfl, s, hl, _, _, hF⟩ := flat_slice (P := Try.prog) (k := 0) (t := 30) (ts := []) (L0 := []) (L := L) (L' := L) Try.underlying30 rfl rfl hG
  obtain rfl := flat_nil hF
  obtain ⟨xs, rfl, hw⟩ := scal_ints Try.underlying5 hl
  exact C8 s (fun x hx => wf_u8 (hw x hx))

end
end Go.Dx.SYtfhdeagbgdnkaaa
