/- op's begun: Kind by runs at numbers that lie alike, Names by its loops. -/
import Derived.Test.YtfhdeagbgdnkaaaDxLT
import Derived.Test.YtfhdeagbgdnkaaaDx36
namespace Go.Dx.SYtfhdeagbgdnkaaa
open Go.Proofs
set_option linter.unusedVariables false
set_option linter.unusedSimpArgs false
noncomputable def kd (n : Int) : Option (Int × Int) := match fnR T 400 16 [.int .i64 n] Heap.empty with
  | some (.tuple ⟨[.int .i64 a, .int .i64 b]⟩, _) => some (a, b)
  | _ => none
theorem C16 {h : Heap} {n a b : Int} (hk : kd n = some (a, b)) : Fn Try.prog 16 [.int .i64 n] h fun v h' => v = .tuple ⟨[.int .i64 a, .int .i64 b]⟩ ∧ h = h' := by
  refine Fn.anywhere (R := fun v => v = .tuple ⟨[.int .i64 a, .int .i64 b]⟩) rfl (Q := fun v _ => v = .tuple ⟨[.int .i64 a, .int .i64 b]⟩) ?_ fun v h' q => ⟨by rw [q]; rfl, q⟩
  unfold kd at hk
  split at hk
  · rename_i a' b' h' hq
    simp only [Option.some.injEq, Prod.mk.injEq] at hk
    obtain ⟨rfl, rfl⟩ := hk
    rw [fnR_eq] at hq
    refine (dfn_ok T.ok 400 _ _ _ _ _ hq).mono ?_
    rintro v1 h1 ⟨rfl, _⟩
    rfl
  · cases hk
noncomputable def okk (n : Int) : Bool := match kd n with
  | some (_, b) => b == 0
  | none => false
noncomputable def chk (n : Int) : Bool := match kd n with
  | some _ => true
  | none => false
noncomputable def cn (b : Int) (j : Nat) : Nat := ((List.range j).filter fun m : Nat => okk (b + m)).length
theorem cn_succ (b : Int) (j : Nat) : cn b (j + 1) = cn b j + if okk (b + j) = true then 1 else 0 := by
  unfold cn
  rw [List.range_succ, List.filter_append, List.length_append]
  by_cases h : okk (b + j) = true <;> simp [h]
set_option maxRecDepth 100000 in
theorem kd_a : allB (fun m => chk (0 + (m : Int))) 256 0 = true := by kernel_rfl
set_option maxRecDepth 100000 in
theorem kd_b : allB (fun m => chk (64512 + (m : Int))) 256 0 = true := by kernel_rfl
set_option maxRecDepth 100000 in
theorem cn_many : Nat.ble 101 (cn 0 256) = true := by kernel_rfl
theorem chk_ok {n : Int} (h : chk n = true) : ∃ a b, kd n = some (a, b) := by
  unfold chk at h
  split at h
  · rename_i ab hk; exact ⟨ab.1, ab.2, hk⟩
  · cases h
theorem C20 {h : Heap} : Fn Try.prog 20 [] h fun v h' => ∃ a n c, v = .slice a n c ∧ 100 < n ∧ Ext0 h h' := by
  refine fnK F20.fok rfl ?_
  refine K_reg (Wops_run rfl rfl (K_fin [] rfl (?_)))
  refine K_reg (Wops_run rfl rfl (K_fin [(1, _)] rfl (?_)))
  refine K_ss (K_reg (Wops_bslice (l := [.int .i64 0, .int .i64 64512]) rfl rfl fun h1 n1 x1 g1 => ?_))
  have s1 : SlA h1 1 (some ⟨h.next, 0, none⟩) 2 1 [.int .i64 0, .int .i64 64512] := (OwS.new (n := 2) (c := 1) g1 rfl).sl
  refine Wops_run rfl rfl (Wops_run rfl rfl (K_fin [(1, _), (7, _), (8, _), (9, _)] rfl (?_)))
  refine K_sblock ?_
  refine K_loop (fun k e h' => ∃ (i no co : Nat) (ao : Option Addr) (l : List Value), e = [(1, .slice ao no co), (7, .slice (some ⟨h.next, 0, none⟩) 2 1), (8, .int .i64 2), (9, .int .i64 i)] ∧ i ≤ 2 ∧ k = 2 - i ∧ no ≤ i * 256 ∧ (0 < i → cn 0 256 ≤ no) ∧ Ext0 h1 h' ∧ OwS h' 1 ao no co l ∧ ∀ j, Blk ao j → h1.next ≤ j) ?_ (k := 2) ⟨0, 0, 0, none, [], rfl, by omega, rfl, by omega, fun q => by omega, Ext.refl _ _, OwS.none, fun j r => absurd r Blk.none⟩
  rintro k e h2 ⟨i, no, co, ao, l, rfl, hi, rfl, hno, hcn, x2, oo, bo⟩
  refine K_reg (Wops_run rfl rfl (K_fin [(1, _), (7, _), (8, _), (9, _), (10, _)] rfl (?_)))
  refine K_scond rfl (fun hc => ?_) (fun hc => ?_)
  · have hlt : i < 2 := by have := of_decide_eq_true hc; omega
    obtain ⟨b, hb, hbr⟩ : ∃ b : Int, [Value.int .i64 0, .int .i64 64512][i]? = some (.int .i64 b) ∧ ((i = 0 ∧ b = 0) ∨ (i = 1 ∧ b = 64512)) := by
      rcases (show i = 0 ∨ i = 1 by omega) with q | q
      · exact ⟨0, by rw [q]; simp, .inl ⟨q, by rfl⟩⟩
      · exact ⟨64512, by rw [q]; simp, .inr ⟨q, by rfl⟩⟩
    have hkd : ∀ j : Nat, j < 256 → ∃ a e, kd (b + j) = some (a, e) := fun j hj => by
      rcases hbr with ⟨_, rfl⟩ | ⟨_, rfl⟩
      · exact chk_ok (allB_ok (g := fun m => chk (0 + (m : Int))) 256 0 kd_a j (by omega) (by omega))
      · exact chk_ok (allB_ok (g := fun m => chk (64512 + (m : Int))) 256 0 kd_b j (by omega) (by omega))
    refine K_sskip (K_sblock ?_)
    refine K_reg (Wops_idx (u := .int .i64 b) rfl rfl (s1.ext x2) ⟨by omega, by omega⟩ (by simpa using hb) fun _ => Wops_run rfl rfl (K_fin [(1, _), (3, _), (7, _), (8, _), (9, _)] rfl (?_)))
    refine K_reg (Wops_run rfl rfl (Wops_run rfl rfl (K_fin [(1, _), (3, _), (4, _), (7, _), (8, _), (9, _)] rfl (?_))))
    refine K_block ?_
    have hbz : 0 ≤ b ∧ b ≤ 64512 := by rcases hbr with ⟨_, rfl⟩ | ⟨_, rfl⟩ <;> omega
    refine K_loop (fun k e h' => ∃ (j no' co' : Nat) (ao' : Option Addr) (l' : List Value), e = [(1, .slice ao' no' co'), (3, .int .i64 b), (4, .int .i64 (b + j)), (7, .slice (some ⟨h.next, 0, none⟩) 2 1), (8, .int .i64 2), (9, .int .i64 i)] ∧ j ≤ 256 ∧ k = 256 - j ∧ no' ≤ no + j ∧ no + cn b j ≤ no' ∧ Ext0 h1 h' ∧ OwS h' 1 ao' no' co' l' ∧ ∀ j, Blk ao' j → h1.next ≤ j) ?_ (k := 256) ⟨0, no, co, ao, l, by simp, by omega, rfl, by omega, Nat.le_refl _, x2, oo, bo⟩
    clear oo bo x2
    rintro k e h3 ⟨j, no', co', ao', l', rfl, hj, rfl, hno', hcn', x3, oo, bo⟩
    refine K_ss (K_reg (Wops_run rfl rfl (Wops_run rfl rfl (Wops_as (w := .int .i64 (b + 256)) rfl rfl (by rw [w64 (by omega)]) ?_))))
    by_cases hc2 : b + (j : Int) < b + 256
    · refine Wops_as (w := .bool true) rfl rfl (by rw [decide_eq_true hc2]) (K_fin [(1, _), (3, _), (4, _), (7, _), (8, _), (9, _), (17, _)] rfl (?_))
      refine K_scond rfl (fun _ => ?_) (fun hc => by cases hc)
      have hlt2 : j < 256 := by omega
      obtain ⟨a, e2, hk⟩ := hkd j hlt2
      have hcs := cn_succ b j
      have hok : okk (b + j) = (e2 == 0) := by unfold okk; rw [hk]
      refine K_sskip (K_sblock ?_)
      refine K_reg (Wops_run rfl rfl (Wops_call rfl (C16 hk) ?_))
      rintro _ _ ⟨rfl, rfl⟩
      refine Wops_run rfl rfl (Wops_run rfl rfl (Wops_run rfl rfl (Wops_run rfl rfl (Wops_run rfl rfl (K_fin [(1, _), (3, _), (4, _), (6, _), (7, _), (8, _), (9, _)] rfl (?_))))))
      refine K_reg (Wops_run rfl rfl (Wops_eq (v := e2 == 0) rfl rfl rfl (K_fin [(1, _), (3, _), (4, _), (7, _), (8, _), (9, _), (26, _)] rfl (?_))))
      refine K_cond rfl (fun hd => ?_) (fun hd => ?_)
      · rw [hok, hd, if_pos rfl] at hcs
        refine K_last (Wops_run rfl rfl (Wops_run rfl rfl (Wops_bslice (l := [.int .i64 (b + j)]) rfl rfl fun h4 n4 x4 g4 => ?_)))
        refine Wops_app rfl rfl (oo.ext x4) rfl (OwS.new (n := 1) (c := 1) g4 rfl).sl.first ⟨by omega, by omega⟩ rfl rfl (by decide) fun h5 a5 c5 x5 o5 b5 => ?_
        refine Wops_run rfl rfl (K_finL [(1, _), (3, _), (4, _), (7, _), (8, _), (9, _)] rfl (?_))
        refine K_last (Wops_run rfl rfl (Wops_as (w := .int .i64 (b + ((j + 1 : Nat) : Int))) rfl rfl (by rw [w64 (by omega)]; congr 1; omega) (Wops_run rfl rfl (K_finL [(1, _), (3, _), (4, _), (7, _), (8, _), (9, _)] rfl (?_)))))
        have e3 := x3.next
        exact ⟨256 - (j + 1), by omega, j + 1, no' + 1, c5, a5, _, rfl, by omega, rfl, by omega, by omega, (x3.trans x4).then x5 fun m r => .inr (bo m r), o5, fun m r => (b5 m r).elim (bo m) fun r => by omega⟩
      · rw [hok, hd, if_neg (by simp)] at hcs
        refine K_skip (K_last (Wops_run rfl rfl (Wops_as (w := .int .i64 (b + ((j + 1 : Nat) : Int))) rfl rfl (by rw [w64 (by omega)]; congr 1; omega) (Wops_run rfl rfl (K_finL [(1, _), (3, _), (4, _), (7, _), (8, _), (9, _)] rfl (?_))))))
        exact ⟨256 - (j + 1), by omega, j + 1, no', co', ao', l', rfl, by omega, rfl, by omega, by omega, x3, oo, bo⟩
    · have hj2 : j = 256 := by omega
      subst hj2
      refine Wops_as (w := .bool false) rfl rfl (by rw [decide_eq_false hc2]) (K_fin [(1, _), (3, _), (4, _), (7, _), (8, _), (9, _), (17, _)] rfl (?_))
      refine K_scond rfl (fun hc => by cases hc) (fun _ => ?_)
      refine K_sexit (bx_same ?_)
      refine K_last (Wops_run rfl rfl (Wops_run rfl rfl (K_finL [(1, _), (7, _), (8, _), (9, _)] rfl (?_))))
      refine ⟨2 - (i + 1), by omega, i + 1, no', co', ao', l', by rw [w64s (by omega)], by omega, rfl, by omega, fun _ => ?_, x3, oo, bo⟩
      rcases hbr with ⟨rfl, rfl⟩ | ⟨rfl, rfl⟩
      · omega
      · have := hcn (by omega); omega
  · have hi2 : i = 2 := by have := of_decide_eq_false hc; omega
    subst hi2
    refine K_sexit (bx_same ?_)
    refine K_reg (Wops_run rfl rfl (Wops_run rfl rfl (K_fin [(0, _)] rfl (?_))))
    have h1 := hcn (by omega)
    have h2 := Nat.le_of_ble_eq_true cn_many
    exact K_ret (Told.mk _ rfl ⟨ao, no, co, rfl, by omega, x1.trans x2⟩)
theorem kd65 : kd 65 = some (3, 0) := by kernel_rfl
theorem kd67 : kd 67 = some (0, 5) := by kernel_rfl
def isFour : Option (Value × Heap) → Bool
  | some (.int .i64 n, _) => decide (n = 4)
  | _ => false
theorem w40 : isFour (fnR T 400 18 [.int .i64 40] Heap.empty) = true := by kernel_rfl
theorem C18w {h : Heap} : Fn Try.prog 18 [.int .i64 40] h fun v h' => v = .int .i64 4 ∧ h = h' := by
  refine Fn.anywhere (R := fun v => v = .int .i64 4) rfl (Q := fun v _ => v = .int .i64 4) ?_ fun v h' q => ⟨by rw [q]; rfl, q⟩
  have hw := w40
  unfold isFour at hw
  split at hw
  · rename_i n h' hq
    have hn := of_decide_eq_true hw
    subst hn
    rw [fnR_eq] at hq
    refine (dfn_ok T.ok 400 _ _ _ _ _ hq).mono ?_
    rintro v1 h1 ⟨rfl, _⟩
    rfl
  · cases hw
theorem C15op {h : Heap} : Fn Try.prog 15 [] h fun v h' => v = .bool true ∧ h = h' := by
  refine Fn.gc (Q := fun v h' => v = .bool true ∧ Ext0 h h') (R := fun v => v = .bool true) ?_ fun v h' q => ⟨q.2, by rw [q.1]; rfl, q.1⟩
  refine fnK F15.fok rfl ?_
  refine K_reg (Wops_run rfl rfl (K_fin [] rfl (?_)))
  refine K_reg (Wops_call rfl (C16 kd65) ?_)
  rintro _ _ ⟨rfl, rfl⟩
  refine Wops_run rfl rfl (Wops_run rfl rfl (Wops_run rfl rfl (Wops_run rfl rfl (Wops_run rfl rfl (K_fin [(1, _), (2, _)] rfl (?_))))))
  refine K_reg (Wops_call rfl (C16 kd67) ?_)
  rintro _ _ ⟨rfl, rfl⟩
  refine Wops_run rfl rfl (Wops_run rfl rfl (Wops_run rfl rfl (Wops_run rfl rfl (Wops_run rfl rfl (K_fin [(1, _), (2, _), (4, _)] rfl (?_))))))
  refine K_reg (Wops_run rfl rfl (Wops_run rfl rfl (Wops_run rfl rfl (Wops_go rfl (Wops_run rfl rfl (Wops_go rfl (Wops_run rfl rfl (Wops_run rfl rfl (Wops_run rfl rfl ?_)))))))))
  refine Wops_go rfl (Wops_run rfl rfl (Wops_go rfl (Wops_run rfl rfl (Wops_run rfl rfl (Wops_run rfl rfl ?_)))))
  refine Wops_go rfl (Wops_call rfl C18w ?_)
  rintro _ _ ⟨rfl, rfl⟩
  refine Wops_go rfl (Wops_run rfl rfl (Wops_run rfl rfl (Wops_run rfl rfl ?_)))
  refine Wops_go rfl (Wops_call rfl C20 ?_)
  rintro _ h' ⟨a, n, c, rfl, hn, x⟩
  refine Wops_go rfl (Wops_run rfl rfl (Wops_go rfl (Wops_as (w := .bool true) rfl rfl (by rw [decide_eq_true (by omega)]) (Wops_run rfl rfl (Wops_run rfl rfl (K_fin [(0, _)] rfl (?_)))))))
  exact K_ret (Told.mk _ rfl ⟨rfl, x⟩)
end Go.Dx.SYtfhdeagbgdnkaaa
