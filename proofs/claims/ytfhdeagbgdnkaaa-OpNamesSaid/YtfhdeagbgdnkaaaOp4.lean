/- OpNames: the walk. -/
import Derived.Test.YtfhdeagbgdnkaaaOp3
namespace Go.Dx.SYtfhdeagbgdnkaaa
open Go.Proofs
set_option linter.unusedVariables false
set_option linter.unusedSimpArgs false

/-- op.Names, to the last one. -/
theorem C20all {h : Heap} : Fn Try.prog 20 [] h fun v h' => ∃ a c, v = .slice a names.length c ∧ SlA h' 1 a names.length c (is64 names) ∧ Ext0 h h' ∧ ∀ j, Blk a j → j < h'.next := by
  refine fnK F20.fok rfl ?_
  refine K_reg (Wops_run rfl rfl (K_fin [] rfl (?_)))
  refine K_reg (Wops_run rfl rfl (K_fin [(1, _)] rfl (?_)))
  refine K_ss (K_reg (Wops_bslice (l := [.int .i64 0, .int .i64 64512]) rfl rfl fun h1 n1 x1 g1 => ?_))
  have s1 : SlA h1 1 (some ⟨h.next, 0, none⟩) 2 1 [.int .i64 0, .int .i64 64512] := (OwS.new (n := 2) (c := 1) g1 rfl).sl
  refine Wops_run rfl rfl (Wops_run rfl rfl (K_fin [(1, _), (7, _), (8, _), (9, _)] rfl (?_)))
  refine K_sblock ?_
  have cutA : ∀ i, i ≤ 2 → (if i = 0 then ([] : List Int) else if i = 1 then nm okk 0 256 else names).length ≤ i * 256 := fun i hi => by
    have := nm_len okk 0 256
    have := nm_len okk 64512 256
    rcases (show i = 0 ∨ i = 1 ∨ i = 2 by omega) with rfl | rfl | rfl
    · simp
    · simpa using nm_len okk 0 256
    · simp only [names]; simp; omega
  refine K_loop (fun k e h' => ∃ (i no co : Nat) (ao : Option Addr) (xs : List Int), e = [(1, .slice ao no co), (7, .slice (some ⟨h.next, 0, none⟩) 2 1), (8, .int .i64 2), (9, .int .i64 i)] ∧ i ≤ 2 ∧ k = 2 - i ∧ xs = (if i = 0 then [] else if i = 1 then nm okk 0 256 else names) ∧ Ext0 h1 h' ∧ OwS h' 1 ao no co (is64 xs) ∧ ∀ j, Blk ao j → h1.next ≤ j) ?_ (k := 2) ⟨0, 0, 0, none, [], rfl, by omega, rfl, rfl, Ext.refl _ _, OwS.none, fun j r => absurd r Blk.none⟩
  rintro k e h2 ⟨i, no, co, ao, xs, rfl, hi, rfl, hxs, x2, oo, bo⟩
  have hlx := cutA i hi
  rw [← hxs] at hlx
  have hno : xs.length = no := by have := oo.len; simpa [is64] using this
  refine K_reg (Wops_run rfl rfl (K_fin [(1, _), (7, _), (8, _), (9, _), (10, _)] rfl (?_)))
  refine K_scond rfl (fun hc => ?_) (fun hc => ?_)
  · have hlt : i < 2 := by have := of_decide_eq_true hc; omega
    obtain ⟨b, hb, hbr⟩ : ∃ b : Int, [Value.int .i64 0, .int .i64 64512][i]? = some (.int .i64 b) ∧ ((i = 0 ∧ b = 0) ∨ (i = 1 ∧ b = 64512)) := by
      rcases (show i = 0 ∨ i = 1 by omega) with q | q
      · exact ⟨0, by rw [q]; simp, .inl ⟨q, by rfl⟩⟩
      · exact ⟨64512, by rw [q]; simp, .inr ⟨q, by rfl⟩⟩
    have hkd : ∀ j : Nat, j < 256 → ∃ a e, kd (b + j) = some (a, e) := fun j hj => by
      rcases hbr with ⟨_, rfl⟩ | ⟨_, rfl⟩
      · exact chk_ok (allB_ok (g := fun m => chk (0 + (m : Int))) 256 0 kd_a j (by omega) (by omega))
      · exact chk_ok (allB_ok (g := fun m => chk (64512 + (m : Int))) 256 0 kd_b j (by omega) (by omega))
    refine K_sskip (K_sblock ?_)
    refine K_reg (Wops_idx (u := .int .i64 b) rfl rfl (s1.ext x2) ⟨by omega, by omega⟩ (by simpa using hb) fun _ => Wops_run rfl rfl (K_fin [(1, _), (3, _), (7, _), (8, _), (9, _)] rfl (?_)))
    refine K_reg (Wops_run rfl rfl (Wops_run rfl rfl (K_fin [(1, _), (3, _), (4, _), (7, _), (8, _), (9, _)] rfl (?_))))
    refine K_block ?_
    have hbz : 0 ≤ b ∧ b ≤ 64512 := by rcases hbr with ⟨_, rfl⟩ | ⟨_, rfl⟩ <;> omega
    refine K_loop (fun k e h' => ∃ (j no' co' : Nat) (ao' : Option Addr), e = [(1, .slice ao' no' co'), (3, .int .i64 b), (4, .int .i64 (b + j)), (7, .slice (some ⟨h.next, 0, none⟩) 2 1), (8, .int .i64 2), (9, .int .i64 i)] ∧ j ≤ 256 ∧ k = 256 - j ∧ Ext0 h1 h' ∧ OwS h' 1 ao' no' co' (is64 (xs ++ nm okk b j)) ∧ ∀ j, Blk ao' j → h1.next ≤ j) ?_ (k := 256) ⟨0, no, co, ao, by simp, by omega, rfl, x2, by simpa [nm] using oo, bo⟩
    clear oo bo x2
    rintro k e h3 ⟨j, no', co', ao', rfl, hj, rfl, x3, oo, bo⟩
    have hnl := nm_len okk b j
    have hno' : xs.length + (nm okk b j).length = no' := by have := oo.len; simpa [is64] using this
    refine K_ss (K_reg (Wops_run rfl rfl (Wops_run rfl rfl (Wops_as (w := .int .i64 (b + 256)) rfl rfl (by rw [w64 (by omega)]) ?_))))
    by_cases hc2 : b + (j : Int) < b + 256
    · refine Wops_as (w := .bool true) rfl rfl (by rw [decide_eq_true hc2]) (K_fin [(1, _), (3, _), (4, _), (7, _), (8, _), (9, _), (17, _)] rfl (?_))
      refine K_scond rfl (fun _ => ?_) (fun hc => by cases hc)
      have hlt2 : j < 256 := by omega
      obtain ⟨a, e2, hk⟩ := hkd j hlt2
      have hns := nm_succ okk b j
      have hok : okk (b + j) = (e2 == 0) := by unfold okk; rw [hk]
      refine K_sskip (K_sblock ?_)
      refine K_reg (Wops_run rfl rfl (Wops_call rfl (C16 hk) ?_))
      rintro _ _ ⟨rfl, rfl⟩
      refine Wops_run rfl rfl (Wops_run rfl rfl (Wops_run rfl rfl (Wops_run rfl rfl (Wops_run rfl rfl (K_fin [(1, _), (3, _), (4, _), (6, _), (7, _), (8, _), (9, _)] rfl (?_))))))
      refine K_reg (Wops_run rfl rfl (Wops_eq (v := e2 == 0) rfl rfl rfl (K_fin [(1, _), (3, _), (4, _), (7, _), (8, _), (9, _), (26, _)] rfl (?_))))
      refine K_cond rfl (fun hd => ?_) (fun hd => ?_)
      · rw [hok, hd, if_pos rfl] at hns
        refine K_last (Wops_run rfl rfl (Wops_run rfl rfl (Wops_bslice (l := is64 [b + j]) rfl rfl fun h4 n4 x4 g4 => ?_)))
        refine Wops_app rfl rfl (oo.ext x4) rfl (OwS.new (n := 1) (c := 1) g4 rfl).sl.first ⟨by omega, by omega⟩ rfl rfl (by decide) fun h5 a5 c5 x5 o5 b5 => ?_
        refine Wops_run rfl rfl (K_finL [(1, _), (3, _), (4, _), (7, _), (8, _), (9, _)] rfl (?_))
        refine K_last (Wops_run rfl rfl (Wops_as (w := .int .i64 (b + ((j + 1 : Nat) : Int))) rfl rfl (by rw [w64 (by omega)]; congr 1; omega) (Wops_run rfl rfl (K_finL [(1, _), (3, _), (4, _), (7, _), (8, _), (9, _)] rfl (?_)))))
        have e3 := x3.next
        refine ⟨256 - (j + 1), by omega, j + 1, no' + 1, c5, a5, rfl, by omega, rfl, (x3.trans x4).then x5 fun m r => .inr (bo m r), ?_, fun m r => (b5 m r).elim (bo m) fun r => by omega⟩
        rw [hns, ← List.append_assoc, is64, List.map_append]; exact o5
      · rw [hok, hd, if_neg (by simp), List.append_nil] at hns
        refine K_skip (K_last (Wops_run rfl rfl (Wops_as (w := .int .i64 (b + ((j + 1 : Nat) : Int))) rfl rfl (by rw [w64 (by omega)]; congr 1; omega) (Wops_run rfl rfl (K_finL [(1, _), (3, _), (4, _), (7, _), (8, _), (9, _)] rfl (?_))))))
        exact ⟨256 - (j + 1), by omega, j + 1, no', co', ao', rfl, by omega, rfl, x3, by rw [hns]; exact oo, bo⟩
    · have hj2 : j = 256 := by omega
      subst hj2
      refine Wops_as (w := .bool false) rfl rfl (by rw [decide_eq_false hc2]) (K_fin [(1, _), (3, _), (4, _), (7, _), (8, _), (9, _), (17, _)] rfl (?_))
      refine K_scond rfl (fun hc => by cases hc) (fun _ => ?_)
      refine K_sexit (bx_same ?_)
      refine K_last (Wops_run rfl rfl (Wops_run rfl rfl (K_finL [(1, _), (7, _), (8, _), (9, _)] rfl (?_))))
      refine ⟨2 - (i + 1), by omega, i + 1, no', co', ao', _, by rw [w64s (by omega)], by omega, rfl, ?_, x3, oo, bo⟩
      rcases hbr with ⟨rfl, rfl⟩ | ⟨rfl, rfl⟩
      · rw [hxs]; rfl
      · rw [hxs]; rfl
  · have hi2 : i = 2 := by have := of_decide_eq_false hc; omega
    subst hi2
    have hx : xs = names := by rw [hxs]; rfl
    subst hx
    subst hno
    refine K_sexit (bx_same ?_)
    refine K_reg (Wops_run rfl rfl (Wops_run rfl rfl (K_fin [(0, _)] rfl (?_))))
    exact K_ret (Told.mk _ rfl ⟨ao, co, rfl, oo.sl, x1.trans x2, fun j r => oo.lt r⟩)

/-- the document's Names -/
theorem C21 {h : Heap} : Fn Try.prog 21 [] h fun v h' => ∃ a c, v = .slice a names.length c ∧ SlA h' 1 a names.length c (is64 names) ∧ Ext0 h h' := by
  refine fnK F21.fok rfl ?_
  refine K_reg (Wops_run rfl rfl (K_fin [] rfl (?_)))
  refine K_reg (Wops_run rfl rfl (K_fin [(1, _)] rfl (?_)))
  refine K_ss (K_reg (Wops_run rfl rfl (K_fin [(1, _), (2, _)] rfl (?_))))
  refine K_sblock ?_
  generalize hN : (64768 : Nat) = N at *
  refine K_loop (fun k e h' => ∃ (j no co : Nat) (ao : Option Addr), e = [(1, .slice ao no co), (2, .int .i64 j)] ∧ j ≤ N ∧ k = N - j ∧ Ext0 h h' ∧ OwS h' 1 ao no co (is64 (nm okd 0 j)) ∧ ∀ m, Blk ao m → h.next ≤ m) ?_ (k := N) ⟨0, 0, 0, none, rfl, by omega, rfl, Ext.refl _ _, OwS.none, fun m r => absurd r Blk.none⟩
  rintro k e h3 ⟨j, no, co, ao, rfl, hj, rfl, x3, oo, bo⟩
  have hnl := nm_len okd 0 j
  have hno : (nm okd 0 j).length = no := by have := oo.len; simpa [is64] using this
  refine K_ss (K_reg (Wops_run rfl rfl ?_))
  by_cases hc : (j : Int) < 64768
  · refine Wops_as (w := .bool true) rfl rfl (by rw [decide_eq_true hc]) (K_fin [(1, _), (2, _), (6, _)] rfl (?_))
    refine K_scond rfl (fun _ => ?_) (fun hc => by cases hc)
    obtain ⟨a, e2, hk⟩ := kdd_all (n := j) (by omega)
    have hns := nm_succ okd 0 j
    have hok : okd ((0 : Int) + j) = (e2 == 0) := by unfold okd; rw [hk]
    rw [Int.zero_add] at hk
    refine K_sskip (K_sblock ?_)
    refine K_reg (Wops_run rfl rfl (Wops_call rfl (C17 hk) ?_))
    rintro _ _ ⟨rfl, rfl⟩
    refine Wops_run rfl rfl (Wops_run rfl rfl (Wops_run rfl rfl (Wops_run rfl rfl (Wops_run rfl rfl (K_fin [(1, _), (2, _), (4, _)] rfl (?_))))))
    refine K_reg (Wops_run rfl rfl (Wops_eq (v := e2 == 0) rfl rfl rfl (K_fin [(1, _), (2, _), (15, _)] rfl (?_))))
    refine K_cond rfl (fun hd => ?_) (fun hd => ?_)
    · rw [hok, hd, if_pos rfl] at hns
      refine K_last (Wops_run rfl rfl (Wops_run rfl rfl (Wops_bslice (l := is64 [(j : Int)]) rfl rfl fun h4 n4 x4 g4 => ?_)))
      refine Wops_app rfl rfl (oo.ext x4) rfl (OwS.new (n := 1) (c := 1) g4 rfl).sl.first ⟨by omega, by omega⟩ rfl rfl (by decide) fun h5 a5 c5 x5 o5 b5 => ?_
      refine Wops_run rfl rfl (K_finL [(1, _), (2, _)] rfl (?_))
      refine K_last (Wops_run rfl rfl (Wops_run rfl rfl (Wops_run rfl rfl (K_finL [(1, _), (2, _)] rfl (?_)))))
      have e3 := x3.next
      refine ⟨N - (j + 1), by omega, j + 1, no + 1, c5, a5, by rw [w64s (by omega)], by omega, rfl, (x3.trans x4).then x5 fun m r => .inr (bo m r), ?_, fun m r => (b5 m r).elim (bo m) fun r => by omega⟩
      rw [hns, Int.zero_add, is64, List.map_append]; exact o5
    · rw [hok, hd, if_neg (by simp), List.append_nil] at hns
      refine K_skip (K_last (Wops_run rfl rfl (Wops_run rfl rfl (Wops_run rfl rfl (K_finL [(1, _), (2, _)] rfl (?_))))))
      exact ⟨N - (j + 1), by omega, j + 1, no, co, ao, by rw [w64s (by omega)], by omega, rfl, x3, by rw [hns]; exact oo, bo⟩
  · have hj2 : j = N := by omega
    subst hj2
    refine Wops_as (w := .bool false) rfl rfl (by rw [decide_eq_false hc]) (K_fin [(1, _), (2, _), (6, _)] rfl (?_))
    refine K_scond rfl (fun hc => by cases hc) (fun _ => ?_)
    refine K_sexit (bx_same ?_)
    have hx : nm okd 0 j = names := by rw [← hN]; exact names_doc
    rw [hx] at oo hno
    subst hno
    refine K_reg (Wops_run rfl rfl (Wops_run rfl rfl (K_fin [(0, _)] rfl (?_))))
    exact K_ret (Told.mk _ rfl ⟨ao, co, rfl, oo.sl, x3⟩)

theorem name_ok {x : Int} (h : x ∈ names) : ∃ a, kd x = some (a, 0) := by
  have ho : okk x = true := by
    rcases List.mem_append.1 h with h | h
    · exact nm_ok h
    · exact nm_ok h
  unfold okk at ho
  split at ho
  · rename_i a b hk
    have := eq_of_beq ho
    subst this
    exact ⟨a, hk⟩
  · cases ho
theorem lists : ∃ xs : List Int, (∀ h : Heap, Fn Try.prog 20 [] h fun v h' => ∃ a c, v = .slice a xs.length c ∧ SlA h' 1 a xs.length c (is64 xs) ∧ Ext0 h h' ∧ ∀ j, Blk a j → j < h'.next) ∧ (∀ h : Heap, Fn Try.prog 21 [] h fun v h' => ∃ a c, v = .slice a xs.length c ∧ SlA h' 1 a xs.length c (is64 xs) ∧ Ext0 h h') ∧ (∀ x ∈ xs, ∃ a, kd x = some (a, 0)) ∧ xs.length ≤ 512 :=
  ⟨names, fun h => C20all, fun h => C21, fun x hx => name_ok hx, by
    have := nm_len okk 0 256
    have := nm_len okk 64512 256
    simp only [names, List.length_append]; omega⟩
theorem opNames_fn : Fn Try.prog 4 [] Heap.empty fun v _ => v = .bool true := by
  obtain ⟨xs, q20, q21, hok, hlen⟩ := lists
  refine fnK F4.fok rfl ?_
  refine K_reg (Wops_run rfl rfl (K_fin [] rfl (?_)))
  refine K_ss (K_reg (Wops_call rfl C15op ?_))
  rintro _ _ ⟨rfl, rfl⟩
  refine Wops_run rfl rfl (K_fin [(7, _)] rfl (?_))
  refine K_scond rfl (fun hc => by cases hc) (fun _ => ?_)
  refine K_sskip (K_reg (Wops_call rfl (q20 _) ?_))
  rintro _ h1 ⟨a1, c1, rfl, s1, x1, l1⟩
  refine Wops_call rfl (q21 _) ?_
  rintro _ h2 ⟨a2, c2, rfl, s2, x2⟩
  have s1' := s1.ext x2
  refine Wops_run rfl rfl (Wops_run rfl rfl (K_fin [(1, _), (2, _)] rfl (?_)))
  refine K_ss (K_reg (Wops_run rfl rfl (Wops_run rfl rfl (Wops_run rfl rfl (Wops_run rfl rfl (Wops_neq (v := false) rfl rfl (by simp) (K_fin [(1, _), (2, _), (14, _)] rfl (?_))))))))
  refine K_scond rfl (fun hc => by cases hc) (fun _ => ?_)
  refine K_sskip (K_ss (K_reg (Wops_run rfl rfl (K_fin [(1, _), (2, _), (3, _)] rfl (?_)))))
  refine K_sblock ?_
  generalize hn : xs.length = n at *
  refine K_loop (fun k e h' => ∃ i : Nat, e = [(1, .slice a1 n c1), (2, .slice a2 n c2), (3, .int .i64 i)] ∧ h2 = h' ∧ i ≤ n ∧ k = n - i) ?_ (k := n) ⟨0, rfl, rfl, by omega, rfl⟩
  rintro k e h' ⟨i, rfl, rfl, hi, rfl⟩
  refine K_ss (K_reg (Wops_run rfl rfl (Wops_run rfl rfl (Wops_run rfl rfl (Wops_run rfl rfl (K_fin [(1, _), (2, _), (3, _), (18, _)] rfl (?_)))))))
  refine K_scond rfl (fun hc => ?_) (fun hc => ?_)
  · have hlt : i < n := by have := of_decide_eq_true hc; omega
    obtain ⟨a, hk⟩ := hok _ (List.getElem_mem (show i < xs.length by omega))
    have hu : (is64 xs)[((i : Nat) : Int).toNat]? = some (.int .i64 xs[i]) := by simp [is64, List.getElem?_eq_getElem (show i < xs.length by omega)]
    refine K_sskip (K_sblock ?_)
    refine K_reg (Wops_run rfl rfl (Wops_run rfl rfl (Wops_idx (u := .int .i64 xs[i]) rfl rfl s1' ⟨by omega, by omega⟩ hu fun _ => ?_)))
    refine Wops_call rfl (C16 hk) ?_
    rintro _ _ ⟨rfl, rfl⟩
    refine Wops_run rfl rfl (Wops_run rfl rfl (Wops_run rfl rfl (Wops_run rfl rfl (Wops_run rfl rfl (K_fin [(1, _), (2, _), (3, _), (5, _)] rfl (?_))))))
    refine K_reg (Wops_run rfl rfl (Wops_run rfl rfl (Wops_idx (u := .int .i64 xs[i]) rfl rfl s1' ⟨by omega, by omega⟩ hu fun _ => ?_)))
    refine Wops_run rfl rfl (Wops_run rfl rfl (Wops_idx (u := .int .i64 xs[i]) rfl rfl s2 ⟨by omega, by omega⟩ hu fun _ => ?_))
    refine Wops_neq (v := false) rfl rfl (by simp) (Wops_run rfl rfl (Wops_go rfl (Wops_run rfl rfl (Wops_go rfl (Wops_run rfl rfl (Wops_run rfl rfl (K_fin [(1, _), (2, _), (3, _), (41, _)] rfl (?_))))))))
    refine K_cond rfl (fun hc => by cases hc) (fun _ => ?_)
    refine K_skip (K_last (Wops_run rfl rfl (Wops_run rfl rfl (Wops_run rfl rfl (K_finL [(1, _), (2, _), (3, _)] rfl (?_))))))
    exact ⟨n - (i + 1), by omega, i + 1, by rw [w64s (by omega)], rfl, by omega, rfl⟩
  · refine K_sexit (bx_same ?_)
    refine K_reg (Wops_run rfl rfl (K_fin [(0, _)] rfl (?_)))
    exact K_ret (Told.mk _ rfl rfl)
end Go.Dx.SYtfhdeagbgdnkaaa
