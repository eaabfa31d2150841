/- ClockLate: the walk. -/
import Derived.Test.YtfhdeagbgdnkaaaCk3
namespace Go.Dx.SYtfhdeagbgdnkaaa
open Go.Proofs
set_option linter.unusedVariables false
set_option linter.unusedSimpArgs false

def mk : Nat → List Int → List D
  | _, [] => []
  | k, x :: xs => ((k : Int) + 1, 1 + x.tmod 20) :: mk (k + 1) xs
theorem mk_len : ∀ (k : Nat) (xs : List Int), (mk k xs).length = xs.length
  | _, [] => rfl
  | k, x :: xs => by simp [mk, mk_len (k + 1) xs]
theorem mk_app (x : Int) : ∀ (k : Nat) (xs : List Int), mk k (xs ++ [x]) = mk k xs ++ [((k : Int) + xs.length + 1, 1 + x.tmod 20)]
  | k, [] => by simp [mk]
  | k, y :: xs => by
    have e : ((k + 1 : Nat) : Int) + xs.length + 1 = (k : Int) + (y :: xs).length + 1 := by simp; omega
    simp only [List.cons_append, mk, mk_app x (k + 1) xs, e]
theorem mk_id : ∀ (k : Nat) (xs : List Int), ∀ d ∈ mk k xs, (k : Int) < d.1 ∧ d.1 ≤ k + xs.length
  | k, [], d, h => by cases h
  | k, x :: xs, d, h => by
    simp only [mk, List.mem_cons] at h
    rcases h with rfl | h
    · simp; omega
    · have := mk_id (k + 1) xs d h
      simp at this ⊢; omega
theorem mk_at : ∀ (k : Nat) (xs : List Int), (∀ x ∈ xs, 0 ≤ x ∧ x ≤ 255) → ∀ d ∈ mk k xs, 1 ≤ d.2 ∧ d.2 ≤ 20
  | k, [], _, d, h => by cases h
  | k, x :: xs, w, d, h => by
    simp only [mk, List.mem_cons] at h
    rcases h with rfl | h
    · obtain ⟨A, hA, e⟩ := rem_nat (w x (by simp)).1 (m := 20) (by omega)
      have e' : x.tmod 20 = A := e
      simp only [e']; omega
    · exact mk_at (k + 1) xs (fun x hx => w x (by simp [hx])) d h
theorem mk_uniq : ∀ (k : Nat) (xs : List Int), ∀ d ∈ mk k xs, ∀ e ∈ mk k xs, d.1 = e.1 → d = e
  | k, [], d, h, _, _, _ => by cases h
  | k, x :: xs, d, h, e, h', he => by
    simp only [mk, List.mem_cons] at h h'
    rcases h with rfl | h <;> rcases h' with rfl | h'
    · rfl
    · have := mk_id (k + 1) xs e h'; simp at he this; omega
    · have := mk_id (k + 1) xs d h; simp at he this; omega
    · exact mk_uniq (k + 1) xs d h e h' he
theorem drop_late {ds : List D} (hu : ∀ d ∈ ds, ∀ e ∈ ds, d.1 = e.1 → d = e) (t : Int) : dropR ds (lateL ds t) = ds.filter fun d => decide (t < d.2) := by
  unfold dropR
  apply List.filter_congr
  intro d hd
  by_cases h : d.2 ≤ t
  · have : d.1 ∈ lateL ds t := by
      unfold lateL
      exact List.mem_map.2 ⟨d, List.mem_filter.2 ⟨hd, by simp [h]⟩, rfl⟩
    rw [decide_eq_true this, decide_eq_false (by omega)]; rfl
  · have : ¬ d.1 ∈ lateL ds t := by
      unfold lateL
      intro q
      obtain ⟨e, he, q2⟩ := List.mem_map.1 q
      obtain ⟨h1, h2⟩ := List.mem_filter.1 he
      have := hu e h1 d hd q2
      subst this
      simp at h2; omega
    rw [decide_eq_false this, decide_eq_true (by omega)]; rfl
def left (xs : List Int) (i : Int) : List D := (mk 0 xs).filter fun d => decide (i < d.2)
def wantL (xs : List Int) (t : Int) : List Int := ((mk 0 xs).filter fun d => decide (d.2 = t)).map (·.1)
theorem left_late (xs : List Int) (i : Int) : lateL (left xs i) (i + 1) = wantL xs (i + 1) := by
  unfold lateL left wantL
  rw [List.filter_filter]
  congr 1
  apply List.filter_congr
  intro d _
  by_cases h : d.2 = i + 1
  · simp [h]; omega
  · by_cases h2 : d.2 ≤ i + 1
    · simp [h]; omega
    · simp [h, h2]
theorem left_drop (xs : List Int) (i : Int) : dropR (left xs i) (wantL xs (i + 1)) = left xs (i + 1) := by
  rw [← left_late, drop_late]
  · unfold left
    rw [List.filter_filter]
    apply List.filter_congr
    intro d _
    by_cases h : i + 1 < d.2
    · simp [h]; omega
    · simp [h]
  · intro d hd e he
    exact mk_uniq 0 xs d (List.mem_filter.1 hd).1 e (List.mem_filter.1 he).1
theorem left_len (xs : List Int) (i : Int) : (left xs i).length ≤ xs.length := by
  rw [← mk_len 0 xs]; exact List.length_filter_le _ _
theorem wantL_len (xs : List Int) (i : Int) : (wantL xs i).length ≤ xs.length := by
  rw [← mk_len 0 xs]; simp only [wantL, List.length_map]; exact List.length_filter_le _ _
theorem take_snoc {xs : List Int} {i : Nat} (h : i < xs.length) : xs.take (i + 1) = xs.take i ++ [xs[i]] := by
  rw [List.take_add_one, List.getElem?_eq_getElem h]; rfl

theorem C11 {h : Heap} {a0 : Option Addr} {n0 c0 : Nat} {xs : List Int} (s0 : InS h a0 n0 c0 (xs.map (.int .u8))) (w0 : ∀ x ∈ xs, 0 ≤ x ∧ x ≤ 255) : Fn Try.prog 11 [.slice a0 n0 c0] h fun v _ => v = .bool true := by
  have hn : xs.length = n0 := by simpa using s0.sl.len
  have rem : ∀ i (hi : i < xs.length), ∃ A : Nat, A < 20 ∧ xs[i].tmod 20 = A := fun i hi => rem_nat (w0 _ (List.getElem_mem hi)).1 (m := 20) (by omega)
  refine fnK F11.fok rfl ?_
  refine K_reg (Wops_run rfl rfl (K_fin [(0, _)] rfl (?_)))
  refine K_ss (K_reg (Wops_call rfl C31 ?_))
  rintro _ _ ⟨rfl, rfl⟩
  refine Wops_run rfl rfl (K_fin [(0, _), (10, _)] rfl (?_))
  refine K_scond rfl (fun hc => by cases hc) (fun _ => ?_)
  refine K_sskip (K_ss (K_reg (Wops_run rfl rfl (Wops_run rfl rfl (Wops_run rfl rfl (K_fin [(0, _), (13, _)] rfl (?_)))))))
  refine K_scond rfl (fun hc => ?_) (fun hc => ?_)
  · refine K_ss (K_reg (Wops_run rfl rfl (K_fin [(2, _)] rfl (?_))))
    exact K_sret (Told.mk _ rfl rfl)
  have h10 : n0 ≤ 10 := by have := of_decide_eq_false hc; omega
  clear hc
  refine K_sskip (K_reg (Wops_call rfl C32 ?_))
  rintro _ h1 ⟨p, rfl, q1, x1, n1⟩
  refine Wops_run rfl rfl (K_fin [(0, _), (3, _)] rfl (?_))
  refine K_ss (K_reg (Wops_run rfl rfl (K_fin [(0, _), (3, _), (4, _)] rfl (?_))))
  refine K_sblock ?_
  refine K_loop (fun k e h' => ∃ (i : Nat) (S : Nat → Prop), e = [(0, .slice a0 n0 c0), (3, ptr p), (4, .int .i64 i)] ∧ i ≤ n0 ∧ k = n0 - i ∧ Ck h' p (mk 0 (xs.take i)) 0 S ∧ Ext0 h h' ∧ ∀ j, S j → h.next ≤ j) ?_ (k := n0) ⟨0, _, rfl, by omega, rfl, q1, x1, fun j r => by rw [r]; exact n1⟩
  clear q1 x1 n1 h1
  rintro k e h1 ⟨i, S1, rfl, hi, rfl, q1, x1, n1⟩
  refine K_ss (K_reg (Wops_run rfl rfl (Wops_run rfl rfl (Wops_run rfl rfl (Wops_run rfl rfl (K_fin [(0, _), (3, _), (4, _), (18, _)] rfl (?_)))))))
  refine K_scond rfl (fun hc => ?_) (fun hc => ?_)
  · have hlt : i < n0 := by have := of_decide_eq_true hc; omega
    obtain ⟨A, hA, hAe⟩ := rem i (by omega)
    refine K_sskip (K_sblock ?_)
    have hml := mk_len 0 (xs.take i)
    have hset : setR (mk 0 (xs.take i)) 0 ((i : Int) + 1) (1 + (A : Int)) = (0, mk 0 (xs.take (i + 1))) := by
      unfold setR
      rw [if_neg (by omega), if_neg]
      · rw [take_snoc (by omega), mk_app, hAe, List.length_take, Nat.min_eq_left (by omega)]; simp
      · intro hany
        rw [List.any_eq_true] at hany
        obtain ⟨d, hd, e⟩ := hany
        have h1 := mk_id _ _ d hd
        rw [List.length_take, Nat.min_eq_left (by omega)] at h1
        have := eq_of_beq e
        omega
    refine K_reg (Wops_run rfl rfl (Wops_run rfl rfl (Wops_as (w := .int .i64 ((i : Int) + 1)) rfl rfl (by rw [w64 (by omega)]) (Wops_as (w := .int .u64 ((i : Int) + 1)) rfl rfl (by rw [wrapu (by omega)]) ?_))))
    refine Wops_run rfl rfl (Wops_run rfl rfl (Wops_idx (u := .int .u8 xs[i]) rfl rfl (s0.sl.ext x1) ⟨by omega, by omega⟩ (by simp [hn, hlt]) fun _ => ?_))
    refine Wops_rem rfl rfl (by decide) (Wops_as (w := .int .u64 (A : Int)) rfl rfl (by rw [hAe, wrapu (by omega)]) (Wops_as (w := .int .u64 (1 + (A : Int))) rfl rfl (by rw [wrapu (by omega)]) ?_))
    refine Wops_call rfl (C33 q1 (by rw [hml, List.length_take]; omega) (by omega) (by omega)) ?_
    rw [hset]
    rintro _ h2 ⟨rfl, S2, q2, t2⟩
    refine Wops_neq (v := false) rfl rfl rfl (K_fin [(0, _), (3, _), (4, _), (33, _)] rfl (?_))
    refine K_cond rfl (fun hc => by cases hc) (fun _ => ?_)
    refine K_skip (K_last (Wops_run rfl rfl (Wops_run rfl rfl (Wops_run rfl rfl (K_finL [(0, _), (3, _), (4, _)] rfl (?_))))))
    exact ⟨n0 - (i + 1), by omega, i + 1, S2, by rw [w64s (by omega)], by omega, rfl, q2, t2.ext0 x1 n1, t2.new x1 n1⟩
  have hin : i = n0 := by have := of_decide_eq_false hc; omega
  subst hin
  refine K_sexit (bx_same ?_)
  rw [List.take_of_length_le (show xs.length ≤ i by omega)] at q1
  have q1' : Ck h1 p (left xs 0) 0 S1 := by
    unfold left
    rw [List.filter_eq_self.2 (fun d hd => by have := mk_at 0 xs w0 d hd; simp; omega)]; exact q1
  refine K_ss (K_reg (Wops_run rfl rfl (K_fin [(0, _), (3, _), (5, _)] rfl (?_))))
  refine K_sblock ?_
  refine K_loop (fun k e h' => ∃ (t : Nat) (S : Nat → Prop), e = [(0, .slice a0 i c0), (3, ptr p), (5, .int .i64 ((t : Int) + 1))] ∧ t ≤ 22 ∧ k = 22 - t ∧ Ck h' p (left xs t) t S ∧ Ext0 h h' ∧ ∀ j, S j → h.next ≤ j) ?_ (k := 22) ⟨0, S1, rfl, by omega, rfl, q1', x1, n1⟩
  clear q1 q1' x1 n1 hc
  rintro k e h2 ⟨t, S2, rfl, ht, rfl, q2, x2, n2⟩
  refine K_ss (K_reg (Wops_run rfl rfl ?_))
  by_cases hc : (t : Int) + 1 ≤ 22
  · refine Wops_as (w := .bool true) rfl rfl (by rw [decide_eq_true hc]) (K_fin [(0, _), (3, _), (5, _), (35, _)] rfl (?_))
    refine K_scond rfl (fun _ => ?_) (fun hc => by cases hc)
    refine K_sskip (K_sblock ?_)
    have hll := left_len xs t
    refine K_reg (Wops_run rfl rfl (Wops_call rfl (C34 q2 (by omega) (by omega)) ?_))
    rw [left_late, left_drop]
    rintro _ h3 ⟨al, nl, cl, S3, rfl, sl, bl, q3, t3⟩
    have x3 := t3.ext0 x2 n2
    have n3 := t3.new x2 n2
    have hnl : (wantL xs ((t : Int) + 1)).length = nl := by simpa using sl.len
    have hwl := wantL_len xs ((t : Int) + 1)
    refine Wops_run rfl rfl (K_fin [(0, _), (3, _), (5, _), (6, _)] rfl (?_))
    refine K_reg (Wops_run rfl rfl (K_fin [(0, _), (3, _), (5, _), (6, _), (7, _)] rfl (?_)))
    refine K_ss (K_reg (Wops_run rfl rfl (K_fin [(0, _), (3, _), (5, _), (6, _), (7, _), (8, _)] rfl (?_))))
    refine K_sblock ?_
    refine K_loop (fun k e h' => ∃ (j no co : Nat) (ao : Option Addr), e = [(0, .slice a0 i c0), (3, ptr p), (5, .int .i64 ((t : Int) + 1)), (6, .slice al nl cl), (7, .slice ao no co), (8, .int .i64 j)] ∧ j ≤ i ∧ k = i - j ∧ Ext0 h3 h' ∧ OwS h' 1 ao no co (us (wantL (xs.take j) ((t : Int) + 1))) ∧ ∀ m, Blk ao m → h3.next ≤ m) ?_ (k := i) ⟨0, 0, 0, none, rfl, by omega, rfl, Ext.refl _ _, OwS.none, fun m r => absurd r Blk.none⟩
    rintro k e h4 ⟨j, no, co, ao, rfl, hj, rfl, x4, oo, bo⟩
    refine K_ss (K_reg (Wops_run rfl rfl (Wops_run rfl rfl (Wops_run rfl rfl (Wops_run rfl rfl (K_fin [(0, _), (3, _), (5, _), (6, _), (7, _), (8, _), (43, _)] rfl (?_)))))))
    refine K_scond rfl (fun hc => ?_) (fun hc => ?_)
    · have hlt : j < i := by have := of_decide_eq_true hc; omega
      obtain ⟨A, hA, hAe⟩ := rem j (by omega)
      have hwj := wantL_len (xs.take j) ((t : Int) + 1)
      rw [List.length_take] at hwj
      have hno : (wantL (xs.take j) ((t : Int) + 1)).length = no := by simpa using oo.len
      have hst : wantL (xs.take (j + 1)) ((t : Int) + 1) = wantL (xs.take j) ((t : Int) + 1) ++ if 1 + (A : Int) = (t : Int) + 1 then [(j : Int) + 1] else [] := by
        unfold wantL
        rw [take_snoc (by omega), mk_app, List.filter_append, List.map_append, hAe, List.length_take, Nat.min_eq_left (by omega)]
        by_cases hp : 1 + (A : Int) = (t : Int) + 1 <;> simp [hp]
      refine K_sskip (K_sblock ?_)
      refine K_reg (Wops_run rfl rfl (Wops_run rfl rfl (Wops_idx (u := .int .u8 xs[j]) rfl rfl ((s0.sl.ext x3).ext x4) ⟨by omega, by omega⟩ (by simp [hn, hlt]) fun _ => ?_)))
      refine Wops_rem rfl rfl (by decide) (Wops_as (w := .int .i64 (A : Int)) rfl rfl (by rw [hAe, w64 (by omega)]) (Wops_as (w := .int .i64 (1 + (A : Int))) rfl rfl (by rw [w64 (by omega)]) (Wops_run rfl rfl ?_)))
      refine Wops_eq (v := decide (1 + (A : Int) = (t : Int) + 1)) rfl rfl (by by_cases hp : 1 + (A : Int) = (t : Int) + 1 <;> simp [hp]) (K_fin [(0, _), (3, _), (5, _), (6, _), (7, _), (8, _), (54, _)] rfl (?_))
      refine K_cond rfl (fun hd => ?_) (fun hd => ?_)
      · have hd := of_decide_eq_true hd
        refine K_last (Wops_run rfl rfl (Wops_run rfl rfl (Wops_as (w := .int .i64 ((j : Int) + 1)) rfl rfl (by rw [w64 (by omega)]) (Wops_as (w := .int .u64 ((j : Int) + 1)) rfl rfl (by rw [wrapu (by omega)]) ?_))))
        refine Wops_bslice (l := us [(j : Int) + 1]) rfl rfl fun h5 n5 x5 g5 => ?_
        refine Wops_app rfl rfl (oo.ext x5) rfl (OwS.new (n := 1) (c := 1) g5 rfl).sl.first ⟨by omega, by omega⟩ rfl rfl (by decide) fun h6 a6 c6 x6 o6 b6 => ?_
        refine Wops_run rfl rfl (K_finL [(0, _), (3, _), (5, _), (6, _), (7, _), (8, _)] rfl (?_))
        refine K_last (Wops_run rfl rfl (Wops_run rfl rfl (Wops_run rfl rfl (K_finL [(0, _), (3, _), (5, _), (6, _), (7, _), (8, _)] rfl (?_)))))
        have e4 := x4.next
        refine ⟨i - (j + 1), by omega, j + 1, no + 1, c6, a6, by rw [w64s (by omega)], by omega, rfl, (x4.trans x5).then x6 fun m r => .inr (bo m r), ?_, fun m r => (b6 m r).elim (bo m) fun r => by omega⟩
        rw [hst, if_pos hd, us, List.map_append]; exact o6
      · have hd := of_decide_eq_false hd
        refine K_skip (K_last (Wops_run rfl rfl (Wops_run rfl rfl (Wops_run rfl rfl (K_finL [(0, _), (3, _), (5, _), (6, _), (7, _), (8, _)] rfl (?_))))))
        refine ⟨i - (j + 1), by omega, j + 1, no, co, ao, by rw [w64s (by omega)], by omega, rfl, x4, ?_, bo⟩
        rw [hst, if_neg hd, List.append_nil]; exact oo
    · have hji : j = i := by have := of_decide_eq_false hc; omega
      subst hji
      rw [List.take_of_length_le (show xs.length ≤ j by omega)] at oo
      refine K_sexit (bx_same ?_)
      have q4 := q3.ext0 x4
      refine K_reg (Wops_run rfl rfl (Wops_run rfl rfl (Wops_call rfl (C35 (sl.ext x4) oo.sl (by omega)) ?_)))
      rintro _ _ ⟨rfl, rfl⟩
      rw [decide_eq_true rfl]
      refine Wops_run rfl rfl (Wops_run rfl rfl (Wops_go rfl (Wops_run rfl rfl (Wops_go rfl (Wops_call rfl (C36 q4) ?_)))))
      rintro _ _ ⟨rfl, rfl⟩
      refine Wops_go rfl (Wops_run rfl rfl (Wops_go rfl (Wops_as (w := .int .u64 ((t : Int) + 1)) rfl rfl (by rw [wrapu (by omega)]) (Wops_go rfl (Wops_neq (v := false) rfl rfl (by simp) (Wops_run rfl rfl (K_fin [(0, _), (3, _), (5, _), (71, _)] rfl (?_))))))))
      refine K_cond rfl (fun hc => by cases hc) (fun _ => ?_)
      refine K_skip (K_last (Wops_run rfl rfl (Wops_as (w := .int .i64 ((t : Int) + 1 + 1)) rfl rfl (by rw [w64 (by omega)]) (Wops_run rfl rfl (K_finL [(0, _), (3, _), (5, _)] rfl (?_))))))
      exact ⟨22 - (t + 1), by omega, t + 1, S3, by simp, by omega, rfl, by simpa using q4, x3.trans x4, n3⟩
  · refine Wops_as (w := .bool false) rfl rfl (by rw [decide_eq_false hc]) (K_fin [(0, _), (3, _), (5, _), (35, _)] rfl (?_))
    refine K_scond rfl (fun hc => by cases hc) (fun _ => ?_)
    refine K_sexit (bx_same ?_)
    refine K_reg (Wops_run rfl rfl (K_fin [(2, _)] rfl (?_)))
    exact K_ret (Told.mk _ rfl rfl)
set_option maxRecDepth 100000 in
theorem clockLate_fn {L : List (List Value)} {vs : List Value} (hG : FlatG Try.prog 0 [30] vs L) : Fn Try.prog 11 vs (flatH L) fun v _ => v = .bool true := by
  obtain ⟨a, m, c, l, r, k2, L2, L3, rfl, s, hl, _, _, hF⟩ := flat_slice (P := Try.prog) (k := 0) (t := 30) (ts := []) (L0 := []) (L := L) (L' := L) Try.underlying30 rfl rfl hG
  obtain rfl := flat_nil hF
  obtain ⟨xs, rfl, hw⟩ := scal_ints Try.underlying5 hl
  exact C11 s (fun x hx => wf_u8 (hw x hx))
end Go.Dx.SYtfhdeagbgdnkaaa
