/- ClockAll: the document's Tick; steps of the walk. -/
import Derived.Test.YtfhdeagbgdnkaaaCk7
import Derived.Test.YtfhdeagbgdnkaaaDx30
namespace Go.Dx.SYtfhdeagbgdnkaaa
open Go.Proofs
set_option linter.unusedVariables false
set_option linter.unusedSimpArgs false

def wt (ds : List D) (t : Int) : List Int := (ds.filter fun d => decide (d.2 = t)).map (·.1)
theorem wt_late {ds : List D} {now : Int} (hf : ∀ d ∈ ds, now < d.2) : wt ds (now + 1) = lateL ds (now + 1) := by
  unfold wt lateL
  congr 1
  apply List.filter_congr
  intro d hd
  have := hf d hd
  by_cases h : d.2 = now + 1
  · simp [h]
  · rw [decide_eq_false h, decide_eq_false (by omega)]
theorem wt_len (ds : List D) (t : Int) : (wt ds t).length ≤ ds.length := by simp only [wt, List.length_map]; exact List.length_filter_le _ _

/-- the document's Tick -/
theorem C41 {h : Heap} {p : Nat} {ds : List D} {now : Int} {S : Nat → Prop} (u : Uq ds) (hf : ∀ d ∈ ds, now < d.2) (q : Dk h p ds now S) (hb : ds.length ≤ 1000) (hnow : 0 ≤ now ∧ now ≤ 1000000) :
    Fn Try.prog 41 [ptr p] h fun v h' => ∃ ao no co S', v = .slice ao no co ∧ SlA h' 1 ao no co (us (lateL ds (now + 1))) ∧ Dk h' p (dropR ds (lateL ds (now + 1))) (now + 1) S' ∧ Turn h h' S S' := by
  obtain ⟨a, n, c, b, m, d, g, s, s2, hpa, hpb, hl, hS⟩ := id q
  have hn : ds.length = n := by have := s.len; simpa using this
  have hm : ds.length = m := by have := s2.len; simpa using this
  have np : ∀ {a' : Option Addr}, ¬ Blk a' p → ∀ i, Blk a' i → ¬ i = p := fun hp i r e => hp (by rw [← e]; exact r)
  refine fnK F41.fok rfl ?_
  refine K_reg (Wops_run rfl rfl (K_fin [(0, _)] rfl (?_)))
  refine K_reg (Wops_run rfl rfl (Wops_run rfl rfl (Wops_run rfl rfl (Wops_ld rfl g (by rfl) ?_))))
  refine Wops_as (w := .int .u64 (now + 1)) rfl rfl (by rw [wrapu (by omega)]) (Wops_run rfl rfl (Wops_run rfl rfl (Wops_st rfl rfl rfl rfl g (by simp) rfl fun h1 n1 x1 g1 => ?_)))
  refine K_fin [(0, _)] rfl (?_)
  have g1' : At h1 p (.cells [.int .u64 (now + 1), .slice a n c, .slice b m d] 0 false) := g1
  have s1 := s.ext x1 (np hpa)
  have s21 := s2.ext x1 (np hpb)
  have q1 : Dk h1 p ds (now + 1) S := ⟨a, n, c, b, m, d, g1', s1, s21, hpa, hpb, fun i r => Nat.lt_of_lt_of_le (hl i r) x1.next, hS⟩
  have x1' : Ext S h h1 := x1.mono fun i _ r => (hS i).2 (.inl r)
  refine K_reg (Wops_run rfl rfl (K_fin [(0, _), (3, _)] rfl (?_)))
  refine K_ss (K_reg (Wops_run rfl rfl (K_fin [(0, _), (3, _), (4, _)] rfl (?_))))
  refine K_sblock ?_
  refine K_loop (fun k e h' => ∃ (i no co : Nat) (ao : Option Addr), e = [(0, ptr p), (3, .slice ao no co), (4, .int .i64 i)] ∧ i ≤ n ∧ k = n - i ∧ Ext0 h1 h' ∧ OwS h' 1 ao no co (us (wt (ds.take i) (now + 1))) ∧ ∀ j, Blk ao j → h1.next ≤ j) ?_ (k := n) ⟨0, 0, 0, none, rfl, by omega, rfl, Ext.refl _ _, OwS.none, fun j r => absurd r Blk.none⟩
  rintro k e h' ⟨i, no, co, ao, rfl, hi, rfl, x', oo, bo⟩
  have g' := x'.some0 g1'
  refine K_ss (K_reg (Wops_run rfl rfl (Wops_run rfl rfl (Wops_run rfl rfl (Wops_run rfl rfl (Wops_ld rfl g' (by rfl) ?_))))))
  refine Wops_run rfl rfl (Wops_run rfl rfl (K_fin [(0, _), (3, _), (4, _), (18, _)] rfl (?_)))
  refine K_scond rfl (fun hc => ?_) (fun hc => ?_)
  · have hlt : i < n := by have := of_decide_eq_true hc; omega
    have hll := wt_len (ds.take i) (now + 1)
    rw [List.length_take] at hll
    have hol : (wt (ds.take i) (now + 1)).length = no := by simpa using oo.len
    have hst : wt (ds.take (i + 1)) (now + 1) = wt (ds.take i) (now + 1) ++ if ds[i].2 = now + 1 then [ds[i].1] else [] := by
      unfold wt
      rw [List.take_add_one, List.filter_append, List.getElem?_eq_getElem (show i < ds.length by omega), List.map_append]
      by_cases hp : ds[i].2 = now + 1 <;> simp [hp]
    refine K_sskip (K_sblock ?_)
    refine K_reg (Wops_run rfl rfl (Wops_run rfl rfl (Wops_run rfl rfl (Wops_ld rfl g' (by rfl) ?_))))
    refine Wops_run rfl rfl (Wops_idx (u := .int .u64 ds[i].2) rfl rfl (s21.ext x') ⟨by omega, by omega⟩ (by simp [us, hlt, hn]) fun _ => ?_)
    refine Wops_run rfl rfl (Wops_run rfl rfl (Wops_run rfl rfl (Wops_ld rfl g' (by rfl) ?_)))
    refine Wops_eq (v := decide (ds[i].2 = now + 1)) rfl rfl (by by_cases hp : ds[i].2 = now + 1 <;> simp [hp]) (K_fin [(0, _), (3, _), (4, _), (32, _)] rfl (?_))
    refine K_cond rfl (fun hd => ?_) (fun hd => ?_)
    · have hd := of_decide_eq_true hd
      refine K_last (Wops_run rfl rfl (Wops_run rfl rfl (Wops_run rfl rfl (Wops_run rfl rfl (Wops_ld rfl g' (by rfl) ?_)))))
      refine Wops_run rfl rfl (Wops_idx (u := .int .u64 ds[i].1) rfl rfl (s1.ext x') ⟨by omega, by omega⟩ (by simp [us, hlt, hn]) fun _ => ?_)
      refine Wops_bslice (l := us [ds[i].1]) rfl rfl fun h4 n4 x4 g4 => ?_
      refine Wops_app rfl rfl (oo.ext x4) rfl (OwS.new (n := 1) (c := 1) g4 rfl).sl.first ⟨by omega, by omega⟩ rfl rfl (by decide) fun h5 a5 c5 x5 o5 b5 => ?_
      refine Wops_run rfl rfl (K_finL [(0, _), (3, _), (4, _)] rfl (?_))
      refine K_last (Wops_run rfl rfl (Wops_run rfl rfl (Wops_run rfl rfl (K_finL [(0, _), (3, _), (4, _)] rfl (?_)))))
      have e1 := x'.next
      refine ⟨n - (i + 1), by omega, i + 1, no + 1, c5, a5, by rw [w64s (by omega)], by omega, rfl, (x'.trans x4).then x5 fun j r => .inr (bo j r), ?_, fun j r => (b5 j r).elim (bo j) fun r => by omega⟩
      rw [hst, if_pos hd, us, List.map_append]; exact o5
    · have hd := of_decide_eq_false hd
      refine K_skip (K_last (Wops_run rfl rfl (Wops_run rfl rfl (Wops_run rfl rfl (K_finL [(0, _), (3, _), (4, _)] rfl (?_))))))
      refine ⟨n - (i + 1), by omega, i + 1, no, co, ao, by rw [w64s (by omega)], by omega, rfl, x', ?_, bo⟩
      rw [hst, if_neg hd, List.append_nil]; exact oo
  · have hin : i = n := by have := of_decide_eq_false hc; omega
    rw [List.take_of_length_le (show ds.length ≤ i by omega), wt_late hf] at oo
    have hll := lateL_len ds (now + 1)
    have hol : (lateL ds (now + 1)).length = no := by simpa using oo.len
    refine K_sexit (bx_same ?_)
    refine K_reg (Wops_run rfl rfl (Wops_run rfl rfl (Wops_call rfl (C40 u (q1.ext0 x') oo.sl (fun i r => ⟨oo.lt r, fun e => by have := q1.lt e; have := bo i r; omega⟩) hb (by omega)) ?_)))
    rintro _ h2 ⟨S', q2, t2⟩
    refine K_fin [(3, _)] rfl (?_)
    refine K_reg (Wops_run rfl rfl (Wops_run rfl rfl (K_fin [(2, _)] rfl (?_))))
    exact K_ret (Told.mk _ rfl ⟨ao, no, co, S', rfl, oo.sl.ext t2.ext (fun i r e => by have := q1.lt e; have := bo i r; omega), q2, (Turn.mk (x1'.then0 x') fun i r => .inl r).trans t2⟩)

theorem setR_uq {ds : List D} {now x t : Int} (u : Uq ds) (hf : ∀ d ∈ ds, now < d.2) (ht : 0 ≤ t) : Uq (setR ds now x t).2 ∧ (∀ d ∈ (setR ds now x t).2, now < d.2) ∧ (setR ds now x t).2.length ≤ ds.length + 1 := by
  unfold setR
  split
  · exact ⟨u, hf, by simp⟩
  · rename_i h0
    split
    · exact ⟨u, hf, by simp⟩
    · rename_i h1
      refine ⟨?_, fun d hd => ?_, by simp⟩
      · show ((ds ++ [(x, now + t)]).map (·.1)).Nodup
        rw [List.map_append, List.nodup_append]
        refine ⟨u, by simp, fun a ha b hb => ?_⟩
        simp at hb; subst hb
        intro e; subst e
        obtain ⟨d, hd, e⟩ := List.mem_map.1 ha
        exact h1 (List.any_eq_true.2 ⟨d, hd, by simp [e]⟩)
      · rcases List.mem_append.1 hd with hd | hd
        · exact hf d hd
        · simp at hd; subst hd; simp; omega
theorem dropR_fut {ds : List D} {now : Int} {ids : List Int} (hf : ∀ d ∈ ds, now < d.2) : ∀ d ∈ dropR ds ids, now < d.2 := fun d hd => hf d (List.mem_filter.1 hd).1
theorem tick_fut {ds : List D} {now : Int} (hf : ∀ d ∈ ds, now < d.2) : ∀ d ∈ dropR ds (lateL ds (now + 1)), now + 1 < d.2 := fun d hd => by
  obtain ⟨h1, h2⟩ := List.mem_filter.1 hd
  have := hf d h1
  apply Classical.byContradiction
  intro h
  have : d.1 ∈ lateL ds (now + 1) := List.mem_map.2 ⟨d, List.mem_filter.2 ⟨h1, by simp; omega⟩, rfl⟩
  rw [decide_eq_true this] at h2
  cases h2
theorem at_own {ds : List D} (u : Uq ds) {i : Nat} (hi : i < ds.length) : atR ds ds[i].1 = (ds[i].2, true) := by
  have hfd : ds.find? (fun d => d.1 == ds[i].1) = some ds[i] := List.find?_eq_some_iff_getElem.2 ⟨by simp, i, hi, rfl, fun j hj => by
    have h1 := List.pairwise_iff_getElem.1 (show List.Pairwise (· ≠ ·) (ds.map (·.1)) from u) j i (by simp; omega) (by simpa using hi) hj
    simp at h1
    simp [h1]⟩
  unfold atR
  rw [hfd]
theorem at_is (ds : List D) (x : Int) : (atR ds x).2 = decide (x ∈ ds.map (·.1)) := by
  unfold atR
  cases h : ds.find? fun d => d.1 == x with
  | none =>
    have := List.find?_eq_none.1 h
    refine (decide_eq_false fun q => ?_).symm
    obtain ⟨d, hd, e⟩ := List.mem_map.1 q
    exact this d hd (by simp [e])
  | some d =>
    refine (decide_eq_true ?_).symm
    have h1 := List.mem_of_find?_eq_some h
    have h2 := List.find?_some h
    simp at h2
    exact List.mem_map.2 ⟨d, h1, h2⟩
theorem row4 {vs l : List Value} {off n i : Nat} {c0 c1 c2 c3 : Value} (h3 : ∀ m, m < n * 4 → vs[off + m]? = l[m]?) (hi : i < n) (e0 : l[i * 4 + 0]? = some c0) (e1 : l[i * 4 + 1]? = some c1) (e2 : l[i * 4 + 2]? = some c2) (e3 : l[i * 4 + 3]? = some c3) : (vs.drop (off + i * 4)).take 4 = [c0, c1, c2, c3] := by
  apply List.ext_getElem?
  intro m
  by_cases hm : m < 4
  · rw [List.getElem?_take_of_lt hm, List.getElem?_drop, Nat.add_assoc, h3 _ (by omega)]
    match m, hm with
    | 0, _ => exact e0
    | 1, _ => exact e1
    | 2, _ => exact e2
    | 3, _ => exact e3
  · rw [List.getElem?_eq_none (by simp; omega), List.getElem?_eq_none (by simp; omega)]
/-- Operations that came in. -/
def InOps (h : Heap) (l : List Value) (n : Nat) : Prop :=
  ∀ i, i < n → ∃ (k id tk : Int) (a : Option Addr) (m c : Nat) (ids : List Int), l[i * 4 + 0]? = some (.int .i64 k) ∧ l[i * 4 + 1]? = some (.int .u64 id) ∧ l[i * 4 + 2]? = some (.int .u64 tk) ∧ l[i * 4 + 3]? = some (.slice a m c) ∧ InS h a m c (us ids) ∧ 0 ≤ tk
structure CC (h h' : Heap) (pa pb : Nat) (ds : List D) (now : Int) (Sa Sb : Nat → Prop) (po : Nat) (cs : List Value) : Prop where
  x : Ext0 h h'
  qa : Ck h' pa ds now Sa
  qb : Dk h' pb ds now Sb
  d : Dis Sa Sb
  na : ∀ i, Sa i → h.next ≤ i
  nb : ∀ i, Sb i → h.next ≤ i
  u : Uq ds
  f : ∀ d ∈ ds, now < d.2
  g : At h' po (.cells cs 0 false)
  ga : ¬ Sa po
  gb : ¬ Sb po
end Go.Dx.SYtfhdeagbgdnkaaa
