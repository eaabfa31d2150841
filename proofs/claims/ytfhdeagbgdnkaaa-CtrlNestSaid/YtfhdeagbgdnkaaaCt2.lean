/- Contracts of ctrl: half, closes, one. -/
import Derived.Test.YtfhdeagbgdnkaaaCt1
namespace Go.Dx.SYtfhdeagbgdnkaaa
open Go.Proofs
set_option linter.unusedVariables false
set_option linter.unusedSimpArgs false

def halfP (ops : List Int) (i : Nat) (st : List Nat) (es : Bl) : Bool × Bl := match st.getLast? with
  | none => (false, es)
  | some k => if ops.getD k 0 ≠ 4 ∨ ((getM k es).getD (0, 0)).1 ≠ -1 then (false, es) else (true, putM k ((i : Int), 0) es)
def closeP (ops : List Int) (i : Nat) (st : List Nat) (es : Bl) : Bool × List Nat × Bl := match st.getLast? with
  | none => (decide (i + 1 = ops.length), st, es)
  | some k => (true, st.dropLast, putM k (((getM k es).getD (0, 0)).1, (i : Int)) es)

/-- An instruction's place, and what it is. -/
theorem Ins.at {h : Heap} {a : Option Addr} {n c : Nat} {l : List Value} {ops : List Int} (s : Ins h a n c l ops) {k : Nat} (hk : k < ops.length) {vs : List Value} {off : Nat} (hv : ∀ i, i < n * 6 → vs[off + i]? = l[i]?) : vs[off + (k : Int).toNat * 6 + 0]? = some (.int .i64 (ops.getD k 0)) := by
  have hn := s.len
  rw [Int.toNat_natCast, Nat.add_assoc, hv _ (by omega), s.op k hk, List.getD_eq_getElem?_getD, List.getElem?_eq_getElem hk]; rfl

set_option maxHeartbeats 1000000 in
/-- walker.half -/
theorem C72 {h : Heap} {w m i : Nat} {la : Option Addr} {ln lc : Nat} {l : List Value} {ops : List Int} {st : List Nat} {es : Bl} {dep : Nat} {S : Nat → Prop} (q : Wk h w m la ln lc st es dep S) (I : Ins h la ln lc l ops) (hst : ∀ k ∈ st, k < ops.length) (hb : st.length ≤ 1000000) :
    Fn Try.prog 72 [ptr w, .int .i64 (i : Int)] h fun v h' => v = .bool (halfP ops i st es).1 ∧ Wk h' w m la ln lc st (halfP ops i st es).2 dep S ∧ Turn h h' S S := by
  have hQ := q
  obtain ⟨sa, sc, g, o, gm, d1, d2, d3, hS⟩ := id q
  refine fnK F72.fok rfl ?_
  refine K_reg (Wops_run rfl rfl (K_fin [(0, _), (1, _)] rfl (?_)))
  rcases List.eq_nil_or_concat st with rfl | ⟨s0, k, rfl⟩
  · refine K_reg (Wops_run rfl rfl (Wops_run rfl rfl (Wops_run rfl rfl (Wops_call rfl (C78 q hb) ?_))))
    rintro _ _ ⟨rfl, rfl⟩
    refine Wops_run rfl rfl (Wops_run rfl rfl (Wops_run rfl rfl (Wops_run rfl rfl (Wops_run rfl rfl (K_fin [(0, _), (1, _), (5, _), (6, _)] rfl (?_))))))
    refine K_ss (K_reg ?_)
    repeat (first | refine Wops_skip rfl ?_ | refine Wops_run rfl rfl ?_)
    refine K_fin [(0, _), (1, _), (5, _), (36, .bool true)] rfl (?_)
    refine K_scond rfl (fun _ => ?_) (fun hc => by cases hc)
    refine K_ss (K_reg (Wops_run rfl rfl (K_fin [(4, _)] rfl (?_))))
    exact K_sret (Told.mk _ rfl ⟨rfl, hQ, Turn.refl _ _⟩)
  rw [List.concat_eq_append] at *
  have hk : k < ops.length := hst k (by simp)
  have hlast : (s0 ++ [k]).getLast? = some k := by simp
  refine K_reg (Wops_run rfl rfl (Wops_run rfl rfl (Wops_run rfl rfl (Wops_call rfl ((C78 q hb).mono (Q' := fun v h' => v = .tuple ⟨[.int .i64 (k : Int), .bool true]⟩ ∧ h = h') fun v h' r => ⟨by rw [r.1]; simp, r.2⟩) ?_))))
  rintro _ _ ⟨rfl, rfl⟩
  refine Wops_run rfl rfl (Wops_run rfl rfl (Wops_run rfl rfl (Wops_run rfl rfl (Wops_run rfl rfl (K_fin [(0, _), (1, _), (5, _), (6, _)] rfl (?_))))))
  refine K_ss (K_reg (Wops_run rfl rfl (Wops_run rfl rfl (Wops_run rfl rfl (Wops_go rfl (Wops_run rfl rfl (Wops_go rfl (Wops_run rfl rfl (Wops_go rfl (Wops_run rfl rfl (Wops_go rfl (Wops_ld rfl g (by rfl) (Wops_go rfl (Wops_run rfl rfl (Wops_go rfl ?_)))))))))))))))
  refine Wops_iaS rfl rfl I.sl ⟨by omega, by have := I.len; omega⟩ fun id off vs ez ro _ v1 v2 v3 => ?_
  refine Wops_go rfl (Wops_run rfl rfl (Wops_go rfl (Wops_ld rfl v1 (I.at hk v3) (Wops_go rfl ?_))))
  by_cases h4 : ops.getD k 0 = 4
  rotate_left
  · refine Wops_neq (v := true) rfl rfl (by simpa using h4) (Wops_run rfl rfl ?_)
    repeat (first | refine Wops_skip rfl ?_ | refine Wops_run rfl rfl ?_)
    refine K_fin [(0, _), (1, _), (5, _), (36, .bool true)] rfl (?_)
    refine K_scond rfl (fun _ => ?_) (fun hc => by cases hc)
    refine K_ss (K_reg (Wops_run rfl rfl (K_fin [(4, _)] rfl (?_))))
    have hP : halfP ops i (s0 ++ [k]) es = (false, es) := by unfold halfP; rw [hlast]; simp only; rw [if_pos (.inl h4)]
    rw [hP]
    exact K_sret (Told.mk _ rfl ⟨rfl, hQ, Turn.refl _ _⟩)
  refine Wops_neq (v := false) rfl rfl (by rw [h4]; rfl) (Wops_run rfl rfl (Wops_run rfl rfl ?_))
  refine Wops_go rfl (Wops_run rfl rfl (Wops_go rfl (Wops_run rfl rfl (Wops_go rfl (Wops_run rfl rfl (Wops_go rfl (Wops_ld rfl g (by rfl) (Wops_go rfl (Wops_run rfl rfl (Wops_go rfl (Wops_look rfl rfl gm (Wops_go rfl (Wops_run rfl rfl (Wops_go rfl ?_))))))))))))))
  by_cases he : ((getM k es).getD (0, 0)).1 = -1
  rotate_left
  · refine Wops_neq (v := true) rfl rfl (by simpa using he) (Wops_run rfl rfl (K_fin [(0, _), (1, _), (5, _), (36, .bool true)] rfl (?_)))
    refine K_scond rfl (fun _ => ?_) (fun hc => by cases hc)
    refine K_ss (K_reg (Wops_run rfl rfl (K_fin [(4, _)] rfl (?_))))
    have hP : halfP ops i (s0 ++ [k]) es = (false, es) := by unfold halfP; rw [hlast]; simp only; rw [if_pos (.inr he)]
    rw [hP]
    exact K_sret (Told.mk _ rfl ⟨rfl, hQ, Turn.refl _ _⟩)
  refine Wops_neq (v := false) rfl rfl (by rw [he]; rfl) (Wops_run rfl rfl (K_fin [(0, _), (1, _), (5, _), (36, .bool false)] rfl (?_)))
  refine K_scond rfl (fun hc => by cases hc) (fun _ => ?_)
  refine K_sskip (K_reg (Wops_run rfl rfl (Wops_run rfl rfl (Wops_run rfl rfl (Wops_ld rfl g (by rfl) (Wops_run rfl rfl (Wops_run rfl rfl (Wops_run rfl rfl ?_))))))))
  refine Wops_mput (b := ((i : Int), 0)) rfl rfl rfl gm fun h1 n1 x1 g1 => ?_
  refine K_fin [] rfl (?_)
  refine K_reg (Wops_run rfl rfl (K_fin [(4, _)] rfl (?_)))
  have hP : halfP ops i (s0 ++ [k]) es = (true, putM k ((i : Int), 0) es) := by unfold halfP; rw [hlast]; simp only; rw [if_neg (fun q => q.elim (fun q => q h4) fun q => q he)]
  rw [hP]
  refine K_ret (Told.mk _ rfl ⟨rfl, ⟨sa, sc, g.ext x1 (fun e => d3 e.symm), o.ext x1 (fun j r e => d2 (by rw [← e]; exact r)), g1, d1, d2, d3, hS⟩, x1.mono fun j _ r => (hS j).2 (.inr (.inl r)), fun j r => .inl r⟩)

set_option maxHeartbeats 1000000 in
/-- walker.closes -/
theorem C73 {h : Heap} {w m i : Nat} {la : Option Addr} {ln lc : Nat} {l : List Value} {ops : List Int} {st : List Nat} {es : Bl} {dep : Nat} {S : Nat → Prop} (q : Wk h w m la ln lc st es dep S) (I : Ins h la ln lc l ops) (hi : i < ops.length) (hb : st.length ≤ 1000000) :
    Fn Try.prog 73 [ptr w, .int .i64 (i : Int)] h fun v h' => v = .bool (closeP ops i st es).1 ∧ Wk h' w m la ln lc (closeP ops i st es).2.1 (closeP ops i st es).2.2 dep S ∧ Turn h h' S S := by
  have hln := I.len
  have hbig := I.big
  refine fnK F73.fok rfl ?_
  refine K_reg (Wops_run rfl rfl (K_fin [(0, _), (1, _)] rfl (?_)))
  rcases List.eq_nil_or_concat st with rfl | ⟨s0, k, rfl⟩
  · refine K_reg (Wops_run rfl rfl (Wops_run rfl rfl (Wops_run rfl rfl (Wops_call rfl (C79 q hb) ?_))))
    rintro _ h1 ⟨rfl, q1, t1⟩
    obtain ⟨sa, sc, g, o, gm, d1, d2, d3, hS⟩ := id q1
    refine Wops_run rfl rfl (Wops_run rfl rfl (Wops_run rfl rfl (Wops_run rfl rfl (Wops_run rfl rfl (K_fin [(0, _), (1, _), (5, _), (6, _)] rfl (?_))))))
    refine K_ss (K_reg (Wops_run rfl rfl (Wops_run rfl rfl (K_fin [(0, _), (1, _), (5, _), (15, _)] rfl (?_)))))
    refine K_scond rfl (fun _ => ?_) (fun hc => by cases hc)
    refine K_ss (K_reg (Wops_run rfl rfl (Wops_run rfl rfl (Wops_run rfl rfl (Wops_run rfl rfl (Wops_ld rfl g (by rfl) (Wops_run rfl rfl ?_)))))))
    refine Wops_as (w := .int .i64 ((ln : Int) - 1)) rfl rfl (by rw [w64 (by omega)]) (Wops_eq (v := decide (i + 1 = ops.length)) rfl rfl ?_ (Wops_run rfl rfl (K_fin [(4, _)] rfl (?_))))
    · by_cases he : i + 1 = ops.length
      · rw [decide_eq_true he]; simp; omega
      · rw [decide_eq_false he]; simp; omega
    exact K_sret (Told.mk _ rfl ⟨rfl, q1, t1⟩)
  rw [List.concat_eq_append] at *
  have hlast : (s0 ++ [k]).getLast? = some k := by simp
  refine K_reg (Wops_run rfl rfl (Wops_run rfl rfl (Wops_run rfl rfl (Wops_call rfl ((C79 q hb).mono (Q' := fun v h' => v = .tuple ⟨[.int .i64 (k : Int), .bool true]⟩ ∧ Wk h' w m la ln lc (s0 ++ [k]).dropLast es dep S ∧ Turn h h' S S) fun v h' r => ⟨by rw [r.1]; simp, r.2⟩) ?_))))
  rintro _ h1 ⟨rfl, q1, t1⟩
  obtain ⟨sa, sc, g, o, gm, d1, d2, d3, hS⟩ := id q1
  refine Wops_run rfl rfl (Wops_run rfl rfl (Wops_run rfl rfl (Wops_run rfl rfl (Wops_run rfl rfl (K_fin [(0, _), (1, _), (5, _), (6, _)] rfl (?_))))))
  refine K_ss (K_reg (Wops_run rfl rfl (Wops_run rfl rfl (K_fin [(0, _), (1, _), (5, _), (15, _)] rfl (?_)))))
  refine K_scond rfl (fun hc => by cases hc) (fun _ => ?_)
  refine K_sskip (K_reg (Wops_run rfl rfl (Wops_run rfl rfl (Wops_run rfl rfl (Wops_ld rfl g (by rfl) (Wops_run rfl rfl (Wops_run rfl rfl (Wops_run rfl rfl (Wops_run rfl rfl (Wops_ld rfl g (by rfl) (Wops_run rfl rfl (Wops_look rfl rfl gm (Wops_run rfl rfl (Wops_run rfl rfl (Wops_run rfl rfl ?_)))))))))))))))
  refine Wops_mput (b := (((getM k es).getD (0, 0)).1, (i : Int))) rfl rfl rfl gm fun h2 n2 x2 g2 => ?_
  refine K_fin [] rfl (?_)
  refine K_reg (Wops_run rfl rfl (K_fin [(4, _)] rfl (?_)))
  have hP : closeP ops i (s0 ++ [k]) es = (true, (s0 ++ [k]).dropLast, putM k (((getM k es).getD (0, 0)).1, (i : Int)) es) := by unfold closeP; rw [hlast]
  rw [hP]
  refine K_ret (Told.mk _ rfl ⟨rfl, ⟨sa, sc, g.ext x2 (fun e => d3 e.symm), o.ext x2 (fun j r e => d2 (by rw [← e]; exact r)), g2, d1, d2, d3, hS⟩, t1.trans ⟨x2.mono fun j _ r => (hS j).2 (.inr (.inl r)), fun j r => .inl r⟩⟩)

abbrev Wst := List Nat × Bl × Nat
def oneP (ops : List Int) (i : Nat) (s : Wst) : Bool × Wst :=
  if ops.getD i 0 = 2 ∨ ops.getD i 0 = 3 ∨ ops.getD i 0 = 4 then (true, s.1 ++ [i], putM i (-1, 0) s.2.1, max s.2.2 (s.1.length + 1))
  else if ops.getD i 0 = 5 then ((halfP ops i s.1 s.2.1).1, s.1, (halfP ops i s.1 s.2.1).2, s.2.2)
  else if ops.getD i 0 = 11 then ((closeP ops i s.1 s.2.1).1, (closeP ops i s.1 s.2.1).2.1, (closeP ops i s.1 s.2.1).2.2, s.2.2)
  else (true, s)

set_option maxHeartbeats 1000000 in
/-- walker.one -/
theorem C57 {h : Heap} {w m i : Nat} {la : Option Addr} {ln lc : Nat} {l : List Value} {ops : List Int} {st : List Nat} {es : Bl} {dep : Nat} {S : Nat → Prop} (q : Wk h w m la ln lc st es dep S) (I : Ins h la ln lc l ops) (hla : ∀ j, Blk la j → ¬ S j) (hi : i < ops.length) (hst : ∀ k ∈ st, k < ops.length) (hb : st.length ≤ 1000000) :
    Fn Try.prog 57 [ptr w, .int .i64 (i : Int)] h fun v h' => v = .bool (oneP ops i (st, es, dep)).1 ∧ ∃ S', Wk h' w m la ln lc (oneP ops i (st, es, dep)).2.1 (oneP ops i (st, es, dep)).2.2.1 (oneP ops i (st, es, dep)).2.2.2 S' ∧ Turn h h' S S' := by
  have hln := I.len
  obtain ⟨sa, sc, g, o, gm, d1, d2, d3, hS⟩ := id q
  refine fnK F57.fok rfl ?_
  refine K_reg (Wops_run rfl rfl (K_fin [(0, _), (1, _)] rfl (?_)))
  refine K_ss (K_reg (Wops_run rfl rfl (Wops_run rfl rfl (Wops_run rfl rfl (Wops_ld rfl g (by rfl) (Wops_run rfl rfl ?_))))))
  refine Wops_iaS rfl rfl I.sl ⟨by omega, by omega⟩ fun id off vs ez ro _ v1 v2 v3 => ?_
  refine Wops_run rfl rfl (Wops_ld rfl v1 (I.at hi v3) ?_)
  refine K_fin [(0, _), (1, _), (12, _)] rfl (?_)
  generalize hop : ops.getD i 0 = op
  refine K_sblock ?_
  refine K_join (fun e h' => e = [(0, ptr w), (1, .int .i64 (i : Int)), (12, .int .i64 op), (13, .bool (decide (op = 2 ∨ op = 3 ∨ op = 4)))] ∧ h = h') ?_ ?_
  · by_cases h2 : op = 2
    · refine K_reg (Wops_eq (v := true) rfl rfl (by rw [h2]; rfl) (Wops_run rfl rfl (K_fin [(0, _), (1, _), (12, _), (13, _)] rfl (?_))))
      refine K_cond rfl (fun _ => ?_) (fun hc => by cases hc)
      exact K_skip ⟨by rw [decide_eq_true (.inl h2)], rfl⟩
    refine K_reg (Wops_eq (v := false) rfl rfl (by simpa using h2) (Wops_run rfl rfl (K_fin [(0, _), (1, _), (12, _), (13, _)] rfl (?_))))
    refine K_cond rfl (fun hc => by cases hc) (fun _ => ?_)
    by_cases h3 : op = 3
    · refine K_reg (Wops_eq (v := true) rfl rfl (by rw [h3]; rfl) (Wops_run rfl rfl (K_fin [(0, _), (1, _), (12, _), (13, _)] rfl (?_))))
      refine K_cond rfl (fun _ => ?_) (fun hc => by cases hc)
      exact K_skip ⟨by rw [decide_eq_true (.inr (.inl h3))], rfl⟩
    refine K_reg (Wops_eq (v := false) rfl rfl (by simpa using h3) (Wops_run rfl rfl (K_fin [(0, _), (1, _), (12, _), (13, _)] rfl (?_))))
    refine K_cond rfl (fun hc => by cases hc) (fun _ => ?_)
    refine K_last (Wops_eq (v := decide (op = 4)) rfl rfl (by by_cases h4 : op = 4 <;> simp [h4]) (Wops_run rfl rfl (K_finL [(0, _), (1, _), (12, _), (13, _)] rfl (?_))))
    exact ⟨by simp [h2, h3], rfl⟩
  rintro e _ ⟨rfl, rfl⟩
  by_cases h234 : op = 2 ∨ op = 3 ∨ op = 4
  · rw [decide_eq_true h234]
    have hP : oneP ops i (st, es, dep) = (true, st ++ [i], putM i (-1, 0) es, max dep (st.length + 1)) := by unfold oneP; rw [hop, if_pos h234]
    rw [hP]
    refine K_cond rfl (fun _ => ?_) (fun hc => by cases hc)
    refine K_reg (Wops_run rfl rfl (Wops_run rfl rfl (Wops_run rfl rfl (Wops_run rfl rfl (Wops_call rfl (C71 (at_ := i) q hb) ?_)))))
    rintro _ h1 ⟨S1, q1, t1⟩
    have q1' := q1
    obtain ⟨sa1, sc1, g1, o1, gm1, e1, e2, e3, hS1⟩ := q1'
    refine K_fin [(0, _), (1, _)] rfl (?_)
    refine K_reg (Wops_run rfl rfl (Wops_run rfl rfl (Wops_run rfl rfl (Wops_ld rfl g1 (by rfl) (Wops_run rfl rfl (Wops_run rfl rfl ?_))))))
    refine Wops_mput (b := (-1, 0)) rfl rfl rfl gm1 fun h2 n2 x2 g2 => ?_
    have gw2 := g1.ext x2 (fun e => e3 e.symm)
    refine K_fin [(0, _)] rfl (?_)
    refine K_last (Wops_run rfl rfl (Wops_run rfl rfl (Wops_run rfl rfl (Wops_run rfl rfl (Wops_ld rfl gw2 (by rfl) ?_)))))
    refine Wops_run rfl rfl (Wops_run rfl rfl (Wops_run rfl rfl (Wops_ld rfl gw2 (by rfl) (Wops_run rfl rfl ?_))))
    refine Wops_as (w := .int .i64 ((max dep (st.length + 1) : Nat) : Int)) rfl rfl ?_ (Wops_run rfl rfl (Wops_run rfl rfl (Wops_st (l := [.int .i64 ((max dep (st.length + 1) : Nat) : Int)]) rfl rfl rfl rfl gw2 (by simp) rfl fun h3 n3 x3 g3 => ?_)))
    · show Value.int .i64 _ = _
      congr 1
      simp only [List.length_append, List.length_cons, List.length_nil]
      first | rfl | (rw [Int.natCast_max]; rfl) | (split <;> omega) | omega
    refine K_finL [] rfl (?_)
    refine K_reg (Wops_run rfl rfl (K_fin [(4, _)] rfl (?_)))
    refine K_ret (Told.mk _ rfl ⟨rfl, S1, ⟨sa1, sc1, g3, (o1.ext x2 (fun j r e => e2 (by rw [← e]; exact r))).ext x3 (fun j r e => e1 (by rw [← e]; exact r)), At.ext (o := .map _) g2 x3 e3, e1, e2, e3, hS1⟩, t1.trans ⟨(x2.mono fun j _ r => (hS1 j).2 (.inr (.inl r))).then x3 fun j r => .inl ((hS1 j).2 (.inl r)), fun j r => .inl r⟩⟩)
  rw [decide_eq_false h234]
  refine K_cond rfl (fun hc => by cases hc) (fun _ => ?_)
  by_cases h5 : op = 5
  · have hP : oneP ops i (st, es, dep) = ((halfP ops i st es).1, st, (halfP ops i st es).2, dep) := by unfold oneP; rw [hop, if_neg h234, if_pos h5]
    rw [hP]
    refine K_reg (Wops_eq (v := true) rfl rfl (by rw [h5]; rfl) (Wops_run rfl rfl (K_fin [(0, _), (1, _), (12, _), (41, _)] rfl (?_))))
    refine K_cond rfl (fun _ => ?_) (fun hc => by cases hc)
    refine K_reg (Wops_run rfl rfl (Wops_run rfl rfl (Wops_call rfl (C72 q I hst hb) ?_)))
    rintro _ h1 ⟨rfl, q1, t1⟩
    refine Wops_run rfl rfl (K_fin [(4, _)] rfl (?_))
    exact K_ret (Told.mk _ rfl ⟨rfl, S, q1, t1⟩)
  refine K_reg (Wops_eq (v := false) rfl rfl (by simpa using h5) (Wops_run rfl rfl (K_fin [(0, _), (1, _), (12, _), (41, _)] rfl (?_))))
  refine K_cond rfl (fun hc => by cases hc) (fun _ => ?_)
  by_cases h11 : op = 11
  · have hP : oneP ops i (st, es, dep) = ((closeP ops i st es).1, (closeP ops i st es).2.1, (closeP ops i st es).2.2, dep) := by unfold oneP; rw [hop, if_neg h234, if_neg h5, if_pos h11]
    rw [hP]
    refine K_reg (Wops_eq (v := true) rfl rfl (by rw [h11]; rfl) (Wops_run rfl rfl (K_fin [(0, _), (1, _), (46, _)] rfl (?_))))
    refine K_cond rfl (fun _ => ?_) (fun hc => by cases hc)
    refine K_reg (Wops_run rfl rfl (Wops_run rfl rfl (Wops_call rfl (C73 q I hi hb) ?_)))
    rintro _ h1 ⟨rfl, q1, t1⟩
    refine Wops_run rfl rfl (K_fin [(4, _)] rfl (?_))
    exact K_ret (Told.mk _ rfl ⟨rfl, S, q1, t1⟩)
  have hP : oneP ops i (st, es, dep) = (true, st, es, dep) := by unfold oneP; rw [hop, if_neg h234, if_neg h5, if_neg h11]
  rw [hP]
  refine K_reg (Wops_eq (v := false) rfl rfl (by simpa using h11) (Wops_run rfl rfl (K_fin [(0, _), (1, _), (46, _)] rfl (?_))))
  refine K_cond rfl (fun hc => by cases hc) (fun _ => ?_)
  refine K_skip ?_
  refine K_reg (Wops_run rfl rfl (K_fin [(4, _)] rfl (?_)))
  exact K_ret (Told.mk _ rfl ⟨rfl, S, q, Turn.refl _ _⟩)
end Go.Dx.SYtfhdeagbgdnkaaa
