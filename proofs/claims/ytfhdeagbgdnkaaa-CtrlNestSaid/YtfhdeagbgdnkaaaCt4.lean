/- The plain law of blocks: a walker and the document's way tell the same. -/
import Derived.Test.YtfhdeagbgdnkaaaCt3
namespace Go.Dx.SYtfhdeagbgdnkaaa
open Go.Proofs
set_option linter.unusedVariables false
set_option linter.unusedSimpArgs false

/-- The document's step: it goes on, or it ends. -/
def refOne (ops : List Int) (i : Nat) (st : List Nat) (es : Bl) : (List Nat × Bl) ⊕ (Option Bl) :=
  if ops.getD i 0 = 2 ∨ ops.getD i 0 = 3 ∨ ops.getD i 0 = 4 then .inl (st ++ [i], putM i (-1, -1) es)
  else if ops.getD i 0 = 5 then match st.getLast? with
    | none => .inr none
    | some k => if ops.getD k 0 ≠ 4 ∨ ((getM k es).getD (0, 0)).1 ≥ 0 then .inr none else .inl (st, putM k ((i : Int), ((getM k es).getD (0, 0)).2) es)
  else if ops.getD i 0 = 11 then match st.getLast? with
    | none => if i + 1 = ops.length then .inr (some es) else .inr none
    | some k => .inl (st.dropLast, putM k (((getM k es).getD (0, 0)).1, (i : Int)) es)
  else .inl (st, es)
def rfS (ops : List Int) : Nat → (List Nat × Bl) ⊕ (Option Bl)
  | 0 => .inl ([], [])
  | i + 1 => match rfS ops i with
    | .inr r => .inr r
    | .inl s => refOne ops i s.1 s.2
def refB (ops : List Int) : Option Bl := match rfS ops ops.length with
  | .inl _ => none
  | .inr r => r
/-- How deep: the most, and now. -/
def dst (ops : List Int) : Nat → Int × Int
  | 0 => (0, 0)
  | i + 1 =>
    let now := (dst ops i).2 + (if 2 ≤ ops.getD i 0 ∧ ops.getD i 0 ≤ 4 then 1 else 0) - (if ops.getD i 0 = 11 then 1 else 0)
    (max (dst ops i).1 now, now)

def fx (st : List Nat) (x : Nat × (Int × Int)) : Nat × (Int × Int) := (x.1, (x.2.1, if x.1 ∈ st then -1 else x.2.2))
abbrev keys (es : Bl) : List Nat := es.map (·.1)
theorem getM_cons {k k' : Nat} {v : Int × Int} {r : Bl} : getM k ((k', v) :: r) = if k = k' then some v else getM k r := rfl
theorem putM_cons {k k' : Nat} {v v' : Int × Int} {r : Bl} : putM k v ((k', v') :: r) = if k = k' then (k, v) :: r else (k', v') :: putM k v r := rfl
theorem getM_map {st : List Nat} {k : Nat} : ∀ {es : Bl}, getM k (es.map (fx st)) = (getM k es).map fun b => (b.1, if k ∈ st then -1 else b.2)
  | [] => rfl
  | (k', v) :: r => by
    show getM k ((k', (v.1, if k' ∈ st then -1 else v.2)) :: r.map (fx st)) = _
    rw [getM_cons, getM_cons]
    by_cases h : k = k'
    · subst h; rw [if_pos rfl, if_pos rfl]; rfl
    · rw [if_neg h, if_neg h]; exact getM_map
theorem getM_mem {k : Nat} : ∀ {es : Bl}, k ∈ keys es → ∃ b, getM k es = some b ∧ (k, b) ∈ es
  | [], h => by simp at h
  | (k', v) :: r, h => by
    rw [getM_cons]
    by_cases hk : k = k'
    · subst hk; exact ⟨v, if_pos rfl, by simp⟩
    · rw [if_neg hk]
      obtain ⟨b, h1, h2⟩ := getM_mem (k := k) (es := r) (by simpa [hk] using h)
      exact ⟨b, h1, by simp [h2]⟩
theorem putM_keys {k : Nat} {v : Int × Int} : ∀ {es : Bl}, keys (putM k v es) = if k ∈ keys es then keys es else keys es ++ [k]
  | [] => rfl
  | (k', v') :: r => by
    rw [putM_cons]
    by_cases h : k = k'
    · subst h; simp
    · rw [if_neg h]
      show k' :: keys (putM k v r) = _
      rw [putM_keys]
      by_cases hr : k ∈ keys r
      · rw [if_pos hr, if_pos (by simp only [keys] at hr ⊢; simp [hr])]; rfl
      · rw [if_neg hr, if_neg (by simp only [keys] at hr ⊢; simp [h, hr])]; rfl
theorem putM_mem {k : Nat} {v : Int × Int} : ∀ {es : Bl}, ∀ x ∈ putM k v es, x = (k, v) ∨ x ∈ es
  | [], x, hx => by simp [putM] at hx; exact .inl hx
  | (k', v') :: r, x, hx => by
    rw [putM_cons] at hx
    by_cases h : k = k'
    · rw [if_pos h] at hx
      rcases List.mem_cons.1 hx with hx | hx
      · exact .inl hx
      · exact .inr (by simp [hx])
    · rw [if_neg h] at hx
      rcases List.mem_cons.1 hx with hx | hx
      · exact .inr (by simp [hx])
      · exact (putM_mem x hx).imp id fun q => by simp [q]
theorem fx_map_eq {st st' : List Nat} {k : Nat} (hst : ∀ j, j ≠ k → (j ∈ st ↔ j ∈ st')) {r : Bl} (hk : k ∉ keys r) : r.map (fx st) = r.map (fx st') := by
  refine List.map_congr_left fun x hx => ?_
  have : x.1 ≠ k := fun e => hk (by rw [← e]; exact List.mem_map_of_mem hx)
  unfold fx
  simp only [hst x.1 this]
theorem putM_map {st st' : List Nat} {k : Nat} {v v' : Int × Int} (hst : ∀ j, j ≠ k → (j ∈ st ↔ j ∈ st')) (hv : fx st' (k, v) = (k, v')) : ∀ {es : Bl}, (keys es).Nodup → putM k v' (es.map (fx st)) = (putM k v es).map (fx st')
  | [], _ => by simp [putM, hv]
  | (k', w) :: r, hn => by
    have hn1 : k' ∉ keys r := (List.nodup_cons.1 hn).1
    have hn2 : (keys r).Nodup := (List.nodup_cons.1 hn).2
    show putM k v' ((k', (w.1, if k' ∈ st then -1 else w.2)) :: r.map (fx st)) = _
    rw [putM_cons, putM_cons]
    by_cases h : k = k'
    · subst h
      rw [if_pos rfl, if_pos rfl, List.map_cons, hv, fx_map_eq hst hn1]
    · rw [if_neg h, if_neg h, List.map_cons, putM_map hst hv hn2]
      congr 1
      unfold fx
      simp only [hst k' (fun e => h e.symm)]

structure Inv (ops : List Int) (i : Nat) (st : List Nat) (es : Bl) (dep : Nat) : Prop where
  sn : st.Nodup
  sl : ∀ k ∈ st, k < i
  kn : (keys es).Nodup
  sk : ∀ k ∈ st, k ∈ keys es
  kl : ∀ k ∈ keys es, k < i
  el : ∀ x ∈ es, -1 ≤ x.2.1
  ct : (ops.take i).count 11 + st.length = es.length
  dp : dst ops i = ((dep : Int), (st.length : Int))
  dl : st.length ≤ dep

def SimP (ops : List Int) (i : Nat) : (List Nat × Bl) ⊕ (Option Bl) → Prop
  | .inl s => ∃ es dep, pst ops i = some (s.1, es, dep) ∧ s.2 = es.map (fx s.1) ∧ Inv ops i s.1 es dep
  | .inr none => pst ops i = none
  | .inr (some es) => i = ops.length ∧ ∃ dep : Nat, pst ops i = some ([], es, dep) ∧ ops.getD (ops.length - 1) 0 = 11 ∧ ops.length ≠ 0 ∧ ops.count 11 = es.length + 1 ∧ dst ops i = ((dep : Int), -1)

theorem sim_step {ops : List Int} {i : Nat} {st : List Nat} {es : Bl} {dep : Nat} (hi : i < ops.length) (hp : pst ops i = some (st, es, dep)) (v : Inv ops i st es dep) : SimP ops (i + 1) (refOne ops i st (es.map (fx st))) := by
  have hpn : pst ops (i + 1) = if (oneP ops i (st, es, dep)).1 = true then some (oneP ops i (st, es, dep)).2 else none := by
    conv => lhs; unfold pst
    rw [hp]
  have hct := take_count hi
  have hds : dst ops (i + 1) = (max (dst ops i).1 ((dst ops i).2 + (if 2 ≤ ops.getD i 0 ∧ ops.getD i 0 ≤ 4 then 1 else 0) - (if ops.getD i 0 = 11 then 1 else 0)), (dst ops i).2 + (if 2 ≤ ops.getD i 0 ∧ ops.getD i 0 ≤ 4 then 1 else 0) - (if ops.getD i 0 = 11 then 1 else 0)) := rfl
  rw [v.dp] at hds
  have hvct := v.ct
  have hvdl := v.dl
  unfold refOne
  generalize hop : ops.getD i 0 = op at *
  by_cases h234 : op = 2 ∨ op = 3 ∨ op = 4
  · rw [if_pos h234]
    have hP : oneP ops i (st, es, dep) = (true, st ++ [i], putM i (-1, 0) es, max dep (st.length + 1)) := by unfold oneP; rw [hop, if_pos h234]
    rw [hP, if_pos rfl] at hpn
    have hik : i ∉ keys es := fun q => by have := v.kl i q; omega
    have his : i ∉ st := fun q => by have := v.sl i q; omega
    have hkeys : keys (putM i (-1, 0) es) = keys es ++ [i] := by rw [putM_keys, if_neg hik]
    have hlen : (putM i (-1, 0) es).length = es.length + 1 := by have := congrArg List.length hkeys; simpa [keys] using this
    rw [if_neg (show ¬ op = 11 by omega)] at hct
    rw [if_pos (show 2 ≤ op ∧ op ≤ 4 by omega), if_neg (show ¬ op = 11 by omega)] at hds
    refine ⟨putM i (-1, 0) es, max dep (st.length + 1), hpn, ?_, ⟨?_, ?_, ?_, ?_, ?_, ?_, ?_, ?_, ?_⟩⟩
    · exact putM_map (fun j hj => by simp [hj]) (by simp [fx]) v.kn
    · rw [List.nodup_append]; exact ⟨v.sn, by simp, fun a ha b hb e => by simp at hb; subst hb; subst e; exact his ha⟩
    · intro k hk
      rcases List.mem_append.1 hk with hk | hk
      · have := v.sl k hk; omega
      · simp at hk; omega
    · rw [hkeys, List.nodup_append]; exact ⟨v.kn, by simp, fun a ha b hb e => by simp at hb; subst hb; subst e; exact hik ha⟩
    · intro k hk
      rw [hkeys]
      rcases List.mem_append.1 hk with hk | hk
      · exact List.mem_append_left _ (v.sk k hk)
      · exact List.mem_append_right _ hk
    · intro k hk
      rw [hkeys] at hk
      rcases List.mem_append.1 hk with hk | hk
      · have := v.kl k hk; omega
      · simp at hk; omega
    · intro x hx
      rcases putM_mem x hx with rfl | hx
      · exact Int.le_refl _
      · exact v.el x hx
    · rw [hct, hlen]; simp; omega
    · rw [hds]; simp only [List.length_append, List.length_cons, List.length_nil]; congr 1 <;> omega
    · simp; omega
  rw [if_neg h234]
  have hn234 : ¬ (2 ≤ op ∧ op ≤ 4) := by omega
  rw [if_neg hn234] at hds
  by_cases h5 : op = 5
  · rw [if_pos h5]
    have hP : oneP ops i (st, es, dep) = ((halfP ops i st es).1, st, (halfP ops i st es).2, dep) := by unfold oneP; rw [hop, if_neg h234, if_pos h5]
    rw [hP] at hpn
    rw [if_neg (show ¬ op = 11 by omega)] at hct hds
    rcases List.eq_nil_or_concat st with rfl | ⟨s0, k, rfl⟩
    · have hh : halfP ops i [] es = (false, es) := rfl
      rw [hh, if_neg (by simp)] at hpn
      exact hpn
    rw [List.concat_eq_append] at *
    have hlast : (s0 ++ [k]).getLast? = some k := by simp
    have hks : k ∈ s0 ++ [k] := by simp
    obtain ⟨b, hb, hbm⟩ := getM_mem (v.sk k hks)
    have hbl := v.el _ hbm
    rw [hlast]
    simp only
    rw [getM_map, hb]
    simp only [Option.map_some, Option.getD_some, if_pos hks]
    have hH : halfP ops i (s0 ++ [k]) es = if ops.getD k 0 ≠ 4 ∨ b.1 ≠ -1 then (false, es) else (true, putM k ((i : Int), 0) es) := by unfold halfP; rw [hlast]; simp only; rw [hb]; rfl
    by_cases hc : ops.getD k 0 ≠ 4 ∨ b.1 ≥ 0
    · rw [if_pos hc]
      have hH2 : halfP ops i (s0 ++ [k]) es = (false, es) := by
        rw [hH]
        refine if_pos ?_
        rcases hc with hc | hc
        · exact .inl hc
        · exact .inr (by omega)
      rw [hH2, if_neg (by simp)] at hpn
      exact hpn
    · rw [if_neg hc]
      have hc2 : ¬ (ops.getD k 0 ≠ 4 ∨ b.1 ≠ -1) := fun q => hc (q.imp id fun q => by simp only at hbl; omega)
      have hH2 : halfP ops i (s0 ++ [k]) es = (true, putM k ((i : Int), 0) es) := by rw [hH]; exact if_neg hc2
      rw [hH2, if_pos rfl] at hpn
      have hkeys : keys (putM k ((i : Int), 0) es) = keys es := by rw [putM_keys, if_pos (v.sk k hks)]
      have hlen : (putM k ((i : Int), 0) es).length = es.length := by have := congrArg List.length hkeys; simpa [keys] using this
      refine ⟨putM k ((i : Int), 0) es, dep, hpn, ?_, ⟨v.sn, fun j hj => by have := v.sl j hj; omega, by rw [hkeys]; exact v.kn, fun j hj => by rw [hkeys]; exact v.sk j hj, fun j hj => by rw [hkeys] at hj; have := v.kl j hj; omega, ?_, ?_, ?_, v.dl⟩⟩
      · exact putM_map (fun j _ => Iff.rfl) (by simp [fx]) v.kn
      · intro x hx
        rcases putM_mem x hx with rfl | hx
        · show (-1 : Int) ≤ i; omega
        · exact v.el x hx
      · rw [hct, hlen]; omega
      · rw [hds]; congr 1 <;> omega
  rw [if_neg h5]
  by_cases h11 : op = 11
  · rw [if_pos h11]
    have hP : oneP ops i (st, es, dep) = ((closeP ops i st es).1, (closeP ops i st es).2.1, (closeP ops i st es).2.2, dep) := by unfold oneP; rw [hop, if_neg h234, if_neg h5, if_pos h11]
    rw [hP] at hpn
    rw [if_pos h11] at hct hds
    rcases List.eq_nil_or_concat st with rfl | ⟨s0, k, rfl⟩
    · have hh : closeP ops i [] es = (decide (i + 1 = ops.length), [], es) := rfl
      rw [hh] at hpn
      show SimP ops (i + 1) (if i + 1 = ops.length then .inr (some (es.map (fx []))) else .inr none)
      by_cases hl : i + 1 = ops.length
      · rw [if_pos hl]
        simp only [decide_eq_true hl, if_true] at hpn
        have hfx : es.map (fx []) = es := by
          conv => rhs; rw [← List.map_id es]
          exact List.map_congr_left fun x _ => by simp [fx]
        rw [hfx]
        have hall : ops.take (i + 1) = ops := List.take_of_length_le (by omega)
        refine ⟨hl, dep, hpn, by rw [show ops.length - 1 = i by omega, hop]; exact h11, by omega, ?_, ?_⟩
        · rw [hall] at hct; simp at hvct; omega
        · rw [hds]; congr 1 <;> simp <;> omega
      · rw [if_neg hl]
        simp only [decide_eq_false hl, Bool.false_eq_true, if_false] at hpn
        exact hpn
    rw [List.concat_eq_append] at *
    have hlast : (s0 ++ [k]).getLast? = some k := by simp
    have hks : k ∈ s0 ++ [k] := by simp
    obtain ⟨b, hb, hbm⟩ := getM_mem (v.sk k hks)
    have hbl := v.el _ hbm
    have hns : k ∉ s0 := fun q => (List.nodup_append.1 v.sn).2.2 k q k (by simp) rfl
    rw [hlast]
    simp only
    rw [getM_map, hb]
    simp only [Option.map_some, Option.getD_some]
    have hC : closeP ops i (s0 ++ [k]) es = (true, s0, putM k (b.1, (i : Int)) es) := by unfold closeP; rw [hlast]; simp only; rw [hb, List.dropLast_concat]; rfl
    rw [hC, if_pos rfl] at hpn
    rw [List.dropLast_concat]
    have hkeys : keys (putM k (b.1, (i : Int)) es) = keys es := by rw [putM_keys, if_pos (v.sk k hks)]
    have hlen : (putM k (b.1, (i : Int)) es).length = es.length := by have := congrArg List.length hkeys; simpa [keys] using this
    refine ⟨putM k (b.1, (i : Int)) es, dep, hpn, ?_, ⟨(List.nodup_append.1 v.sn).1, fun j hj => by have := v.sl j (by simp [hj]); omega, by rw [hkeys]; exact v.kn, fun j hj => by rw [hkeys]; exact v.sk j (by simp [hj]), fun j hj => by rw [hkeys] at hj; have := v.kl j hj; omega, ?_, ?_, ?_, ?_⟩⟩
    · exact putM_map (fun j hj => by simp [hj]) (by simp [fx, hns]) v.kn
    · intro x hx
      rcases putM_mem x hx with rfl | hx
      · exact hbl
      · exact v.el x hx
    · show _ + s0.length = _
      rw [hct, hlen]; simp at hvct; omega
    · show _ = ((dep : Int), (s0.length : Int))
      rw [hds]; simp at hvdl ⊢; omega
    · show s0.length ≤ dep
      simp at hvdl; omega
  rw [if_neg h11]
  have hP : oneP ops i (st, es, dep) = (true, st, es, dep) := by unfold oneP; rw [hop, if_neg h234, if_neg h5, if_neg h11]
  rw [hP, if_pos rfl] at hpn
  rw [if_neg h11] at hct hds
  refine ⟨es, dep, hpn, rfl, ⟨v.sn, fun j hj => by have := v.sl j hj; omega, v.kn, v.sk, fun j hj => by have := v.kl j hj; omega, v.el, by rw [hct]; omega, by rw [hds]; congr 1 <;> omega, v.dl⟩⟩

theorem sim {ops : List Int} : ∀ i, i ≤ ops.length → SimP ops i (rfS ops i)
  | 0, _ => ⟨[], 0, rfl, rfl, ⟨List.nodup_nil, fun k hk => (by cases hk), List.nodup_nil, fun k hk => (by cases hk), fun k hk => (by cases hk), fun k hk => (by cases hk), rfl, rfl, Nat.le_refl _⟩⟩
  | i + 1, hi => by
    have ih := sim (ops := ops) i (by omega)
    unfold rfS
    cases hr : rfS ops i with
    | inl s =>
      rw [hr] at ih
      obtain ⟨es, dep, hp, he, v⟩ := ih
      obtain ⟨st, es'⟩ := s
      simp only at he hp v ⊢
      subst he
      exact sim_step (by omega) hp v
    | inr r =>
      rw [hr] at ih
      cases r with
      | none => exact pst_none ih _ (by omega)
      | some es => have := ih.1; omega

theorem ctrl_none {ops : List Int} (h : refB ops = none) : ∀ es dep, walkP ops ≠ some (es, dep, true) := by
  intro es dep hw
  have hs := sim (ops := ops) ops.length (Nat.le_refl _)
  unfold refB at h
  unfold walkP at hw
  cases hr : rfS ops ops.length with
  | inl s =>
    rw [hr] at hs
    obtain ⟨es', dep', hp, he, v⟩ := hs
    rw [hp] at hw
    simp only at hw
    split at hw
    · cases hw
    · rename_i hc
      have hst : s.1 = [] := Classical.byContradiction fun q => hc (.inr (.inl q))
      simp only [Option.some.injEq, Prod.mk.injEq, decide_eq_true_eq] at hw
      obtain ⟨rfl, rfl, h3⟩ := hw
      have := v.ct
      rw [hst, List.take_of_length_le (Nat.le_refl _)] at this
      simp at this; omega
  | inr r =>
    rw [hr] at h hs
    simp only at h
    subst h
    have hs' : pst ops ops.length = none := hs
    rw [hs'] at hw; cases hw
theorem ctrl_some {ops : List Int} {es : Bl} (h : refB ops = some es) : ∃ dep : Nat, walkP ops = some (es, dep, true) ∧ (dst ops ops.length).1 = dep := by
  have hs := sim (ops := ops) ops.length (Nat.le_refl _)
  unfold refB at h
  cases hr : rfS ops ops.length with
  | inl s => rw [hr] at h; cases h
  | inr r =>
    rw [hr] at h hs
    simp only at h
    subst h
    obtain ⟨_, dep, hp, h11, h0, hc, hd⟩ := hs
    refine ⟨dep, ?_, by rw [hd]⟩
    unfold walkP
    rw [hp]
    simp only
    rw [if_neg (fun q => q.elim h0 fun q => q.elim (fun q => q rfl) fun q => q h11), decide_eq_true hc]
end Go.Dx.SYtfhdeagbgdnkaaa
