/- Contracts of ctrl: maps of blocks, the stack of places, half, closes, one. -/
import Derived.Test.YtfhdeagbgdnkaaaDxLT
import Derived.Test.YtfhdeagbgdnkaaaDx37
namespace Go.Dx.SYtfhdeagbgdnkaaa
open Go.Proofs
set_option linter.unusedVariables false
set_option linter.unusedSimpArgs false

abbrev ptr (p : Nat) : Value := .pointer (some ⟨p, 0, none⟩)
abbrev ns (xs : List Nat) : List Value := xs.map fun (x : Nat) => Value.int .i64 (x : Int)
theorem ns_cell (xs : List Nat) : (ns xs).all isCell = true := by simp [ns, isCell]

/-! ### Maps of blocks -/
abbrev Bl := List (Nat × (Int × Int))
def blv (b : Int × Int) : Value := .agg ⟨[.int .i64 b.1, .int .i64 b.2]⟩
def mapC (es : Bl) : List (Value × Value) := es.map fun x => (.int .i64 (x.1 : Int), blv x.2)
def getM (k : Nat) : Bl → Option (Int × Int)
  | [] => none
  | (k', v) :: r => if k = k' then some v else getM k r
def putM (k : Nat) (v : Int × Int) : Bl → Bl
  | [] => [(k, v)]
  | (k', v') :: r => if k = k' then (k, v) :: r else (k', v') :: putM k v r
theorem lookE_C (k : Nat) : ∀ es : Bl, lookE false (.int .i64 (k : Int)) (mapC es) = some ((getM k es).map blv)
  | [] => rfl
  | (k', v) :: r => by
    show (match eqKey false (.int .i64 (k : Int)) (.int .i64 (k' : Int)) with | some true => some (some (blv v)) | some false => lookE false (.int .i64 (k : Int)) (mapC r) | none => none) = _
    have ek : eqKey false (.int .i64 (k : Int)) (.int .i64 (k' : Int)) = some ((k : Int) == (k' : Int)) := by simp [eqKey]
    rw [ek]
    by_cases h : k = k'
    · subst h; simp [getM]
    · have hb : ((k : Int) == (k' : Int)) = false := by simp; omega
      rw [hb]
      simp only [getM, if_neg h]
      exact lookE_C k r
theorem putE_C (k : Nat) (v : Int × Int) : ∀ es : Bl, putE false (.int .i64 (k : Int)) (blv v) (mapC es) = some (mapC (putM k v es))
  | [] => rfl
  | (k', v') :: r => by
    show (match eqKey false (.int .i64 (k : Int)) (.int .i64 (k' : Int)) with | some true => some ((Value.int .i64 (k : Int), blv v) :: mapC r) | some false => (putE false (.int .i64 (k : Int)) (blv v) (mapC r)).map ((Value.int .i64 (k' : Int), blv v') :: ·) | none => none) = _
    have ek : eqKey false (.int .i64 (k : Int)) (.int .i64 (k' : Int)) = some ((k : Int) == (k' : Int)) := by simp [eqKey]
    rw [ek]
    by_cases h : k = k'
    · subst h; simp [putM, mapC]
    · have hb : ((k : Int) == (k' : Int)) = false := by simp; omega
      rw [hb]
      simp only [putM, if_neg h]
      rw [putE_C k v r]; rfl

section
variable {d : Option Nat} {r : List SOp} {e : Env} {h : Heap} {Q : Env → Heap → Prop}
theorem Wops_look {m : Arg} {k : Arg} {id : Nat} {n : Nat} {es : Bl} (hm : m.ev e = some (.map (some id))) (hk : k.ev e = some (.int .i64 (n : Int))) (g : At h id (.map (mapC es))) (hq : Wops Try.prog r (e.put d (blv ((getM n es).getD (0, 0)))) h Q) :
    Wops Try.prog (⟨d, none, .look false (.agg ⟨[.int .i64 0, .int .i64 0]⟩) false m k⟩ :: r) e h Q := by
  refine Wops_run (v := blv ((getM n es).getD (0, 0))) (h' := h) rfl ?_ hq
  have hat : h.get id = some (.map (mapC es)) := g
  simp only [SO.run, hm, hk, hat, lookE_C]
  cases getM n es <;> rfl
theorem Wops_lookB {m : Arg} {k : Arg} {id : Nat} {n : Nat} {es : Bl} (hm : m.ev e = some (.map (some id))) (hk : k.ev e = some (.int .i64 (n : Int))) (g : At h id (.map (mapC es))) (hq : Wops Try.prog r (e.put d (.tuple ⟨[blv ((getM n es).getD (0, 0)), .bool (getM n es).isSome]⟩)) h Q) :
    Wops Try.prog (⟨d, none, .look false (.agg ⟨[.int .i64 0, .int .i64 0]⟩) true m k⟩ :: r) e h Q := by
  refine Wops_run (v := .tuple ⟨[blv ((getM n es).getD (0, 0)), .bool (getM n es).isSome]⟩) (h' := h) rfl ?_ hq
  have hat : h.get id = some (.map (mapC es)) := g
  simp only [SO.run, hm, hk, hat, lookE_C]
  cases getM n es <;> rfl
theorem Wops_lenM {m : Arg} {id : Nat} {es : Bl} (hm : m.ev e = some (.map (some id))) (g : At h id (.map (mapC es))) (hq : Wops Try.prog r (e.put d (.int .i64 (es.length : Int))) h Q) : Wops Try.prog (⟨d, none, .lenM m⟩ :: r) e h Q := by
  refine Wops_run (v := .int .i64 (es.length : Int)) (h' := h) rfl ?_ hq
  have hat : h.get id = some (.map (mapC es)) := g
  simp only [SO.run, hm, hat, mapC, List.length_map]
theorem Wops_mput {m k v : Arg} {id n : Nat} {b : Int × Int} {es : Bl} (hm : m.ev e = some (.map (some id))) (hk : k.ev e = some (.int .i64 (n : Int))) (hv : v.ev e = some (blv b)) (g : At h id (.map (mapC es)))
    (hq : ∀ h', h'.next = h.next → Ext (· = id) h h' → At h' id (.map (mapC (putM n b es))) → Wops Try.prog r (e.put d undefV) h' Q) : Wops Try.prog (⟨d, none, .mput false m k v⟩ :: r) e h Q := by
  have hat : h.get id = some (.map (mapC es)) := g
  refine Wops_run (v := undefV) (h' := h.put id (some (.map (mapC (putM n b es))))) rfl ?_ (hq _ (Heap.next_put _ _ _) (Ext.put hat rfl _) (put_get hat rfl _))
  have hkey : isKey false (.int .i64 (n : Int)) = true := rfl
  simp only [SO.run, hm, hk, hv, hat, hkey, cond_true, putE_C, Option.map_some]
theorem Wops_mkMap (hq : ∀ h', h'.next = h.next + 1 → Ext0 h h' → At h' h.next (.map (mapC [])) → Wops Try.prog r (e.put d (.map (some h.next))) h' Q) : Wops Try.prog (⟨d, none, .mkMap⟩ :: r) e h Q :=
  Wops_run (v := .map (some h.next)) (h' := h.add (.map [])) rfl rfl (hq _ rfl (Ext.add _ _) (add_get _ _))
end

/-! ### The walker -/
/-- Instructions: what they are. -/
structure Ins (h : Heap) (a : Option Addr) (n c : Nat) (l : List Value) (ops : List Int) : Prop where
  sl : SlA h 6 a n c l
  len : ops.length = n
  op : ∀ i (hi : i < ops.length), l[i * 6 + 0]? = some (.int .i64 ops[i])
  cell : l.all isCell = true
  big : n ≤ 1000000
  lt : ∀ i, Blk a i → i < h.next
theorem Ins.ext {S : Nat → Prop} {h h' : Heap} {a : Option Addr} {n c : Nat} {l : List Value} {ops : List Int} (s : Ins h a n c l ops) (x : Ext S h h') (hn : ∀ i, Blk a i → ¬ S i := by exact fun _ _ q => q) : Ins h' a n c l ops := ⟨s.sl.ext x hn, s.len, s.op, s.cell, s.big, fun i q => Nat.lt_of_lt_of_le (s.lt i q) x.next⟩

/-- A walker: its places, the map's, how deep. -/
def Wk (h : Heap) (w m : Nat) (la : Option Addr) (ln lc : Nat) (st : List Nat) (es : Bl) (dep : Nat) (S : Nat → Prop) : Prop :=
  ∃ sa sc, At h w (.cells [.slice sa st.length sc, .slice la ln lc, .map (some m), .int .i64 (dep : Int)] 0 false) ∧ OwS h 1 sa st.length sc (ns st) ∧ At h m (.map (mapC es)) ∧ ¬ Blk sa w ∧ ¬ Blk sa m ∧ m ≠ w ∧ ∀ i, S i ↔ (i = w ∨ i = m ∨ Blk sa i)
theorem Wk.lt {h : Heap} {w m : Nat} {la : Option Addr} {ln lc : Nat} {st : List Nat} {es : Bl} {dep : Nat} {S : Nat → Prop} (q : Wk h w m la ln lc st es dep S) {i : Nat} (hi : S i) : i < h.next := by
  obtain ⟨sa, sc, g, o, gm, h1, h2, h3, hS⟩ := q
  rcases (hS i).1 hi with rfl | rfl | r
  · exact g.lt
  · exact gm.lt
  · exact o.lt r

/-- stack.push -/
theorem C71 {h : Heap} {w m at_ : Nat} {la : Option Addr} {ln lc : Nat} {st : List Nat} {es : Bl} {dep : Nat} {S : Nat → Prop} (q : Wk h w m la ln lc st es dep S) (hb : st.length ≤ 1000000) :
    Fn Try.prog 71 [ptr w, .int .i64 (at_ : Int)] h fun v h' => ∃ S', Wk h' w m la ln lc (st ++ [at_]) es dep S' ∧ Turn h h' S S' := by
  obtain ⟨sa, sc, g, o, gm, d1, d2, d3, hS⟩ := id q
  refine fnK F71.fok rfl ?_
  refine K_last (Wops_run rfl rfl (Wops_run rfl rfl (Wops_run rfl rfl (Wops_ld rfl g (by rfl) ?_))))
  refine Wops_run rfl rfl (Wops_bslice (l := ns [at_]) rfl rfl fun h1 n1 x1 g1 => ?_)
  refine Wops_app rfl rfl (o.ext x1) rfl (OwS.new (n := 1) (c := 1) g1 rfl).sl.first ⟨by omega, by omega⟩ rfl rfl (by decide) fun h2 a2 c2 x2 o2 b2 => ?_
  have z1 := x1.next
  have hw := g.lt
  have hm := gm.lt
  have e1 : ¬ Blk a2 w := fun r => (b2 w r).elim d1 fun r => by omega
  have e2 : ¬ Blk a2 m := fun r => (b2 m r).elim d2 fun r => by omega
  refine Wops_run rfl rfl (Wops_st (l := [.slice a2 (st.length + 1) c2]) rfl rfl rfl rfl ((g.ext x1).ext x2 d1) (by simp) rfl fun h3 n3 x3 g3 => ?_)
  refine K_finL [] rfl (?_)
  have hl : (st ++ [at_]).length = st.length + 1 := by simp
  refine Told.mk [] rfl ⟨fun i => i = w ∨ i = m ∨ Blk a2 i, ⟨a2, c2, by rw [hl]; exact g3, ?_, ((gm.ext x1).ext x2 d2).ext x3 d3, e1, e2, d3, fun i => Iff.rfl⟩, ?_, ?_⟩
  · rw [hl, ns, List.map_append]; exact o2.ext x3 fun i r e => e1 (by rw [← e]; exact r)
  · exact (x1.of0.then x2 fun i r => .inl ((hS i).2 (.inr (.inr r)))).then x3 fun i r => .inl ((hS i).2 (.inl r))
  · intro i r
    rcases r with rfl | rfl | r
    · exact .inl ((hS _).2 (.inl rfl))
    · exact .inl ((hS _).2 (.inr (.inl rfl)))
    · exact (b2 i r).elim (fun r => .inl ((hS i).2 (.inr (.inr r)))) fun r => .inr (by omega)

/-- stack.top -/
theorem C78 {h : Heap} {w m : Nat} {la : Option Addr} {ln lc : Nat} {st : List Nat} {es : Bl} {dep : Nat} {S : Nat → Prop} (q : Wk h w m la ln lc st es dep S) (hb : st.length ≤ 1000000) :
    Fn Try.prog 78 [ptr w] h fun v h' => v = .tuple ⟨[.int .i64 ((st.getLast?.getD 0 : Nat) : Int), .bool (!st.isEmpty)]⟩ ∧ h = h' := by
  obtain ⟨sa, sc, g, o, gm, d1, d2, d3, hS⟩ := id q
  refine fnK F78.fok rfl ?_
  refine K_reg (Wops_run rfl rfl (Wops_run rfl rfl (K_fin [(0, _)] rfl (?_))))
  refine K_ss (K_reg (Wops_run rfl rfl (Wops_run rfl rfl (Wops_ld rfl g (by rfl) (Wops_run rfl rfl ?_)))))
  rcases List.eq_nil_or_concat st with rfl | ⟨s0, k, rfl⟩
  · refine Wops_run rfl rfl (K_fin [(0, _), (8, _)] rfl (?_))
    refine K_scond rfl (fun _ => ?_) (fun hc => by cases hc)
    refine K_ss (K_reg (Wops_run rfl rfl (Wops_run rfl rfl (K_fin [(2, _), (3, _)] rfl (?_)))))
    exact K_sret (Told.mk _ rfl ⟨rfl, rfl⟩)
  · rw [List.concat_eq_append] at *
    have hl : (s0 ++ [k]).length = s0.length + 1 := by simp
    rw [hl] at g o
    refine Wops_eq (v := false) rfl rfl (by rw [hl]; simp; omega) (K_fin [(0, _), (8, _)] rfl (?_))
    refine K_scond rfl (fun hc => by cases hc) (fun _ => ?_)
    refine K_sskip (K_reg (Wops_run rfl rfl (Wops_run rfl rfl (Wops_ld rfl g (by rfl) ?_))))
    refine Wops_run rfl rfl (Wops_run rfl rfl (Wops_ld rfl g (by rfl) (Wops_run rfl rfl (Wops_as (w := .int .i64 (s0.length : Int)) rfl rfl (by rw [w64 (by simp at hb; omega)]; congr 1; omega) ?_))))
    refine Wops_idx (u := .int .i64 (k : Int)) rfl rfl o.sl ⟨by omega, by omega⟩ (by simp [ns]) fun _ => ?_
    refine Wops_run rfl rfl (Wops_run rfl rfl (K_fin [(2, _), (3, _)] rfl (?_)))
    exact K_ret (Told.mk _ rfl ⟨by simp [tupled], rfl⟩)

/-- stack.pop -/
theorem C79 {h : Heap} {w m : Nat} {la : Option Addr} {ln lc : Nat} {st : List Nat} {es : Bl} {dep : Nat} {S : Nat → Prop} (q : Wk h w m la ln lc st es dep S) (hb : st.length ≤ 1000000) :
    Fn Try.prog 79 [ptr w] h fun v h' => v = .tuple ⟨[.int .i64 ((st.getLast?.getD 0 : Nat) : Int), .bool (!st.isEmpty)]⟩ ∧ Wk h' w m la ln lc st.dropLast es dep S ∧ Turn h h' S S := by
  obtain ⟨sa, sc, g, o, gm, d1, d2, d3, hS⟩ := id q
  refine fnK F79.fok rfl ?_
  refine K_reg (Wops_run rfl rfl (Wops_run rfl rfl (K_fin [(0, _)] rfl (?_))))
  refine K_reg (Wops_run rfl rfl (Wops_run rfl rfl (Wops_ld rfl g (by rfl) (Wops_run rfl rfl ?_))))
  rcases List.eq_nil_or_concat st with rfl | ⟨s0, k, rfl⟩
  · refine Wops_run rfl rfl (Wops_run rfl rfl (K_fin [(0, _), (4, _)] rfl (?_)))
    refine K_ss (K_reg (Wops_run rfl rfl (Wops_run rfl rfl (K_fin [(0, _), (4, _), (11, _)] rfl (?_)))))
    refine K_scond rfl (fun _ => ?_) (fun hc => by cases hc)
    refine K_ss (K_reg (Wops_run rfl rfl (Wops_run rfl rfl (K_fin [(2, _), (3, _)] rfl (?_)))))
    exact K_sret (Told.mk _ rfl ⟨rfl, q, Turn.refl _ _⟩)
  · rw [List.concat_eq_append] at *
    have hl : (s0 ++ [k]).length = s0.length + 1 := by simp
    rw [hl] at g o
    refine Wops_as (w := .int .i64 (s0.length : Int)) rfl rfl (by rw [hl, w64 (by simp at hb; omega)]; congr 1; omega) (Wops_run rfl rfl (K_fin [(0, _), (4, _)] rfl (?_)))
    refine K_ss (K_reg (Wops_run rfl rfl (Wops_as (w := .bool false) rfl rfl (by rw [decide_eq_false (by omega)]) (K_fin [(0, _), (4, _), (11, _)] rfl (?_)))))
    refine K_scond rfl (fun hc => by cases hc) (fun _ => ?_)
    refine K_sskip (K_reg (Wops_run rfl rfl (Wops_run rfl rfl (Wops_ld rfl g (by rfl) (Wops_run rfl rfl ?_)))))
    refine Wops_idx (u := .int .i64 (k : Int)) rfl rfl o.sl ⟨by omega, by omega⟩ (by simp [ns]) fun _ => ?_
    refine Wops_run rfl rfl (K_fin [(0, _), (2, _), (4, _)] rfl (?_))
    refine K_reg (Wops_run rfl rfl (Wops_run rfl rfl (Wops_run rfl rfl (Wops_ld rfl g (by rfl) (Wops_run rfl rfl ?_)))))
    refine Wops_slV rfl rfl rfl o.sl.ok (bounds_hi (i := s0.length) (by omega)) ?_
    refine Wops_run rfl rfl (Wops_st (l := [.slice (shift sa (0 * 1)) (s0.length - 0) sc]) rfl rfl rfl rfl g (by simp) rfl fun h3 n3 x3 g3 => ?_)
    refine K_fin [(2, _)] rfl (?_)
    refine K_reg (Wops_run rfl rfl (Wops_run rfl rfl (Wops_run rfl rfl (K_fin [(2, _), (3, _)] rfl (?_)))))
    have hs := o.sub (i := 0) (j := s0.length) (by omega) (by omega)
    have hsh : ∀ i, Blk (shift sa (0 * 1)) i ↔ Blk sa i := fun i => shift_blk
    refine K_ret (Told.mk _ rfl ⟨by simp [tupled], ⟨shift sa (0 * 1), sc, ?_, ?_, gm.ext x3 d3, fun r => d1 ((hsh w).1 r), fun r => d2 ((hsh m).1 r), d3, fun i => by rw [hS, hsh]⟩, x3.mono fun i _ r => (hS i).2 (.inl r), fun i r => .inl r⟩)
    · rw [List.dropLast_concat]; exact g3
    · rw [List.dropLast_concat]
      have := hs.ext x3 (fun i r e => d1 (by rw [← e]; exact (hsh i).1 r))
      have e2 : ((ns (s0 ++ [k])).drop (0 * 1)).take ((s0.length - 0) * 1) = ns s0 := by simp [ns]
      rw [e2] at this
      exact this
end Go.Dx.SYtfhdeagbgdnkaaa
