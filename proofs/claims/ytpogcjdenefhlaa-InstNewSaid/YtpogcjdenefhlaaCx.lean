/- Texts merged: YtpogcjdenefhlaaCt1.lean, YtpogcjdenefhlaaCt2.lean, YtpogcjdenefhlaaCt3.lean, YtpogcjdenefhlaaCt4.lean, YtpogcjdenefhlaaCt5.lean, YtpogcjdenefhlaaCt6.lean. -/
import Derived.Test.YtpogcjdenefhlaaDxLT
import Derived.Test.YtpogcjdenefhlaaDx37
namespace Go.Dx.SYtpogcjdenefhlaa
open Go.Proofs
section
/- Contracts of ctrl: maps of blocks, the stack of places, half, closes, one. -/
set_option linter.unusedVariables false
set_option linter.unusedSimpArgs false

abbrev ptr (p : Nat) : Value := .pointer (some ⟨p, 0, none⟩)
abbrev ns (xs : List Nat) : List Value := xs.map fun (x : Nat) => Value.int .i64 (x : Int)
theorem ns_cell (xs : List Nat) : (ns xs).all isCell = true := by simp [ns, isCell]

/-! ### Maps of blocks -/
abbrev Bl := List (Nat × (Int × Int))
def blv (b : Int × Int) : Value := .agg ⟨[.int .i64 b.1, .int .i64 b.2]⟩
def mapC (es : Bl) : List (Value × Value) := es.map fun x => (.int .i64 (x.1 : Int), blv x.2)
def getM (k : Nat) : Bl → Option (Int × Int)
  | [] => none
  | (k', v) :: r => if k = k' then some v else getM k r
def putM (k : Nat) (v : Int × Int) : Bl → Bl
  | [] => [(k, v)]
  | (k', v') :: r => if k = k' then (k, v) :: r else (k', v') :: putM k v r
theorem lookE_C (k : Nat) : ∀ es : Bl, lookE false (.int .i64 (k : Int)) (mapC es) = some ((getM k es).map blv)
  | [] => rfl
  | (k', v) :: r => by
    show (match eqKey false (.int .i64 (k : Int)) (.int .i64 (k' : Int)) with | some true => some (some (blv v)) | some false => lookE false (.int .i64 (k : Int)) (mapC r) | none => none) = _
    have ek : eqKey false (.int .i64 (k : Int)) (.int .i64 (k' : Int)) = some ((k : Int) == (k' : Int)) := by simp [eqKey]
    rw [ek]
    by_cases h : k = k'
    · subst h; simp [getM]
    · have hb : ((k : Int) == (k' : Int)) = false := by simp; omega
      rw [hb]
      simp only [getM, if_neg h]
      exact lookE_C k r
theorem putE_C (k : Nat) (v : Int × Int) : ∀ es : Bl, putE false (.int .i64 (k : Int)) (blv v) (mapC es) = some (mapC (putM k v es))
  | [] => rfl
  | (k', v') :: r => by
    show (match eqKey false (.int .i64 (k : Int)) (.int .i64 (k' : Int)) with | some true => some ((Value.int .i64 (k : Int), blv v) :: mapC r) | some false => (putE false (.int .i64 (k : Int)) (blv v) (mapC r)).map ((Value.int .i64 (k' : Int), blv v') :: ·) | none => none) = _
    have ek : eqKey false (.int .i64 (k : Int)) (.int .i64 (k' : Int)) = some ((k : Int) == (k' : Int)) := by simp [eqKey]
    rw [ek]
    by_cases h : k = k'
    · subst h; simp [putM, mapC]
    · have hb : ((k : Int) == (k' : Int)) = false := by simp; omega
      rw [hb]
      simp only [putM, if_neg h]
      rw [putE_C k v r]; rfl

section
variable {d : Option Nat} {r : List SOp} {e : Env} {h : Heap} {Q : Env → Heap → Prop}
theorem Wops_look {m : Arg} {k : Arg} {id : Nat} {n : Nat} {es : Bl} (hm : m.ev e = some (.map (some id))) (hk : k.ev e = some (.int .i64 (n : Int))) (g : At h id (.map (mapC es))) (hq : Wops Try.prog r (e.put d (blv ((getM n es).getD (0, 0)))) h Q) :
    Wops Try.prog (⟨d, none, .look false (.agg ⟨[.int .i64 0, .int .i64 0]⟩) false m k⟩ :: r) e h Q := by
  refine Wops_run (v := blv ((getM n es).getD (0, 0))) (h' := h) rfl ?_ hq
  have hat : h.get id = some (.map (mapC es)) := g
  simp only [SO.run, hm, hk, hat, lookE_C]
  cases getM n es <;> rfl
theorem Wops_lookB {m : Arg} {k : Arg} {id : Nat} {n : Nat} {es : Bl} (hm : m.ev e = some (.map (some id))) (hk : k.ev e = some (.int .i64 (n : Int))) (g : At h id (.map (mapC es))) (hq : Wops Try.prog r (e.put d (.tuple ⟨[blv ((getM n es).getD (0, 0)), .bool (getM n es).isSome]⟩)) h Q) :
    Wops Try.prog (⟨d, none, .look false (.agg ⟨[.int .i64 0, .int .i64 0]⟩) true m k⟩ :: r) e h Q := by
  refine Wops_run (v := .tuple ⟨[blv ((getM n es).getD (0, 0)), .bool (getM n es).isSome]⟩) (h' := h) rfl ?_ hq
  have hat : h.get id = some (.map (mapC es)) := g
  simp only [SO.run, hm, hk, hat, lookE_C]
  cases getM n es <;> rfl
theorem Wops_lenM {m : Arg} {id : Nat} {es : Bl} (hm : m.ev e = some (.map (some id))) (g : At h id (.map (mapC es))) (hq : Wops Try.prog r (e.put d (.int .i64 (es.length : Int))) h Q) : Wops Try.prog (⟨d, none, .lenM m⟩ :: r) e h Q := by
  refine Wops_run (v := .int .i64 (es.length : Int)) (h' := h) rfl ?_ hq
  have hat : h.get id = some (.map (mapC es)) := g
  simp only [SO.run, hm, hat, mapC, List.length_map]
theorem Wops_mput {m k v : Arg} {id n : Nat} {b : Int × Int} {es : Bl} (hm : m.ev e = some (.map (some id))) (hk : k.ev e = some (.int .i64 (n : Int))) (hv : v.ev e = some (blv b)) (g : At h id (.map (mapC es)))
    (hq : ∀ h', h'.next = h.next → Ext (· = id) h h' → At h' id (.map (mapC (putM n b es))) → Wops Try.prog r (e.put d undefV) h' Q) : Wops Try.prog (⟨d, none, .mput false m k v⟩ :: r) e h Q := by
  have hat : h.get id = some (.map (mapC es)) := g
  refine Wops_run (v := undefV) (h' := h.put id (some (.map (mapC (putM n b es))))) rfl ?_ (hq _ (Heap.next_put _ _ _) (Ext.put hat rfl _) (put_get hat rfl _))
  have hkey : isKey false (.int .i64 (n : Int)) = true := rfl
  simp only [SO.run, hm, hk, hv, hat, hkey, cond_true, putE_C, Option.map_some]
theorem Wops_mkMap (hq : ∀ h', h'.next = h.next + 1 → Ext0 h h' → At h' h.next (.map (mapC [])) → Wops Try.prog r (e.put d (.map (some h.next))) h' Q) : Wops Try.prog (⟨d, none, .mkMap⟩ :: r) e h Q :=
  Wops_run (v := .map (some h.next)) (h' := h.add (.map [])) rfl rfl (hq _ rfl (Ext.add _ _) (add_get _ _))
end

/-! ### The walker -/
/-- Instructions: what they are. -/
structure Ins (h : Heap) (a : Option Addr) (n c : Nat) (l : List Value) (ops : List Int) : Prop where
  sl : SlA h 6 a n c l
  len : ops.length = n
  op : ∀ i (hi : i < ops.length), l[i * 6 + 0]? = some (.int .i64 ops[i])
  cell : l.all isCell = true
  big : n ≤ 1000000
  lt : ∀ i, Blk a i → i < h.next
theorem Ins.ext {S : Nat → Prop} {h h' : Heap} {a : Option Addr} {n c : Nat} {l : List Value} {ops : List Int} (s : Ins h a n c l ops) (x : Ext S h h') (hn : ∀ i, Blk a i → ¬ S i := by exact fun _ _ q => q) : Ins h' a n c l ops := ⟨s.sl.ext x hn, s.len, s.op, s.cell, s.big, fun i q => Nat.lt_of_lt_of_le (s.lt i q) x.next⟩

/-- A walker: its places, the map's, how deep. -/
def Wk (h : Heap) (w m : Nat) (la : Option Addr) (ln lc : Nat) (st : List Nat) (es : Bl) (dep : Nat) (S : Nat → Prop) : Prop :=
  ∃ sa sc, At h w (.cells [.slice sa st.length sc, .slice la ln lc, .map (some m), .int .i64 (dep : Int)] 0 false) ∧ OwS h 1 sa st.length sc (ns st) ∧ At h m (.map (mapC es)) ∧ ¬ Blk sa w ∧ ¬ Blk sa m ∧ m ≠ w ∧ ∀ i, S i ↔ (i = w ∨ i = m ∨ Blk sa i)
theorem Wk.lt {h : Heap} {w m : Nat} {la : Option Addr} {ln lc : Nat} {st : List Nat} {es : Bl} {dep : Nat} {S : Nat → Prop} (q : Wk h w m la ln lc st es dep S) {i : Nat} (hi : S i) : i < h.next := by
  obtain ⟨sa, sc, g, o, gm, h1, h2, h3, hS⟩ := q
  rcases (hS i).1 hi with rfl | rfl | r
  · exact g.lt
  · exact gm.lt
  · exact o.lt r

/-- stack.push -/
theorem C55 {h : Heap} {w m at_ : Nat} {la : Option Addr} {ln lc : Nat} {st : List Nat} {es : Bl} {dep : Nat} {S : Nat → Prop} (q : Wk h w m la ln lc st es dep S) (hb : st.length ≤ 1000000) :
    Fn Try.prog 55 [ptr w, .int .i64 (at_ : Int)] h fun v h' => ∃ S', Wk h' w m la ln lc (st ++ [at_]) es dep S' ∧ Turn h h' S S' := by
  obtain ⟨sa, sc, g, o, gm, d1, d2, d3, hS⟩ := id q
  refine fnK F55.fok rfl ?_
  refine K_last (Wops_run rfl rfl (Wops_run rfl rfl (Wops_run rfl rfl (Wops_ld rfl g (by rfl) ?_))))
  refine Wops_run rfl rfl (Wops_bslice (l := ns [at_]) rfl rfl fun h1 n1 x1 g1 => ?_)
  refine Wops_app rfl rfl (o.ext x1) rfl (OwS.new (n := 1) (c := 1) g1 rfl).sl.first ⟨by omega, by omega⟩ rfl rfl (by decide) fun h2 a2 c2 x2 o2 b2 => ?_
  have z1 := x1.next
  have hw := g.lt
  have hm := gm.lt
  have e1 : ¬ Blk a2 w := fun r => (b2 w r).elim d1 fun r => by omega
  have e2 : ¬ Blk a2 m := fun r => (b2 m r).elim d2 fun r => by omega
  refine Wops_run rfl rfl (Wops_st (l := [.slice a2 (st.length + 1) c2]) rfl rfl rfl rfl ((g.ext x1).ext x2 d1) (by simp) rfl fun h3 n3 x3 g3 => ?_)
  refine K_finL [] rfl (?_)
  have hl : (st ++ [at_]).length = st.length + 1 := by simp
  refine Told.mk [] rfl ⟨fun i => i = w ∨ i = m ∨ Blk a2 i, ⟨a2, c2, by rw [hl]; exact g3, ?_, ((gm.ext x1).ext x2 d2).ext x3 d3, e1, e2, d3, fun i => Iff.rfl⟩, ?_, ?_⟩
  · rw [hl, ns, List.map_append]; exact o2.ext x3 fun i r e => e1 (by rw [← e]; exact r)
  · exact (x1.of0.then x2 fun i r => .inl ((hS i).2 (.inr (.inr r)))).then x3 fun i r => .inl ((hS i).2 (.inl r))
  · intro i r
    rcases r with rfl | rfl | r
    · exact .inl ((hS _).2 (.inl rfl))
    · exact .inl ((hS _).2 (.inr (.inl rfl)))
    · exact (b2 i r).elim (fun r => .inl ((hS i).2 (.inr (.inr r)))) fun r => .inr (by omega)

/-- stack.top -/
theorem C58 {h : Heap} {w m : Nat} {la : Option Addr} {ln lc : Nat} {st : List Nat} {es : Bl} {dep : Nat} {S : Nat → Prop} (q : Wk h w m la ln lc st es dep S) (hb : st.length ≤ 1000000) :
    Fn Try.prog 58 [ptr w] h fun v h' => v = .tuple ⟨[.int .i64 ((st.getLast?.getD 0 : Nat) : Int), .bool (!st.isEmpty)]⟩ ∧ h = h' := by
  obtain ⟨sa, sc, g, o, gm, d1, d2, d3, hS⟩ := id q
  refine fnK F58.fok rfl ?_
  refine K_reg (Wops_run rfl rfl (Wops_run rfl rfl (K_fin [(0, _)] rfl (?_))))
  refine K_ss (K_reg (Wops_run rfl rfl (Wops_run rfl rfl (Wops_ld rfl g (by rfl) (Wops_run rfl rfl ?_)))))
  rcases List.eq_nil_or_concat st with rfl | ⟨s0, k, rfl⟩
  · refine Wops_run rfl rfl (K_fin [(0, _), (8, _)] rfl (?_))
    refine K_scond rfl (fun _ => ?_) (fun hc => by cases hc)
    refine K_ss (K_reg (Wops_run rfl rfl (Wops_run rfl rfl (K_fin [(2, _), (3, _)] rfl (?_)))))
    exact K_sret (Told.mk _ rfl ⟨rfl, rfl⟩)
  · rw [List.concat_eq_append] at *
    have hl : (s0 ++ [k]).length = s0.length + 1 := by simp
    rw [hl] at g o
    refine Wops_eq (v := false) rfl rfl (by rw [hl]; simp; omega) (K_fin [(0, _), (8, _)] rfl (?_))
    refine K_scond rfl (fun hc => by cases hc) (fun _ => ?_)
    refine K_sskip (K_reg (Wops_run rfl rfl (Wops_run rfl rfl (Wops_ld rfl g (by rfl) ?_))))
    refine Wops_run rfl rfl (Wops_run rfl rfl (Wops_ld rfl g (by rfl) (Wops_run rfl rfl (Wops_as (w := .int .i64 (s0.length : Int)) rfl rfl (by rw [w64 (by simp at hb; omega)]; congr 1; omega) ?_))))
    refine Wops_idx (u := .int .i64 (k : Int)) rfl rfl o.sl ⟨by omega, by omega⟩ (by simp [ns]) fun _ => ?_
    refine Wops_run rfl rfl (Wops_run rfl rfl (K_fin [(2, _), (3, _)] rfl (?_)))
    exact K_ret (Told.mk _ rfl ⟨by simp [tupled], rfl⟩)

/-- stack.pop -/
theorem C59 {h : Heap} {w m : Nat} {la : Option Addr} {ln lc : Nat} {st : List Nat} {es : Bl} {dep : Nat} {S : Nat → Prop} (q : Wk h w m la ln lc st es dep S) (hb : st.length ≤ 1000000) :
    Fn Try.prog 59 [ptr w] h fun v h' => v = .tuple ⟨[.int .i64 ((st.getLast?.getD 0 : Nat) : Int), .bool (!st.isEmpty)]⟩ ∧ Wk h' w m la ln lc st.dropLast es dep S ∧ Turn h h' S S := by
  obtain ⟨sa, sc, g, o, gm, d1, d2, d3, hS⟩ := id q
  refine fnK F59.fok rfl ?_
  refine K_reg (Wops_run rfl rfl (Wops_run rfl rfl (K_fin [(0, _)] rfl (?_))))
  refine K_reg (Wops_run rfl rfl (Wops_run rfl rfl (Wops_ld rfl g (by rfl) (Wops_run rfl rfl ?_))))
  rcases List.eq_nil_or_concat st with rfl | ⟨s0, k, rfl⟩
  · refine Wops_run rfl rfl (Wops_run rfl rfl (K_fin [(0, _), (4, _)] rfl (?_)))
    refine K_ss (K_reg (Wops_run rfl rfl (Wops_run rfl rfl (K_fin [(0, _), (4, _), (11, _)] rfl (?_)))))
    refine K_scond rfl (fun _ => ?_) (fun hc => by cases hc)
    refine K_ss (K_reg (Wops_run rfl rfl (Wops_run rfl rfl (K_fin [(2, _), (3, _)] rfl (?_)))))
    exact K_sret (Told.mk _ rfl ⟨rfl, q, Turn.refl _ _⟩)
  · rw [List.concat_eq_append] at *
    have hl : (s0 ++ [k]).length = s0.length + 1 := by simp
    rw [hl] at g o
    refine Wops_as (w := .int .i64 (s0.length : Int)) rfl rfl (by rw [hl, w64 (by simp at hb; omega)]; congr 1; omega) (Wops_run rfl rfl (K_fin [(0, _), (4, _)] rfl (?_)))
    refine K_ss (K_reg (Wops_run rfl rfl (Wops_as (w := .bool false) rfl rfl (by rw [decide_eq_false (by omega)]) (K_fin [(0, _), (4, _), (11, _)] rfl (?_)))))
    refine K_scond rfl (fun hc => by cases hc) (fun _ => ?_)
    refine K_sskip (K_reg (Wops_run rfl rfl (Wops_run rfl rfl (Wops_ld rfl g (by rfl) (Wops_run rfl rfl ?_)))))
    refine Wops_idx (u := .int .i64 (k : Int)) rfl rfl o.sl ⟨by omega, by omega⟩ (by simp [ns]) fun _ => ?_
    refine Wops_run rfl rfl (K_fin [(0, _), (2, _), (4, _)] rfl (?_))
    refine K_reg (Wops_run rfl rfl (Wops_run rfl rfl (Wops_run rfl rfl (Wops_ld rfl g (by rfl) (Wops_run rfl rfl ?_)))))
    refine Wops_slV rfl rfl rfl o.sl.ok (bounds_hi (i := s0.length) (by omega)) ?_
    refine Wops_run rfl rfl (Wops_st (l := [.slice (shift sa (0 * 1)) (s0.length - 0) sc]) rfl rfl rfl rfl g (by simp) rfl fun h3 n3 x3 g3 => ?_)
    refine K_fin [(2, _)] rfl (?_)
    refine K_reg (Wops_run rfl rfl (Wops_run rfl rfl (Wops_run rfl rfl (K_fin [(2, _), (3, _)] rfl (?_)))))
    have hs := o.sub (i := 0) (j := s0.length) (by omega) (by omega)
    have hsh : ∀ i, Blk (shift sa (0 * 1)) i ↔ Blk sa i := fun i => shift_blk
    refine K_ret (Told.mk _ rfl ⟨by simp [tupled], ⟨shift sa (0 * 1), sc, ?_, ?_, gm.ext x3 d3, fun r => d1 ((hsh w).1 r), fun r => d2 ((hsh m).1 r), d3, fun i => by rw [hS, hsh]⟩, x3.mono fun i _ r => (hS i).2 (.inl r), fun i r => .inl r⟩)
    · rw [List.dropLast_concat]; exact g3
    · rw [List.dropLast_concat]
      have := hs.ext x3 (fun i r e => d1 (by rw [← e]; exact (hsh i).1 r))
      have e2 : ((ns (s0 ++ [k])).drop (0 * 1)).take ((s0.length - 0) * 1) = ns s0 := by simp [ns]
      rw [e2] at this
      exact this

end
section
/- Contracts of ctrl: half, closes, one. -/
set_option linter.unusedVariables false
set_option linter.unusedSimpArgs false

def halfP (ops : List Int) (i : Nat) (st : List Nat) (es : Bl) : Bool × Bl := match st.getLast? with
  | none => (false, es)
  | some k => if ops.getD k 0 ≠ 4 ∨ ((getM k es).getD (0, 0)).1 ≠ -1 then (false, es) else (true, putM k ((i : Int), 0) es)
def closeP (ops : List Int) (i : Nat) (st : List Nat) (es : Bl) : Bool × List Nat × Bl := match st.getLast? with
  | none => (decide (i + 1 = ops.length), st, es)
  | some k => (true, st.dropLast, putM k (((getM k es).getD (0, 0)).1, (i : Int)) es)

/-- An instruction's place, and what it is. -/
theorem Ins.at {h : Heap} {a : Option Addr} {n c : Nat} {l : List Value} {ops : List Int} (s : Ins h a n c l ops) {k : Nat} (hk : k < ops.length) {vs : List Value} {off : Nat} (hv : ∀ i, i < n * 6 → vs[off + i]? = l[i]?) : vs[off + (k : Int).toNat * 6 + 0]? = some (.int .i64 (ops.getD k 0)) := by
  have hn := s.len
  rw [Int.toNat_natCast, Nat.add_assoc, hv _ (by omega), s.op k hk, List.getD_eq_getElem?_getD, List.getElem?_eq_getElem hk]; rfl

set_option maxHeartbeats 1000000 in
/-- walker.half -/
theorem C56 {h : Heap} {w m i : Nat} {la : Option Addr} {ln lc : Nat} {l : List Value} {ops : List Int} {st : List Nat} {es : Bl} {dep : Nat} {S : Nat → Prop} (q : Wk h w m la ln lc st es dep S) (I : Ins h la ln lc l ops) (hst : ∀ k ∈ st, k < ops.length) (hb : st.length ≤ 1000000) :
    Fn Try.prog 56 [ptr w, .int .i64 (i : Int)] h fun v h' => v = .bool (halfP ops i st es).1 ∧ Wk h' w m la ln lc st (halfP ops i st es).2 dep S ∧ Turn h h' S S := by
  have hQ := q
  obtain ⟨sa, sc, g, o, gm, d1, d2, d3, hS⟩ := id q
  refine fnK F56.fok rfl ?_
  refine K_reg (Wops_run rfl rfl (K_fin [(0, _), (1, _)] rfl (?_)))
  rcases List.eq_nil_or_concat st with rfl | ⟨s0, k, rfl⟩
  · refine K_reg (Wops_run rfl rfl (Wops_run rfl rfl (Wops_run rfl rfl (Wops_call rfl (C58 q hb) ?_))))
    rintro _ _ ⟨rfl, rfl⟩
    refine Wops_run rfl rfl (Wops_run rfl rfl (Wops_run rfl rfl (Wops_run rfl rfl (Wops_run rfl rfl (K_fin [(0, _), (1, _), (5, _), (6, _)] rfl (?_))))))
    refine K_ss (K_reg ?_)
    repeat (first | refine Wops_skip rfl ?_ | refine Wops_run rfl rfl ?_)
    refine K_fin [(0, _), (1, _), (5, _), (36, .bool true)] rfl (?_)
    refine K_scond rfl (fun _ => ?_) (fun hc => by cases hc)
    refine K_ss (K_reg (Wops_run rfl rfl (K_fin [(4, _)] rfl (?_))))
    exact K_sret (Told.mk _ rfl ⟨rfl, hQ, Turn.refl _ _⟩)
  rw [List.concat_eq_append] at *
  have hk : k < ops.length := hst k (by simp)
  have hlast : (s0 ++ [k]).getLast? = some k := by simp
  refine K_reg (Wops_run rfl rfl (Wops_run rfl rfl (Wops_run rfl rfl (Wops_call rfl ((C58 q hb).mono (Q' := fun v h' => v = .tuple ⟨[.int .i64 (k : Int), .bool true]⟩ ∧ h = h') fun v h' r => ⟨by rw [r.1]; simp, r.2⟩) ?_))))
  rintro _ _ ⟨rfl, rfl⟩
  refine Wops_run rfl rfl (Wops_run rfl rfl (Wops_run rfl rfl (Wops_run rfl rfl (Wops_run rfl rfl (K_fin [(0, _), (1, _), (5, _), (6, _)] rfl (?_))))))
  refine K_ss (K_reg (Wops_run rfl rfl (Wops_run rfl rfl (Wops_run rfl rfl (Wops_go rfl (Wops_run rfl rfl (Wops_go rfl (Wops_run rfl rfl (Wops_go rfl (Wops_run rfl rfl (Wops_go rfl (Wops_ld rfl g (by rfl) (Wops_go rfl (Wops_run rfl rfl (Wops_go rfl ?_)))))))))))))))
  refine Wops_iaS rfl rfl I.sl ⟨by omega, by have := I.len; omega⟩ fun id off vs ez ro _ v1 v2 v3 => ?_
  refine Wops_go rfl (Wops_run rfl rfl (Wops_go rfl (Wops_ld rfl v1 (I.at hk v3) (Wops_go rfl ?_))))
  by_cases h4 : ops.getD k 0 = 4
  rotate_left
  · refine Wops_neq (v := true) rfl rfl (by simpa using h4) (Wops_run rfl rfl ?_)
    repeat (first | refine Wops_skip rfl ?_ | refine Wops_run rfl rfl ?_)
    refine K_fin [(0, _), (1, _), (5, _), (36, .bool true)] rfl (?_)
    refine K_scond rfl (fun _ => ?_) (fun hc => by cases hc)
    refine K_ss (K_reg (Wops_run rfl rfl (K_fin [(4, _)] rfl (?_))))
    have hP : halfP ops i (s0 ++ [k]) es = (false, es) := by unfold halfP; rw [hlast]; simp only; rw [if_pos (.inl h4)]
    rw [hP]
    exact K_sret (Told.mk _ rfl ⟨rfl, hQ, Turn.refl _ _⟩)
  refine Wops_neq (v := false) rfl rfl (by rw [h4]; rfl) (Wops_run rfl rfl (Wops_run rfl rfl ?_))
  refine Wops_go rfl (Wops_run rfl rfl (Wops_go rfl (Wops_run rfl rfl (Wops_go rfl (Wops_run rfl rfl (Wops_go rfl (Wops_ld rfl g (by rfl) (Wops_go rfl (Wops_run rfl rfl (Wops_go rfl (Wops_look rfl rfl gm (Wops_go rfl (Wops_run rfl rfl (Wops_go rfl ?_))))))))))))))
  by_cases he : ((getM k es).getD (0, 0)).1 = -1
  rotate_left
  · refine Wops_neq (v := true) rfl rfl (by simpa using he) (Wops_run rfl rfl (K_fin [(0, _), (1, _), (5, _), (36, .bool true)] rfl (?_)))
    refine K_scond rfl (fun _ => ?_) (fun hc => by cases hc)
    refine K_ss (K_reg (Wops_run rfl rfl (K_fin [(4, _)] rfl (?_))))
    have hP : halfP ops i (s0 ++ [k]) es = (false, es) := by unfold halfP; rw [hlast]; simp only; rw [if_pos (.inr he)]
    rw [hP]
    exact K_sret (Told.mk _ rfl ⟨rfl, hQ, Turn.refl _ _⟩)
  refine Wops_neq (v := false) rfl rfl (by rw [he]; rfl) (Wops_run rfl rfl (K_fin [(0, _), (1, _), (5, _), (36, .bool false)] rfl (?_)))
  refine K_scond rfl (fun hc => by cases hc) (fun _ => ?_)
  refine K_sskip (K_reg (Wops_run rfl rfl (Wops_run rfl rfl (Wops_run rfl rfl (Wops_ld rfl g (by rfl) (Wops_run rfl rfl (Wops_run rfl rfl (Wops_run rfl rfl ?_))))))))
  refine Wops_mput (b := ((i : Int), 0)) rfl rfl rfl gm fun h1 n1 x1 g1 => ?_
  refine K_fin [] rfl (?_)
  refine K_reg (Wops_run rfl rfl (K_fin [(4, _)] rfl (?_)))
  have hP : halfP ops i (s0 ++ [k]) es = (true, putM k ((i : Int), 0) es) := by unfold halfP; rw [hlast]; simp only; rw [if_neg (fun q => q.elim (fun q => q h4) fun q => q he)]
  rw [hP]
  refine K_ret (Told.mk _ rfl ⟨rfl, ⟨sa, sc, g.ext x1 (fun e => d3 e.symm), o.ext x1 (fun j r e => d2 (by rw [← e]; exact r)), g1, d1, d2, d3, hS⟩, x1.mono fun j _ r => (hS j).2 (.inr (.inl r)), fun j r => .inl r⟩)

set_option maxHeartbeats 1000000 in
/-- walker.closes -/
theorem C57 {h : Heap} {w m i : Nat} {la : Option Addr} {ln lc : Nat} {l : List Value} {ops : List Int} {st : List Nat} {es : Bl} {dep : Nat} {S : Nat → Prop} (q : Wk h w m la ln lc st es dep S) (I : Ins h la ln lc l ops) (hi : i < ops.length) (hb : st.length ≤ 1000000) :
    Fn Try.prog 57 [ptr w, .int .i64 (i : Int)] h fun v h' => v = .bool (closeP ops i st es).1 ∧ Wk h' w m la ln lc (closeP ops i st es).2.1 (closeP ops i st es).2.2 dep S ∧ Turn h h' S S := by
  have hln := I.len
  have hbig := I.big
  refine fnK F57.fok rfl ?_
  refine K_reg (Wops_run rfl rfl (K_fin [(0, _), (1, _)] rfl (?_)))
  rcases List.eq_nil_or_concat st with rfl | ⟨s0, k, rfl⟩
  · refine K_reg (Wops_run rfl rfl (Wops_run rfl rfl (Wops_run rfl rfl (Wops_call rfl (C59 q hb) ?_))))
    rintro _ h1 ⟨rfl, q1, t1⟩
    obtain ⟨sa, sc, g, o, gm, d1, d2, d3, hS⟩ := id q1
    refine Wops_run rfl rfl (Wops_run rfl rfl (Wops_run rfl rfl (Wops_run rfl rfl (Wops_run rfl rfl (K_fin [(0, _), (1, _), (5, _), (6, _)] rfl (?_))))))
    refine K_ss (K_reg (Wops_run rfl rfl (Wops_run rfl rfl (K_fin [(0, _), (1, _), (5, _), (15, _)] rfl (?_)))))
    refine K_scond rfl (fun _ => ?_) (fun hc => by cases hc)
    refine K_ss (K_reg (Wops_run rfl rfl (Wops_run rfl rfl (Wops_run rfl rfl (Wops_run rfl rfl (Wops_ld rfl g (by rfl) (Wops_run rfl rfl ?_)))))))
    refine Wops_as (w := .int .i64 ((ln : Int) - 1)) rfl rfl (by rw [w64 (by omega)]) (Wops_eq (v := decide (i + 1 = ops.length)) rfl rfl ?_ (Wops_run rfl rfl (K_fin [(4, _)] rfl (?_))))
    · by_cases he : i + 1 = ops.length
      · rw [decide_eq_true he]; simp; omega
      · rw [decide_eq_false he]; simp; omega
    exact K_sret (Told.mk _ rfl ⟨rfl, q1, t1⟩)
  rw [List.concat_eq_append] at *
  have hlast : (s0 ++ [k]).getLast? = some k := by simp
  refine K_reg (Wops_run rfl rfl (Wops_run rfl rfl (Wops_run rfl rfl (Wops_call rfl ((C59 q hb).mono (Q' := fun v h' => v = .tuple ⟨[.int .i64 (k : Int), .bool true]⟩ ∧ Wk h' w m la ln lc (s0 ++ [k]).dropLast es dep S ∧ Turn h h' S S) fun v h' r => ⟨by rw [r.1]; simp, r.2⟩) ?_))))
  rintro _ h1 ⟨rfl, q1, t1⟩
  obtain ⟨sa, sc, g, o, gm, d1, d2, d3, hS⟩ := id q1
  refine Wops_run rfl rfl (Wops_run rfl rfl (Wops_run rfl rfl (Wops_run rfl rfl (Wops_run rfl rfl (K_fin [(0, _), (1, _), (5, _), (6, _)] rfl (?_))))))
  refine K_ss (K_reg (Wops_run rfl rfl (Wops_run rfl rfl (K_fin [(0, _), (1, _), (5, _), (15, _)] rfl (?_)))))
  refine K_scond rfl (fun hc => by cases hc) (fun _ => ?_)
  refine K_sskip (K_reg (Wops_run rfl rfl (Wops_run rfl rfl (Wops_run rfl rfl (Wops_ld rfl g (by rfl) (Wops_run rfl rfl (Wops_run rfl rfl (Wops_run rfl rfl (Wops_run rfl rfl (Wops_ld rfl g (by rfl) (Wops_run rfl rfl (Wops_look rfl rfl gm (Wops_run rfl rfl (Wops_run rfl rfl (Wops_run rfl rfl ?_)))))))))))))))
  refine Wops_mput (b := (((getM k es).getD (0, 0)).1, (i : Int))) rfl rfl rfl gm fun h2 n2 x2 g2 => ?_
  refine K_fin [] rfl (?_)
  refine K_reg (Wops_run rfl rfl (K_fin [(4, _)] rfl (?_)))
  have hP : closeP ops i (s0 ++ [k]) es = (true, (s0 ++ [k]).dropLast, putM k (((getM k es).getD (0, 0)).1, (i : Int)) es) := by unfold closeP; rw [hlast]
  rw [hP]
  refine K_ret (Told.mk _ rfl ⟨rfl, ⟨sa, sc, g.ext x2 (fun e => d3 e.symm), o.ext x2 (fun j r e => d2 (by rw [← e]; exact r)), g2, d1, d2, d3, hS⟩, t1.trans ⟨x2.mono fun j _ r => (hS j).2 (.inr (.inl r)), fun j r => .inl r⟩⟩)

abbrev Wst := List Nat × Bl × Nat
def oneP (ops : List Int) (i : Nat) (s : Wst) : Bool × Wst :=
  if ops.getD i 0 = 2 ∨ ops.getD i 0 = 3 ∨ ops.getD i 0 = 4 then (true, s.1 ++ [i], putM i (-1, 0) s.2.1, max s.2.2 (s.1.length + 1))
  else if ops.getD i 0 = 5 then ((halfP ops i s.1 s.2.1).1, s.1, (halfP ops i s.1 s.2.1).2, s.2.2)
  else if ops.getD i 0 = 11 then ((closeP ops i s.1 s.2.1).1, (closeP ops i s.1 s.2.1).2.1, (closeP ops i s.1 s.2.1).2.2, s.2.2)
  else (true, s)

set_option maxHeartbeats 1000000 in
/-- walker.one -/
theorem C54 {h : Heap} {w m i : Nat} {la : Option Addr} {ln lc : Nat} {l : List Value} {ops : List Int} {st : List Nat} {es : Bl} {dep : Nat} {S : Nat → Prop} (q : Wk h w m la ln lc st es dep S) (I : Ins h la ln lc l ops) (hla : ∀ j, Blk la j → ¬ S j) (hi : i < ops.length) (hst : ∀ k ∈ st, k < ops.length) (hb : st.length ≤ 1000000) :
    Fn Try.prog 54 [ptr w, .int .i64 (i : Int)] h fun v h' => v = .bool (oneP ops i (st, es, dep)).1 ∧ ∃ S', Wk h' w m la ln lc (oneP ops i (st, es, dep)).2.1 (oneP ops i (st, es, dep)).2.2.1 (oneP ops i (st, es, dep)).2.2.2 S' ∧ Turn h h' S S' := by
  have hln := I.len
  obtain ⟨sa, sc, g, o, gm, d1, d2, d3, hS⟩ := id q
  refine fnK F54.fok rfl ?_
  refine K_reg (Wops_run rfl rfl (K_fin [(0, _), (1, _)] rfl (?_)))
  refine K_ss (K_reg (Wops_run rfl rfl (Wops_run rfl rfl (Wops_run rfl rfl (Wops_ld rfl g (by rfl) (Wops_run rfl rfl ?_))))))
  refine Wops_iaS rfl rfl I.sl ⟨by omega, by omega⟩ fun id off vs ez ro _ v1 v2 v3 => ?_
  refine Wops_run rfl rfl (Wops_ld rfl v1 (I.at hi v3) ?_)
  refine K_fin [(0, _), (1, _), (12, _)] rfl (?_)
  generalize hop : ops.getD i 0 = op
  refine K_sblock ?_
  refine K_join (fun e h' => e = [(0, ptr w), (1, .int .i64 (i : Int)), (12, .int .i64 op), (13, .bool (decide (op = 2 ∨ op = 3 ∨ op = 4)))] ∧ h = h') ?_ ?_
  · by_cases h2 : op = 2
    · refine K_reg (Wops_eq (v := true) rfl rfl (by rw [h2]; rfl) (Wops_run rfl rfl (K_fin [(0, _), (1, _), (12, _), (13, _)] rfl (?_))))
      refine K_cond rfl (fun _ => ?_) (fun hc => by cases hc)
      exact K_skip ⟨by rw [decide_eq_true (.inl h2)], rfl⟩
    refine K_reg (Wops_eq (v := false) rfl rfl (by simpa using h2) (Wops_run rfl rfl (K_fin [(0, _), (1, _), (12, _), (13, _)] rfl (?_))))
    refine K_cond rfl (fun hc => by cases hc) (fun _ => ?_)
    by_cases h3 : op = 3
    · refine K_reg (Wops_eq (v := true) rfl rfl (by rw [h3]; rfl) (Wops_run rfl rfl (K_fin [(0, _), (1, _), (12, _), (13, _)] rfl (?_))))
      refine K_cond rfl (fun _ => ?_) (fun hc => by cases hc)
      exact K_skip ⟨by rw [decide_eq_true (.inr (.inl h3))], rfl⟩
    refine K_reg (Wops_eq (v := false) rfl rfl (by simpa using h3) (Wops_run rfl rfl (K_fin [(0, _), (1, _), (12, _), (13, _)] rfl (?_))))
    refine K_cond rfl (fun hc => by cases hc) (fun _ => ?_)
    refine K_last (Wops_eq (v := decide (op = 4)) rfl rfl (by by_cases h4 : op = 4 <;> simp [h4]) (Wops_run rfl rfl (K_finL [(0, _), (1, _), (12, _), (13, _)] rfl (?_))))
    exact ⟨by simp [h2, h3], rfl⟩
  rintro e _ ⟨rfl, rfl⟩
  by_cases h234 : op = 2 ∨ op = 3 ∨ op = 4
  · rw [decide_eq_true h234]
    have hP : oneP ops i (st, es, dep) = (true, st ++ [i], putM i (-1, 0) es, max dep (st.length + 1)) := by unfold oneP; rw [hop, if_pos h234]
    rw [hP]
    refine K_cond rfl (fun _ => ?_) (fun hc => by cases hc)
    refine K_reg (Wops_run rfl rfl (Wops_run rfl rfl (Wops_run rfl rfl (Wops_run rfl rfl (Wops_call rfl (C55 (at_ := i) q hb) ?_)))))
    rintro _ h1 ⟨S1, q1, t1⟩
    have q1' := q1
    obtain ⟨sa1, sc1, g1, o1, gm1, e1, e2, e3, hS1⟩ := q1'
    refine K_fin [(0, _), (1, _)] rfl (?_)
    refine K_reg (Wops_run rfl rfl (Wops_run rfl rfl (Wops_run rfl rfl (Wops_ld rfl g1 (by rfl) (Wops_run rfl rfl (Wops_run rfl rfl ?_))))))
    refine Wops_mput (b := (-1, 0)) rfl rfl rfl gm1 fun h2 n2 x2 g2 => ?_
    have gw2 := g1.ext x2 (fun e => e3 e.symm)
    refine K_fin [(0, _)] rfl (?_)
    refine K_last (Wops_run rfl rfl (Wops_run rfl rfl (Wops_run rfl rfl (Wops_run rfl rfl (Wops_ld rfl gw2 (by rfl) ?_)))))
    refine Wops_run rfl rfl (Wops_run rfl rfl (Wops_run rfl rfl (Wops_ld rfl gw2 (by rfl) (Wops_run rfl rfl ?_))))
    refine Wops_as (w := .int .i64 ((max dep (st.length + 1) : Nat) : Int)) rfl rfl ?_ (Wops_run rfl rfl (Wops_run rfl rfl (Wops_st (l := [.int .i64 ((max dep (st.length + 1) : Nat) : Int)]) rfl rfl rfl rfl gw2 (by simp) rfl fun h3 n3 x3 g3 => ?_)))
    · show Value.int .i64 _ = _
      congr 1
      simp only [List.length_append, List.length_cons, List.length_nil]
      first | rfl | (rw [Int.natCast_max]; rfl) | (split <;> omega) | omega
    refine K_finL [] rfl (?_)
    refine K_reg (Wops_run rfl rfl (K_fin [(4, _)] rfl (?_)))
    refine K_ret (Told.mk _ rfl ⟨rfl, S1, ⟨sa1, sc1, g3, (o1.ext x2 (fun j r e => e2 (by rw [← e]; exact r))).ext x3 (fun j r e => e1 (by rw [← e]; exact r)), At.ext (o := .map _) g2 x3 e3, e1, e2, e3, hS1⟩, t1.trans ⟨(x2.mono fun j _ r => (hS1 j).2 (.inr (.inl r))).then x3 fun j r => .inl ((hS1 j).2 (.inl r)), fun j r => .inl r⟩⟩)
  rw [decide_eq_false h234]
  refine K_cond rfl (fun hc => by cases hc) (fun _ => ?_)
  by_cases h5 : op = 5
  · have hP : oneP ops i (st, es, dep) = ((halfP ops i st es).1, st, (halfP ops i st es).2, dep) := by unfold oneP; rw [hop, if_neg h234, if_pos h5]
    rw [hP]
    refine K_reg (Wops_eq (v := true) rfl rfl (by rw [h5]; rfl) (Wops_run rfl rfl (K_fin [(0, _), (1, _), (12, _), (41, _)] rfl (?_))))
    refine K_cond rfl (fun _ => ?_) (fun hc => by cases hc)
    refine K_reg (Wops_run rfl rfl (Wops_run rfl rfl (Wops_call rfl (C56 q I hst hb) ?_)))
    rintro _ h1 ⟨rfl, q1, t1⟩
    refine Wops_run rfl rfl (K_fin [(4, _)] rfl (?_))
    exact K_ret (Told.mk _ rfl ⟨rfl, S, q1, t1⟩)
  refine K_reg (Wops_eq (v := false) rfl rfl (by simpa using h5) (Wops_run rfl rfl (K_fin [(0, _), (1, _), (12, _), (41, _)] rfl (?_))))
  refine K_cond rfl (fun hc => by cases hc) (fun _ => ?_)
  by_cases h11 : op = 11
  · have hP : oneP ops i (st, es, dep) = ((closeP ops i st es).1, (closeP ops i st es).2.1, (closeP ops i st es).2.2, dep) := by unfold oneP; rw [hop, if_neg h234, if_neg h5, if_pos h11]
    rw [hP]
    refine K_reg (Wops_eq (v := true) rfl rfl (by rw [h11]; rfl) (Wops_run rfl rfl (K_fin [(0, _), (1, _), (46, _)] rfl (?_))))
    refine K_cond rfl (fun _ => ?_) (fun hc => by cases hc)
    refine K_reg (Wops_run rfl rfl (Wops_run rfl rfl (Wops_call rfl (C57 q I hi hb) ?_)))
    rintro _ h1 ⟨rfl, q1, t1⟩
    refine Wops_run rfl rfl (K_fin [(4, _)] rfl (?_))
    exact K_ret (Told.mk _ rfl ⟨rfl, S, q1, t1⟩)
  have hP : oneP ops i (st, es, dep) = (true, st, es, dep) := by unfold oneP; rw [hop, if_neg h234, if_neg h5, if_neg h11]
  rw [hP]
  refine K_reg (Wops_eq (v := false) rfl rfl (by simpa using h11) (Wops_run rfl rfl (K_fin [(0, _), (1, _), (46, _)] rfl (?_))))
  refine K_cond rfl (fun hc => by cases hc) (fun _ => ?_)
  refine K_skip ?_
  refine K_reg (Wops_run rfl rfl (K_fin [(4, _)] rfl (?_)))
  exact K_ret (Told.mk _ rfl ⟨rfl, S, q, Turn.refl _ _⟩)

end
section
/- Contracts of ctrl: walk, Blocks, Depth. -/
set_option linter.unusedVariables false
set_option linter.unusedSimpArgs false

/-- What a walker has behind so many instructions. -/
def pst (ops : List Int) : Nat → Option Wst
  | 0 => some ([], [], 0)
  | i + 1 => match pst ops i with
    | none => none
    | some s => if (oneP ops i s).1 = true then some (oneP ops i s).2 else none
def walkP (ops : List Int) : Option (Bl × Nat × Bool) := match pst ops ops.length with
  | none => none
  | some s => if ops.length = 0 ∨ s.1 ≠ [] ∨ ops.getD (ops.length - 1) 0 ≠ 11 then none else some (s.2.1, s.2.2, decide (ops.count 11 = s.2.1.length + 1))

theorem putM_length {k : Nat} {v : Int × Int} : ∀ {es : Bl}, (putM k v es).length ≤ es.length + 1
  | [] => by simp [putM]
  | (k', v') :: r => by
    unfold putM
    split
    · simp
    · have := @putM_length k v r; simp; omega
theorem oneP_es {ops : List Int} {i : Nat} {s : Wst} : (oneP ops i s).2.2.1.length ≤ s.2.1.length + 1 := by
  unfold oneP
  split
  · exact putM_length
  · split
    · unfold halfP
      split
      · simp
      · split
        · simp
        · exact putM_length
    · split
      · unfold closeP
        split
        · simp
        · exact putM_length
      · simp
theorem oneP_st {ops : List Int} {i : Nat} {s : Wst} (h1 : ∀ k ∈ s.1, k < i) (h2 : s.1.length ≤ i) : (∀ k ∈ (oneP ops i s).2.1, k < i + 1) ∧ (oneP ops i s).2.1.length ≤ i + 1 := by
  have a1 : ∀ k ∈ s.1, k < i + 1 := fun k hk => Nat.lt_succ_of_lt (h1 k hk)
  have a2 : s.1.length ≤ i + 1 := by omega
  unfold oneP
  split
  · refine ⟨fun k hk => ?_, by simp; omega⟩
    rcases List.mem_append.1 hk with hk | hk
    · exact a1 k hk
    · simp at hk; omega
  · split
    · exact ⟨a1, a2⟩
    · split
      · unfold closeP
        split
        · exact ⟨a1, a2⟩
        · exact ⟨fun k hk => a1 k (List.dropLast_subset _ hk), by simp; omega⟩
      · exact ⟨a1, a2⟩
theorem pst_st {ops : List Int} : ∀ {i : Nat} {s : Wst}, pst ops i = some s → (∀ k ∈ s.1, k < i) ∧ s.1.length ≤ i ∧ s.2.1.length ≤ i
  | 0, s, h => by cases h; exact ⟨fun k hk => (by cases hk), Nat.le_refl _, Nat.le_refl _⟩
  | i + 1, s, h => by
    unfold pst at h
    split at h
    · cases h
    · rename_i s0 h0
      split at h
      · cases h
        obtain ⟨a, b, c⟩ := pst_st h0
        have d := @oneP_es ops i s0
        exact ⟨(oneP_st a b).1, (oneP_st a b).2, by omega⟩
      · cases h
theorem pst_none {ops : List Int} {i : Nat} (h : pst ops i = none) : ∀ j, i ≤ j → pst ops j = none := by
  intro j hj
  induction j with
  | zero => obtain rfl : i = 0 := by omega
            exact h
  | succ j ih =>
    by_cases hij : i = j + 1
    · subst hij; exact h
    · unfold pst; rw [ih (by omega)]

theorem take_count {ops : List Int} {i : Nat} (hi : i < ops.length) : (ops.take (i + 1)).count 11 = (ops.take i).count 11 + if ops.getD i 0 = 11 then 1 else 0 := by
  rw [List.take_add_one, List.getElem?_eq_getElem hi, Option.toList_some, List.count_append, List.getD_eq_getElem?_getD, List.getElem?_eq_getElem hi]
  by_cases h : ops[i] = 11
  · simp [h]
  · simp [h]

set_option maxHeartbeats 2000000 in
/-- walk -/
theorem C53 {h : Heap} {la : Option Addr} {ln lc : Nat} {l : List Value} {ops : List Int} (I : Ins h la ln lc l ops) :
    Fn Try.prog 53 [.slice la ln lc] h fun v h' => Ext0 h h' ∧
      ((walkP ops = none ∧ v = .tuple ⟨[.pointer none, .bool false]⟩) ∨
       ∃ es dep b w m S, walkP ops = some (es, dep, b) ∧ v = .tuple ⟨[ptr w, .bool b]⟩ ∧ Wk h' w m la ln lc [] es dep S) := by
  have hln := I.len
  have hbig := I.big
  refine fnK F53.fok rfl ?_
  refine K_reg (Wops_run rfl rfl (Wops_run rfl rfl (K_fin [(0, _)] rfl (?_))))
  refine K_reg (Wops_run rfl rfl (Wops_mkMap fun h1 n1 x1 g1 => Wops_run rfl rfl (Wops_box (cs := [.slice none 0 0, .slice la ln lc, .map (some h.next), .int .i64 0]) rfl rfl fun h2 n2 x2 g2 => Wops_run rfl rfl (K_fin [(0, _), (4, _)] rfl (?_)))))
  have X2 : Ext0 h h2 := x1.trans x2
  have q0 : Wk h2 h1.next h.next la ln lc [] [] 0 (fun i => i = h1.next ∨ i = h.next) := ⟨none, 0, g2, OwS.none, g1.ext x2, Blk.none, Blk.none, by omega, fun i => ⟨fun r => r.imp id .inl, fun r => r.imp id fun r => r.elim id fun r => absurd r Blk.none⟩⟩
  have hw1 : h.next ≤ h1.next := by omega
  generalize h1.next = w at *
  refine K_ss (K_reg (Wops_run rfl rfl (Wops_run rfl rfl (Wops_run rfl rfl (K_fin [(0, _), (4, _), (14, _), (15, _)] rfl (?_))))))
  refine K_jblock (fun e h' => e = [(0, .slice la ln lc), (4, ptr w), (14, .int .i64 ln), (15, .int .i64 ln), (16, .bool false)] ∧ ∃ st es dep S, pst ops ops.length = some (st, es, dep) ∧ Wk h' w h.next la ln lc st es dep S ∧ Ext0 h h') ?_ ?_
  · refine K_loop (fun k e h' => ∃ (i : Nat) (st : List Nat) (es : Bl) (dep : Nat) (S : Nat → Prop), e = [(0, .slice la ln lc), (4, ptr w), (14, .int .i64 ln), (15, .int .i64 i)] ∧ i ≤ ln ∧ k = ln - i ∧ pst ops i = some (st, es, dep) ∧ Wk h' w h.next la ln lc st es dep S ∧ (∀ j, S j → h.next ≤ j) ∧ Ext0 h h') ?_ (k := ln)
      ⟨0, [], [], 0, _, rfl, by omega, rfl, rfl, q0, fun j r => by rcases r with rfl | rfl <;> omega, X2⟩
    rintro k e h' ⟨i, st, es, dep, S, rfl, hi, rfl, hp, q, nS, x'⟩
    obtain ⟨p1, p2, _⟩ := pst_st hp
    have p1' : ∀ k ∈ st, k < i := p1
    have p2' : st.length ≤ i := p2
    refine K_reg (Wops_run rfl rfl (K_fin [(0, _), (4, _), (14, _), (15, _), (16, _)] rfl (?_)))
    refine K_scond rfl (fun hc => ?_) (fun hc => ?_)
    · have hlt : i < ln := by have := of_decide_eq_true hc; omega
      refine K_sskip (K_sblock ?_)
      refine K_reg (Wops_run rfl rfl (Wops_run rfl rfl (K_fin [(0, _), (4, _), (5, _), (14, _), (15, _)] rfl (?_))))
      refine K_reg (Wops_run rfl rfl (Wops_run rfl rfl (Wops_call rfl (C54 q (I.ext x') (fun j r e => by have := I.lt j r; have := nS j e; omega) (by omega) (fun k hk => by have := p1' k hk; omega) (by omega)) ?_)))
      rintro _ h3 ⟨rfl, S3, q3, t3⟩
      have hpn : pst ops (i + 1) = if (oneP ops i (st, es, dep)).1 = true then some (oneP ops i (st, es, dep)).2 else none := by
        conv => lhs; unfold pst
        rw [hp]
      cases hb : (oneP ops i (st, es, dep)).1 with
      | false =>
        rw [hb, if_neg (by simp)] at hpn
        refine Wops_run rfl rfl (K_fin [(0, _), (4, _), (14, _), (15, _), (21, _)] rfl (?_))
        refine K_cond rfl (fun _ => ?_) (fun hc => by cases hc)
        refine K_reg (Wops_run rfl rfl (Wops_run rfl rfl (K_fin [(2, _), (3, _)] rfl (?_))))
        refine K_ret (Told.mk _ rfl ⟨t3.ext0 x' nS, .inl ⟨?_, rfl⟩⟩)
        unfold walkP; rw [pst_none hpn _ (by omega)]
      | true =>
        rw [hb, if_pos rfl] at hpn
        refine Wops_run rfl rfl (K_fin [(0, _), (4, _), (14, _), (15, _), (21, _)] rfl (?_))
        refine K_cond rfl (fun hc => by cases hc) (fun _ => ?_)
        refine K_skip ?_
        refine K_last (Wops_run rfl rfl (Wops_run rfl rfl (K_finL [(0, _), (4, _), (14, _), (15, _)] rfl (?_))))
        exact ⟨ln - (i + 1), by omega, i + 1, _, _, _, S3, by rw [w64s (by omega)], by omega, rfl, hpn, q3, t3.new x' nS, t3.ext0 x' nS⟩
    · have hin : i = ln := by have := of_decide_eq_false hc; omega
      subst hin
      refine K_sexit (bx_same ⟨?_, st, es, dep, S, by rw [hln]; exact hp, q, x'⟩)
      have : decide ((i : Int) < (i : Int)) = false := by simp
      show [_, _, _, _, (16, Value.bool (decide ((i : Int) < (i : Int))))] = _
      rw [this]
  rintro e h3 ⟨rfl, st, es, dep, S, hp, q, x3⟩
  have I3 := I.ext x3
  obtain ⟨sa, sc, g, o, gm, d1, d2, d3, hS⟩ := id q
  have hW : walkP ops = if ops.length = 0 ∨ st ≠ [] ∨ ops.getD (ops.length - 1) 0 ≠ 11 then none else some (es, dep, decide (ops.count 11 = es.length + 1)) := by unfold walkP; rw [hp]
  by_cases h0 : ln = 0
  · refine K_ss (K_reg (Wops_run rfl rfl (Wops_run rfl rfl (Wops_eq (v := true) rfl rfl (by rw [h0]; rfl) (Wops_run rfl rfl ?_)))))
    repeat (first | refine Wops_skip rfl ?_ | refine Wops_run rfl rfl ?_)
    refine K_fin [(0, _), (4, _), (43, .bool true)] rfl (?_)
    refine K_scond rfl (fun _ => ?_) (fun hc => by cases hc)
    refine K_ss (K_reg (Wops_run rfl rfl (Wops_run rfl rfl (K_fin [(2, _), (3, _)] rfl (?_)))))
    exact K_sret (Told.mk _ rfl ⟨x3, .inl ⟨by rw [hW, if_pos (.inl (by omega))], rfl⟩⟩)
  refine K_ss (K_reg (Wops_run rfl rfl (Wops_run rfl rfl (Wops_eq (v := false) rfl rfl (by simpa using h0) (Wops_run rfl rfl (Wops_go rfl (Wops_run rfl rfl (Wops_go rfl (Wops_run rfl rfl (Wops_go rfl (Wops_run rfl rfl (Wops_go rfl (Wops_ld rfl g (by rfl) (Wops_go rfl (Wops_run rfl rfl (Wops_go rfl ?_))))))))))))))))
  by_cases hst : st = []
  rotate_left
  · have hl : 0 < st.length := by cases st with | nil => exact absurd rfl hst | cons a b => simp
    refine Wops_as (w := .bool true) rfl rfl (by rw [decide_eq_true (by omega)]) (Wops_run rfl rfl (Wops_run rfl rfl ?_))
    repeat (first | refine Wops_skip rfl ?_ | refine Wops_run rfl rfl ?_)
    refine K_fin [(0, _), (4, _), (43, .bool true)] rfl (?_)
    refine K_scond rfl (fun _ => ?_) (fun hc => by cases hc)
    refine K_ss (K_reg (Wops_run rfl rfl (Wops_run rfl rfl (K_fin [(2, _), (3, _)] rfl (?_)))))
    exact K_sret (Told.mk _ rfl ⟨x3, .inl ⟨by rw [hW, if_pos (.inr (.inl hst))], rfl⟩⟩)
  subst hst
  refine Wops_as (w := .bool false) rfl rfl rfl (Wops_run rfl rfl (Wops_run rfl rfl ?_))
  refine Wops_go rfl (Wops_run rfl rfl (Wops_go rfl (Wops_run rfl rfl (Wops_go rfl (Wops_run rfl rfl (Wops_go rfl (Wops_as (w := .int .i64 ((ln - 1 : Nat) : Int)) rfl rfl (by rw [w64 (by omega)]; congr 1; omega) (Wops_go rfl ?_))))))))
  refine Wops_iaS rfl rfl I3.sl ⟨by omega, by omega⟩ fun id' off vs ez ro _ v1 v2 v3 => ?_
  refine Wops_go rfl (Wops_run rfl rfl (Wops_go rfl (Wops_ld rfl v1 (I3.at (k := ln - 1) (by omega) v3) (Wops_go rfl ?_))))
  by_cases h11 : ops.getD (ln - 1) 0 = 11
  rotate_left
  · refine Wops_neq (v := true) rfl rfl (by simpa using h11) (Wops_run rfl rfl (K_fin [(0, _), (4, _), (43, .bool true)] rfl (?_)))
    refine K_scond rfl (fun _ => ?_) (fun hc => by cases hc)
    refine K_ss (K_reg (Wops_run rfl rfl (Wops_run rfl rfl (K_fin [(2, _), (3, _)] rfl (?_)))))
    exact K_sret (Told.mk _ rfl ⟨x3, .inl ⟨by rw [hW, if_pos (.inr (.inr (by rw [hln]; exact h11)))], rfl⟩⟩)
  have hW2 : walkP ops = some (es, dep, decide (ops.count 11 = es.length + 1)) := by rw [hW, if_neg (by rw [hln]; simp [h0, h11]; exact h11)]
  refine Wops_neq (v := false) rfl rfl (by rw [h11]; rfl) (Wops_run rfl rfl (K_fin [(0, _), (4, _), (43, .bool false)] rfl (?_)))
  refine K_scond rfl (fun hc => by cases hc) (fun _ => ?_)
  refine K_sskip (K_reg (Wops_run rfl rfl (K_fin [(0, _), (4, _), (6, _)] rfl (?_))))
  refine K_ss (K_reg (Wops_run rfl rfl (Wops_run rfl rfl (Wops_run rfl rfl (K_fin [(4, _), (6, _), (44, _), (45, _), (46, _)] rfl (?_))))))
  refine K_sblock ?_
  refine K_loop (fun k e h' => ∃ i : Nat, e = [(4, ptr w), (6, .int .i64 ((ops.take i).count 11 : Nat)), (44, .slice la ln lc), (45, .int .i64 ln), (46, .int .i64 i)] ∧ i ≤ ln ∧ k = ln - i ∧ Ext0 h3 h') ?_ (k := ln) ⟨0, rfl, by omega, rfl, Ext.refl _ _⟩
  rintro k e h' ⟨i, rfl, hi, rfl, x'⟩
  have I' := I3.ext x'
  have hcnt : (ops.take i).count 11 ≤ i := Nat.le_trans (List.count_le_length) (by simp; omega)
  refine K_reg (Wops_run rfl rfl (K_fin [(4, _), (6, _), (44, _), (45, _), (46, _), (47, _)] rfl (?_)))
  refine K_scond rfl (fun hc => ?_) (fun hc => ?_)
  · have hlt : i < ln := by have := of_decide_eq_true hc; omega
    have htc := take_count (ops := ops) (i := i) (by omega)
    refine K_sskip (K_sblock ?_)
    refine K_reg (Wops_iaS rfl rfl I'.sl ⟨by omega, by omega⟩ fun id'' off vs ez ro _ v1 v2 v3 => ?_)
    have hwin : ∀ j, j < 6 → ((vs.drop (off + (i : Int).toNat * 6)).take 6)[j]? = l[i * 6 + j]? := fun j hj => by
      rw [List.getElem?_take_of_lt hj, List.getElem?_drop, Int.toNat_natCast, Nat.add_assoc, v3 _ (by omega)]
    refine Wops_ldA (l := (vs.drop (off + (i : Int).toNat * 6)).take 6) rfl v1 (by rw [Int.toNat_natCast]; omega) rfl ?_
    have hlen6 : ((vs.drop (off + (i : Int).toNat * 6)).take 6).length = 6 := by rw [Int.toNat_natCast]; simp; omega
    have hcell : ((vs.drop (off + (i : Int).toNat * 6)).take 6).all isCell = true := by
      rw [List.all_eq_true]
      intro x hx
      obtain ⟨j, hj, rfl⟩ := List.getElem_of_mem hx
      have h1 := hwin j (by omega)
      rw [List.getElem?_eq_getElem hj] at h1
      exact List.all_eq_true.1 I'.cell _ (List.mem_of_getElem? h1.symm)
    have h0op : ((vs.drop (off + (i : Int).toNat * 6)).take 6)[0]? = some (.int .i64 (ops.getD i 0)) := by
      rw [hwin 0 (by omega), I'.op i (by omega), List.getD_eq_getElem?_getD, List.getElem?_eq_getElem (show i < ops.length by omega)]; rfl
    generalize (vs.drop (off + (i : Int).toNat * 6)).take 6 = row at hlen6 hcell h0op
    refine Wops_new fun h4 n4 x4 g4 => Wops_st (l := row) rfl rfl rfl hlen6 g4 (by simp) hcell fun h5 n5 x5 g5 => ?_
    refine K_fin [(4, _), (6, _), (8, _), (44, _), (45, _), (46, _)] rfl (?_)
    have X5 : Ext0 h' h5 := x4.then x5 fun j r => .inr (by omega)
    refine K_reg (Wops_run rfl rfl (Wops_ld (v := .int .i64 (ops.getD i 0)) rfl g5 (by rw [putL_get _ _ _ _ (by simp [hlen6]), if_pos ⟨by omega, by rw [hlen6]; omega⟩]; exact h0op) ?_))
    by_cases ho : ops.getD i 0 = 11
    · rw [if_pos ho] at htc
      refine Wops_eq (v := true) rfl rfl (by rw [ho]; rfl) (K_fin [(4, _), (6, _), (44, _), (45, _), (46, _), (52, _)] rfl (?_))
      refine K_cond rfl (fun _ => ?_) (fun hc => by cases hc)
      refine K_last (Wops_run rfl rfl (Wops_run rfl rfl (Wops_run rfl rfl (K_finL [(4, _), (6, _), (44, _), (45, _), (46, _)] rfl (?_)))))
      refine K_last (Wops_run rfl rfl (Wops_run rfl rfl (K_finL [(4, _), (6, _), (44, _), (45, _), (46, _)] rfl (?_))))
      exact ⟨ln - (i + 1), by omega, i + 1, by rw [w64s (by omega), w64s (by omega), htc], by omega, rfl, x'.trans X5⟩
    · rw [if_neg ho] at htc
      refine Wops_eq (v := false) rfl rfl (by simpa using ho) (K_fin [(4, _), (6, _), (44, _), (45, _), (46, _), (52, _)] rfl (?_))
      refine K_cond rfl (fun hc => by cases hc) (fun _ => ?_)
      refine K_skip ?_
      refine K_last (Wops_run rfl rfl (Wops_run rfl rfl (K_finL [(4, _), (6, _), (44, _), (45, _), (46, _)] rfl (?_))))
      exact ⟨ln - (i + 1), by omega, i + 1, by rw [w64s (by omega), htc]; rfl, by omega, rfl, x'.trans X5⟩
  · have hin : i = ln := by have := of_decide_eq_false hc; omega
    subst hin
    have hall : ops.take i = ops := List.take_of_length_le (by omega)
    rw [hall] at hcnt ⊢
    refine K_sexit (bx_same ?_)
    have q' : Wk h' w h.next la i lc [] es dep S := ⟨sa, sc, x'.some0 g, o.ext x', gm.ext x', d1, d2, d3, hS⟩
    have hes : es.length ≤ 1000000 := by have h1 : es.length ≤ ops.length := (pst_st hp).2.2; omega
    refine K_reg (Wops_run rfl rfl (Wops_run rfl rfl (Wops_run rfl rfl (Wops_run rfl rfl (Wops_run rfl rfl (Wops_ld rfl (x'.some0 g) (by rfl) ?_))))))
    refine Wops_lenM rfl (gm.ext x') (Wops_as (w := .int .i64 ((es.length + 1 : Nat) : Int)) rfl rfl (by rw [w64s (by omega)]) ?_)
    refine Wops_eq (v := decide (ops.count 11 = es.length + 1)) rfl rfl ?_ (Wops_run rfl rfl (Wops_run rfl rfl (K_fin [(2, _), (3, _)] rfl (?_))))
    · by_cases he : ops.count 11 = es.length + 1
      · rw [decide_eq_true he, he]; simp
      · rw [decide_eq_false he]; simp; omega
    exact K_ret (Told.mk _ rfl ⟨x3.trans x', .inr ⟨es, dep, _, w, h.next, S, hW2, rfl, q'⟩⟩)

/-- Blocks -/
theorem C48 {h : Heap} {la : Option Addr} {ln lc : Nat} {l : List Value} {ops : List Int} (I : Ins h la ln lc l ops) :
    Fn Try.prog 48 [.slice la ln lc] h fun v h' => Ext0 h h' ∧
      (((∀ es dep, walkP ops ≠ some (es, dep, true)) ∧ v = .tuple ⟨[.map none, .bool false]⟩) ∨
       ∃ es dep m, walkP ops = some (es, dep, true) ∧ v = .tuple ⟨[.map (some m), .bool true]⟩ ∧ At h' m (.map (mapC es))) := by
  refine fnK F48.fok rfl ?_
  refine K_reg (Wops_run rfl rfl (Wops_run rfl rfl (K_fin [(0, _)] rfl (?_))))
  refine K_reg (Wops_run rfl rfl (Wops_call rfl (C53 I) ?_))
  rintro _ h1 ⟨x1, hv⟩
  rcases hv with ⟨e, rfl⟩ | ⟨es, dep, b, w, m, S, e, rfl, q⟩
  · refine Wops_run rfl rfl (Wops_run rfl rfl (Wops_run rfl rfl (Wops_run rfl rfl (Wops_run rfl rfl (K_fin [(4, _), (5, _)] rfl (?_))))))
    refine K_ss (K_reg (Wops_run rfl rfl (Wops_run rfl rfl (K_fin [(4, _), (12, _)] rfl (?_)))))
    refine K_scond rfl (fun _ => ?_) (fun hc => by cases hc)
    refine K_ss (K_reg (Wops_run rfl rfl (Wops_run rfl rfl (K_fin [(2, _), (3, _)] rfl (?_)))))
    exact K_sret (Told.mk _ rfl ⟨x1, .inl ⟨fun es dep => by rw [e]; simp, rfl⟩⟩)
  · obtain ⟨sa, sc, g, o, gm, d1, d2, d3, hS⟩ := id q
    refine Wops_run rfl rfl (Wops_run rfl rfl (Wops_run rfl rfl (Wops_run rfl rfl (Wops_run rfl rfl (K_fin [(4, _), (5, _)] rfl (?_))))))
    cases b with
    | false =>
      refine K_ss (K_reg (Wops_run rfl rfl (Wops_run rfl rfl (K_fin [(4, _), (12, _)] rfl (?_)))))
      refine K_scond rfl (fun _ => ?_) (fun hc => by cases hc)
      refine K_ss (K_reg (Wops_run rfl rfl (Wops_run rfl rfl (K_fin [(2, _), (3, _)] rfl (?_)))))
      exact K_sret (Told.mk _ rfl ⟨x1, .inl ⟨fun es dep => by rw [e]; simp, rfl⟩⟩)
    | true =>
      refine K_ss (K_reg (Wops_run rfl rfl (Wops_run rfl rfl (K_fin [(4, _), (12, _)] rfl (?_)))))
      refine K_scond rfl (fun hc => by cases hc) (fun _ => ?_)
      refine K_sskip (K_reg (Wops_run rfl rfl (Wops_run rfl rfl (Wops_run rfl rfl (Wops_ld rfl g (by rfl) ?_)))))
      refine Wops_run rfl rfl (Wops_run rfl rfl (K_fin [(2, _), (3, _)] rfl (?_)))
      exact K_ret (Told.mk _ rfl ⟨x1, .inr ⟨es, dep, m, e, rfl, gm⟩⟩)


end
section
/- The plain law of blocks: a walker and the document's way tell the same. -/
set_option linter.unusedVariables false
set_option linter.unusedSimpArgs false

/-- The document's step: it goes on, or it ends. -/
def refOne (ops : List Int) (i : Nat) (st : List Nat) (es : Bl) : (List Nat × Bl) ⊕ (Option Bl) :=
  if ops.getD i 0 = 2 ∨ ops.getD i 0 = 3 ∨ ops.getD i 0 = 4 then .inl (st ++ [i], putM i (-1, -1) es)
  else if ops.getD i 0 = 5 then match st.getLast? with
    | none => .inr none
    | some k => if ops.getD k 0 ≠ 4 ∨ ((getM k es).getD (0, 0)).1 ≥ 0 then .inr none else .inl (st, putM k ((i : Int), ((getM k es).getD (0, 0)).2) es)
  else if ops.getD i 0 = 11 then match st.getLast? with
    | none => if i + 1 = ops.length then .inr (some es) else .inr none
    | some k => .inl (st.dropLast, putM k (((getM k es).getD (0, 0)).1, (i : Int)) es)
  else .inl (st, es)
def rfS (ops : List Int) : Nat → (List Nat × Bl) ⊕ (Option Bl)
  | 0 => .inl ([], [])
  | i + 1 => match rfS ops i with
    | .inr r => .inr r
    | .inl s => refOne ops i s.1 s.2
def refB (ops : List Int) : Option Bl := match rfS ops ops.length with
  | .inl _ => none
  | .inr r => r
/-- How deep: the most, and now. -/
def dst (ops : List Int) : Nat → Int × Int
  | 0 => (0, 0)
  | i + 1 =>
    let now := (dst ops i).2 + (if 2 ≤ ops.getD i 0 ∧ ops.getD i 0 ≤ 4 then 1 else 0) - (if ops.getD i 0 = 11 then 1 else 0)
    (max (dst ops i).1 now, now)

def fx (st : List Nat) (x : Nat × (Int × Int)) : Nat × (Int × Int) := (x.1, (x.2.1, if x.1 ∈ st then -1 else x.2.2))
abbrev keys (es : Bl) : List Nat := es.map (·.1)
theorem getM_cons {k k' : Nat} {v : Int × Int} {r : Bl} : getM k ((k', v) :: r) = if k = k' then some v else getM k r := rfl
theorem putM_cons {k k' : Nat} {v v' : Int × Int} {r : Bl} : putM k v ((k', v') :: r) = if k = k' then (k, v) :: r else (k', v') :: putM k v r := rfl
theorem getM_map {st : List Nat} {k : Nat} : ∀ {es : Bl}, getM k (es.map (fx st)) = (getM k es).map fun b => (b.1, if k ∈ st then -1 else b.2)
  | [] => rfl
  | (k', v) :: r => by
    show getM k ((k', (v.1, if k' ∈ st then -1 else v.2)) :: r.map (fx st)) = _
    rw [getM_cons, getM_cons]
    by_cases h : k = k'
    · subst h; rw [if_pos rfl, if_pos rfl]; rfl
    · rw [if_neg h, if_neg h]; exact getM_map
theorem getM_mem {k : Nat} : ∀ {es : Bl}, k ∈ keys es → ∃ b, getM k es = some b ∧ (k, b) ∈ es
  | [], h => by simp at h
  | (k', v) :: r, h => by
    rw [getM_cons]
    by_cases hk : k = k'
    · subst hk; exact ⟨v, if_pos rfl, by simp⟩
    · rw [if_neg hk]
      obtain ⟨b, h1, h2⟩ := getM_mem (k := k) (es := r) (by simpa [hk] using h)
      exact ⟨b, h1, by simp [h2]⟩
theorem putM_keys {k : Nat} {v : Int × Int} : ∀ {es : Bl}, keys (putM k v es) = if k ∈ keys es then keys es else keys es ++ [k]
  | [] => rfl
  | (k', v') :: r => by
    rw [putM_cons]
    by_cases h : k = k'
    · subst h; simp
    · rw [if_neg h]
      show k' :: keys (putM k v r) = _
      rw [putM_keys]
      by_cases hr : k ∈ keys r
      · rw [if_pos hr, if_pos (by simp only [keys] at hr ⊢; simp [hr])]; rfl
      · rw [if_neg hr, if_neg (by simp only [keys] at hr ⊢; simp [h, hr])]; rfl
theorem putM_mem {k : Nat} {v : Int × Int} : ∀ {es : Bl}, ∀ x ∈ putM k v es, x = (k, v) ∨ x ∈ es
  | [], x, hx => by simp [putM] at hx; exact .inl hx
  | (k', v') :: r, x, hx => by
    rw [putM_cons] at hx
    by_cases h : k = k'
    · rw [if_pos h] at hx
      rcases List.mem_cons.1 hx with hx | hx
      · exact .inl hx
      · exact .inr (by simp [hx])
    · rw [if_neg h] at hx
      rcases List.mem_cons.1 hx with hx | hx
      · exact .inr (by simp [hx])
      · exact (putM_mem x hx).imp id fun q => by simp [q]
theorem fx_map_eq {st st' : List Nat} {k : Nat} (hst : ∀ j, j ≠ k → (j ∈ st ↔ j ∈ st')) {r : Bl} (hk : k ∉ keys r) : r.map (fx st) = r.map (fx st') := by
  refine List.map_congr_left fun x hx => ?_
  have : x.1 ≠ k := fun e => hk (by rw [← e]; exact List.mem_map_of_mem hx)
  unfold fx
  simp only [hst x.1 this]
theorem putM_map {st st' : List Nat} {k : Nat} {v v' : Int × Int} (hst : ∀ j, j ≠ k → (j ∈ st ↔ j ∈ st')) (hv : fx st' (k, v) = (k, v')) : ∀ {es : Bl}, (keys es).Nodup → putM k v' (es.map (fx st)) = (putM k v es).map (fx st')
  | [], _ => by simp [putM, hv]
  | (k', w) :: r, hn => by
    have hn1 : k' ∉ keys r := (List.nodup_cons.1 hn).1
    have hn2 : (keys r).Nodup := (List.nodup_cons.1 hn).2
    show putM k v' ((k', (w.1, if k' ∈ st then -1 else w.2)) :: r.map (fx st)) = _
    rw [putM_cons, putM_cons]
    by_cases h : k = k'
    · subst h
      rw [if_pos rfl, if_pos rfl, List.map_cons, hv, fx_map_eq hst hn1]
    · rw [if_neg h, if_neg h, List.map_cons, putM_map hst hv hn2]
      congr 1
      unfold fx
      simp only [hst k' (fun e => h e.symm)]

structure Inv (ops : List Int) (i : Nat) (st : List Nat) (es : Bl) (dep : Nat) : Prop where
  sn : st.Nodup
  sl : ∀ k ∈ st, k < i
  kn : (keys es).Nodup
  sk : ∀ k ∈ st, k ∈ keys es
  kl : ∀ k ∈ keys es, k < i
  el : ∀ x ∈ es, -1 ≤ x.2.1
  ct : (ops.take i).count 11 + st.length = es.length
  dp : dst ops i = ((dep : Int), (st.length : Int))
  dl : st.length ≤ dep

def SimP (ops : List Int) (i : Nat) : (List Nat × Bl) ⊕ (Option Bl) → Prop
  | .inl s => ∃ es dep, pst ops i = some (s.1, es, dep) ∧ s.2 = es.map (fx s.1) ∧ Inv ops i s.1 es dep
  | .inr none => pst ops i = none
  | .inr (some es) => i = ops.length ∧ ∃ dep : Nat, pst ops i = some ([], es, dep) ∧ ops.getD (ops.length - 1) 0 = 11 ∧ ops.length ≠ 0 ∧ ops.count 11 = es.length + 1 ∧ dst ops i = ((dep : Int), -1)

theorem sim_step {ops : List Int} {i : Nat} {st : List Nat} {es : Bl} {dep : Nat} (hi : i < ops.length) (hp : pst ops i = some (st, es, dep)) (v : Inv ops i st es dep) : SimP ops (i + 1) (refOne ops i st (es.map (fx st))) := by
  have hpn : pst ops (i + 1) = if (oneP ops i (st, es, dep)).1 = true then some (oneP ops i (st, es, dep)).2 else none := by
    conv => lhs; unfold pst
    rw [hp]
  have hct := take_count hi
  have hds : dst ops (i + 1) = (max (dst ops i).1 ((dst ops i).2 + (if 2 ≤ ops.getD i 0 ∧ ops.getD i 0 ≤ 4 then 1 else 0) - (if ops.getD i 0 = 11 then 1 else 0)), (dst ops i).2 + (if 2 ≤ ops.getD i 0 ∧ ops.getD i 0 ≤ 4 then 1 else 0) - (if ops.getD i 0 = 11 then 1 else 0)) := rfl
  rw [v.dp] at hds
  have hvct := v.ct
  have hvdl := v.dl
  unfold refOne
  generalize hop : ops.getD i 0 = op at *
  by_cases h234 : op = 2 ∨ op = 3 ∨ op = 4
  · rw [if_pos h234]
    have hP : oneP ops i (st, es, dep) = (true, st ++ [i], putM i (-1, 0) es, max dep (st.length + 1)) := by unfold oneP; rw [hop, if_pos h234]
    rw [hP, if_pos rfl] at hpn
    have hik : i ∉ keys es := fun q => by have := v.kl i q; omega
    have his : i ∉ st := fun q => by have := v.sl i q; omega
    have hkeys : keys (putM i (-1, 0) es) = keys es ++ [i] := by rw [putM_keys, if_neg hik]
    have hlen : (putM i (-1, 0) es).length = es.length + 1 := by have := congrArg List.length hkeys; simpa [keys] using this
    rw [if_neg (show ¬ op = 11 by omega)] at hct
    rw [if_pos (show 2 ≤ op ∧ op ≤ 4 by omega), if_neg (show ¬ op = 11 by omega)] at hds
    refine ⟨putM i (-1, 0) es, max dep (st.length + 1), hpn, ?_, ⟨?_, ?_, ?_, ?_, ?_, ?_, ?_, ?_, ?_⟩⟩
    · exact putM_map (fun j hj => by simp [hj]) (by simp [fx]) v.kn
    · rw [List.nodup_append]; exact ⟨v.sn, by simp, fun a ha b hb e => by simp at hb; subst hb; subst e; exact his ha⟩
    · intro k hk
      rcases List.mem_append.1 hk with hk | hk
      · have := v.sl k hk; omega
      · simp at hk; omega
    · rw [hkeys, List.nodup_append]; exact ⟨v.kn, by simp, fun a ha b hb e => by simp at hb; subst hb; subst e; exact hik ha⟩
    · intro k hk
      rw [hkeys]
      rcases List.mem_append.1 hk with hk | hk
      · exact List.mem_append_left _ (v.sk k hk)
      · exact List.mem_append_right _ hk
    · intro k hk
      rw [hkeys] at hk
      rcases List.mem_append.1 hk with hk | hk
      · have := v.kl k hk; omega
      · simp at hk; omega
    · intro x hx
      rcases putM_mem x hx with rfl | hx
      · exact Int.le_refl _
      · exact v.el x hx
    · rw [hct, hlen]; simp; omega
    · rw [hds]; simp only [List.length_append, List.length_cons, List.length_nil]; congr 1 <;> omega
    · simp; omega
  rw [if_neg h234]
  have hn234 : ¬ (2 ≤ op ∧ op ≤ 4) := by omega
  rw [if_neg hn234] at hds
  by_cases h5 : op = 5
  · rw [if_pos h5]
    have hP : oneP ops i (st, es, dep) = ((halfP ops i st es).1, st, (halfP ops i st es).2, dep) := by unfold oneP; rw [hop, if_neg h234, if_pos h5]
    rw [hP] at hpn
    rw [if_neg (show ¬ op = 11 by omega)] at hct hds
    rcases List.eq_nil_or_concat st with rfl | ⟨s0, k, rfl⟩
    · have hh : halfP ops i [] es = (false, es) := rfl
      rw [hh, if_neg (by simp)] at hpn
      exact hpn
    rw [List.concat_eq_append] at *
    have hlast : (s0 ++ [k]).getLast? = some k := by simp
    have hks : k ∈ s0 ++ [k] := by simp
    obtain ⟨b, hb, hbm⟩ := getM_mem (v.sk k hks)
    have hbl := v.el _ hbm
    rw [hlast]
    simp only
    rw [getM_map, hb]
    simp only [Option.map_some, Option.getD_some, if_pos hks]
    have hH : halfP ops i (s0 ++ [k]) es = if ops.getD k 0 ≠ 4 ∨ b.1 ≠ -1 then (false, es) else (true, putM k ((i : Int), 0) es) := by unfold halfP; rw [hlast]; simp only; rw [hb]; rfl
    by_cases hc : ops.getD k 0 ≠ 4 ∨ b.1 ≥ 0
    · rw [if_pos hc]
      have hH2 : halfP ops i (s0 ++ [k]) es = (false, es) := by
        rw [hH]
        refine if_pos ?_
        rcases hc with hc | hc
        · exact .inl hc
        · exact .inr (by omega)
      rw [hH2, if_neg (by simp)] at hpn
      exact hpn
    · rw [if_neg hc]
      have hc2 : ¬ (ops.getD k 0 ≠ 4 ∨ b.1 ≠ -1) := fun q => hc (q.imp id fun q => by simp only at hbl; omega)
      have hH2 : halfP ops i (s0 ++ [k]) es = (true, putM k ((i : Int), 0) es) := by rw [hH]; exact if_neg hc2
      rw [hH2, if_pos rfl] at hpn
      have hkeys : keys (putM k ((i : Int), 0) es) = keys es := by rw [putM_keys, if_pos (v.sk k hks)]
      have hlen : (putM k ((i : Int), 0) es).length = es.length := by have := congrArg List.length hkeys; simpa [keys] using this
      refine ⟨putM k ((i : Int), 0) es, dep, hpn, ?_, ⟨v.sn, fun j hj => by have := v.sl j hj; omega, by rw [hkeys]; exact v.kn, fun j hj => by rw [hkeys]; exact v.sk j hj, fun j hj => by rw [hkeys] at hj; have := v.kl j hj; omega, ?_, ?_, ?_, v.dl⟩⟩
      · exact putM_map (fun j _ => Iff.rfl) (by simp [fx]) v.kn
      · intro x hx
        rcases putM_mem x hx with rfl | hx
        · show (-1 : Int) ≤ i; omega
        · exact v.el x hx
      · rw [hct, hlen]; omega
      · rw [hds]; congr 1 <;> omega
  rw [if_neg h5]
  by_cases h11 : op = 11
  · rw [if_pos h11]
    have hP : oneP ops i (st, es, dep) = ((closeP ops i st es).1, (closeP ops i st es).2.1, (closeP ops i st es).2.2, dep) := by unfold oneP; rw [hop, if_neg h234, if_neg h5, if_pos h11]
    rw [hP] at hpn
    rw [if_pos h11] at hct hds
    rcases List.eq_nil_or_concat st with rfl | ⟨s0, k, rfl⟩
    · have hh : closeP ops i [] es = (decide (i + 1 = ops.length), [], es) := rfl
      rw [hh] at hpn
      show SimP ops (i + 1) (if i + 1 = ops.length then .inr (some (es.map (fx []))) else .inr none)
      by_cases hl : i + 1 = ops.length
      · rw [if_pos hl]
        simp only [decide_eq_true hl, if_true] at hpn
        have hfx : es.map (fx []) = es := by
          conv => rhs; rw [← List.map_id es]
          exact List.map_congr_left fun x _ => by simp [fx]
        rw [hfx]
        have hall : ops.take (i + 1) = ops := List.take_of_length_le (by omega)
        refine ⟨hl, dep, hpn, by rw [show ops.length - 1 = i by omega, hop]; exact h11, by omega, ?_, ?_⟩
        · rw [hall] at hct; simp at hvct; omega
        · rw [hds]; congr 1 <;> simp <;> omega
      · rw [if_neg hl]
        simp only [decide_eq_false hl, Bool.false_eq_true, if_false] at hpn
        exact hpn
    rw [List.concat_eq_append] at *
    have hlast : (s0 ++ [k]).getLast? = some k := by simp
    have hks : k ∈ s0 ++ [k] := by simp
    obtain ⟨b, hb, hbm⟩ := getM_mem (v.sk k hks)
    have hbl := v.el _ hbm
    have hns : k ∉ s0 := fun q => (List.nodup_append.1 v.sn).2.2 k q k (by simp) rfl
    rw [hlast]
    simp only
    rw [getM_map, hb]
    simp only [Option.map_some, Option.getD_some]
    have hC : closeP ops i (s0 ++ [k]) es = (true, s0, putM k (b.1, (i : Int)) es) := by unfold closeP; rw [hlast]; simp only; rw [hb, List.dropLast_concat]; rfl
    rw [hC, if_pos rfl] at hpn
    rw [List.dropLast_concat]
    have hkeys : keys (putM k (b.1, (i : Int)) es) = keys es := by rw [putM_keys, if_pos (v.sk k hks)]
    have hlen : (putM k (b.1, (i : Int)) es).length = es.length := by have := congrArg List.length hkeys; simpa [keys] using this
    refine ⟨putM k (b.1, (i : Int)) es, dep, hpn, ?_, ⟨(List.nodup_append.1 v.sn).1, fun j hj => by have := v.sl j (by simp [hj]); omega, by rw [hkeys]; exact v.kn, fun j hj => by rw [hkeys]; exact v.sk j (by simp [hj]), fun j hj => by rw [hkeys] at hj; have := v.kl j hj; omega, ?_, ?_, ?_, ?_⟩⟩
    · exact putM_map (fun j hj => by simp [hj]) (by simp [fx, hns]) v.kn
    · intro x hx
      rcases putM_mem x hx with rfl | hx
      · exact hbl
      · exact v.el x hx
    · show _ + s0.length = _
      rw [hct, hlen]; simp at hvct; omega
    · show _ = ((dep : Int), (s0.length : Int))
      rw [hds]; simp at hvdl ⊢; omega
    · show s0.length ≤ dep
      simp at hvdl; omega
  rw [if_neg h11]
  have hP : oneP ops i (st, es, dep) = (true, st, es, dep) := by unfold oneP; rw [hop, if_neg h234, if_neg h5, if_neg h11]
  rw [hP, if_pos rfl] at hpn
  rw [if_neg h11] at hct hds
  refine ⟨es, dep, hpn, rfl, ⟨v.sn, fun j hj => by have := v.sl j hj; omega, v.kn, v.sk, fun j hj => by have := v.kl j hj; omega, v.el, by rw [hct]; omega, by rw [hds]; congr 1 <;> omega, v.dl⟩⟩

theorem sim {ops : List Int} : ∀ i, i ≤ ops.length → SimP ops i (rfS ops i)
  | 0, _ => ⟨[], 0, rfl, rfl, ⟨List.nodup_nil, fun k hk => (by cases hk), List.nodup_nil, fun k hk => (by cases hk), fun k hk => (by cases hk), fun k hk => (by cases hk), rfl, rfl, Nat.le_refl _⟩⟩
  | i + 1, hi => by
    have ih := sim (ops := ops) i (by omega)
    unfold rfS
    cases hr : rfS ops i with
    | inl s =>
      rw [hr] at ih
      obtain ⟨es, dep, hp, he, v⟩ := ih
      obtain ⟨st, es'⟩ := s
      simp only at he hp v ⊢
      subst he
      exact sim_step (by omega) hp v
    | inr r =>
      rw [hr] at ih
      cases r with
      | none => exact pst_none ih _ (by omega)
      | some es => have := ih.1; omega

theorem ctrl_none {ops : List Int} (h : refB ops = none) : ∀ es dep, walkP ops ≠ some (es, dep, true) := by
  intro es dep hw
  have hs := sim (ops := ops) ops.length (Nat.le_refl _)
  unfold refB at h
  unfold walkP at hw
  cases hr : rfS ops ops.length with
  | inl s =>
    rw [hr] at hs
    obtain ⟨es', dep', hp, he, v⟩ := hs
    rw [hp] at hw
    simp only at hw
    split at hw
    · cases hw
    · rename_i hc
      have hst : s.1 = [] := Classical.byContradiction fun q => hc (.inr (.inl q))
      simp only [Option.some.injEq, Prod.mk.injEq, decide_eq_true_eq] at hw
      obtain ⟨rfl, rfl, h3⟩ := hw
      have := v.ct
      rw [hst, List.take_of_length_le (Nat.le_refl _)] at this
      simp at this; omega
  | inr r =>
    rw [hr] at h hs
    simp only at h
    subst h
    have hs' : pst ops ops.length = none := hs
    rw [hs'] at hw; cases hw
theorem ctrl_some {ops : List Int} {es : Bl} (h : refB ops = some es) : ∃ dep : Nat, walkP ops = some (es, dep, true) ∧ (dst ops ops.length).1 = dep := by
  have hs := sim (ops := ops) ops.length (Nat.le_refl _)
  unfold refB at h
  cases hr : rfS ops ops.length with
  | inl s => rw [hr] at h; cases h
  | inr r =>
    rw [hr] at h hs
    simp only at h
    subst h
    obtain ⟨_, dep, hp, h11, h0, hc, hd⟩ := hs
    refine ⟨dep, ?_, by rw [hd]⟩
    unfold walkP
    rw [hp]
    simp only
    rw [if_neg (fun q => q.elim h0 fun q => q.elim (fun q => q rfl) fun q => q h11), decide_eq_true hc]

end
section
/- Contracts of the document's blocks. -/
set_option linter.unusedVariables false
set_option linter.unusedSimpArgs false

theorem rfS_succ {ops : List Int} {i : Nat} {st : List Nat} {es : Bl} (h : rfS ops i = .inl (st, es)) : rfS ops (i + 1) = refOne ops i st es := by
  conv => lhs; unfold rfS
  rw [h]
theorem rfS_fin {ops : List Int} {i : Nat} {r : Option Bl} (h : rfS ops i = .inr r) : ∀ j, i ≤ j → rfS ops j = .inr r := by
  intro j hj
  induction j with
  | zero => obtain rfl : i = 0 := by omega
            exact h
  | succ j ih =>
    by_cases hij : i = j + 1
    · subst hij; exact h
    · unfold rfS; rw [ih (by omega)]
theorem refB_fin {ops : List Int} {i : Nat} {r : Option Bl} (hi : i ≤ ops.length) (h : rfS ops i = .inr r) : refB ops = r := by
  unfold refB; rw [rfS_fin h _ hi]
theorem rfS_st {ops : List Int} : ∀ {i : Nat} {s : List Nat × Bl}, i ≤ ops.length → rfS ops i = .inl s → (∀ k ∈ s.1, k < i) ∧ s.1.length ≤ i := by
  intro i s hi h
  have := sim (ops := ops) i hi
  rw [h] at this
  obtain ⟨es, dep, hp, _, v⟩ := this
  exact ⟨(pst_st hp).1, (pst_st hp).2.1⟩

set_option maxHeartbeats 2000000 in
/-- the document's Blocks -/
theorem C26 {h : Heap} {la : Option Addr} {ln lc : Nat} {l : List Value} {ops : List Int} (I : Ins h la ln lc l ops) :
    Fn Try.prog 26 [.slice la ln lc] h fun v h' => Ext0 h h' ∧
      ((refB ops = none ∧ v = .tuple ⟨[.map none, .bool false]⟩) ∨ ∃ es m, refB ops = some es ∧ v = .tuple ⟨[.map (some m), .bool true]⟩ ∧ At h' m (.map (mapC es))) := by
  have hln := I.len
  have hbig := I.big
  refine fnK F26.fok rfl ?_
  refine K_reg (Wops_run rfl rfl (Wops_run rfl rfl (K_fin [(0, _)] rfl (?_))))
  refine K_reg (Wops_mkMap fun h1 n1 x1 g1 => Wops_run rfl rfl (K_fin [(0, _), (4, _)] rfl (?_)))
  refine K_reg (Wops_run rfl rfl (K_fin [(0, _), (4, _), (5, _)] rfl (?_)))
  refine K_ss (K_reg (Wops_run rfl rfl (K_fin [(0, _), (4, _), (5, _), (6, _)] rfl (?_))))
  refine K_sblock ?_
  refine K_loop (fun k e h' => ∃ (i : Nat) (st : List Nat) (es : Bl) (sa : Option Addr) (sc : Nat), e = [(0, .slice la ln lc), (4, .map (some h.next)), (5, .slice sa st.length sc), (6, .int .i64 i)] ∧ i ≤ ln ∧ k = ln - i ∧ rfS ops i = .inl (st, es) ∧ OwS h' 1 sa st.length sc (ns st) ∧ At h' h.next (.map (mapC es)) ∧ (∀ j, Blk sa j → h1.next ≤ j) ∧ Ext0 h h') ?_ (k := ln)
    ⟨0, [], [], none, 0, rfl, by omega, rfl, rfl, OwS.none, g1, fun j r => absurd r Blk.none, x1⟩
  rintro k e h' ⟨i, st, es, sa, sc, rfl, hi, rfl, hr, o, gm, bs, x'⟩
  obtain ⟨p1, p2⟩ := rfS_st (by omega) hr
  have p1' : ∀ k ∈ st, k < i := p1
  have p2' : st.length ≤ i := p2
  have hsucc := rfS_succ hr
  have I' := I.ext x'
  refine K_ss (K_reg (Wops_run rfl rfl (Wops_run rfl rfl (Wops_run rfl rfl (Wops_run rfl rfl (K_fin [(0, _), (4, _), (5, _), (6, _), (16, _)] rfl (?_)))))))
  refine K_scond rfl (fun hc => ?_) (fun hc => ?_)
  rotate_left
  · have hin : i = ln := by have := of_decide_eq_false hc; omega
    refine K_sexit (bx_same ?_)
    refine K_reg (Wops_run rfl rfl (Wops_run rfl rfl (K_fin [(2, _), (3, _)] rfl (?_))))
    refine K_ret (Told.mk _ rfl ⟨x', .inl ⟨?_, rfl⟩⟩)
    unfold refB; rw [show ops.length = i by omega, hr]
  have hlt : i < ln := by have := of_decide_eq_true hc; omega
  refine K_sskip ?_
  refine K_jblock (fun e h' => ∃ (st : List Nat) (es : Bl) (sa : Option Addr) (sc : Nat) (l : Env), e = [(0, .slice la ln lc), (4, .map (some h.next)), (5, .slice sa st.length sc), (6, .int .i64 i)] ++ l ∧ rfS ops (i + 1) = .inl (st, es) ∧ OwS h' 1 sa st.length sc (ns st) ∧ At h' h.next (.map (mapC es)) ∧ (∀ j, Blk sa j → h1.next ≤ j) ∧ Ext0 h h') ?_ ?_
  rotate_left
  · rintro e h2 ⟨st2, es2, sa2, sc2, l2, rfl, hr2, o2, gm2, bs2, x2⟩
    refine K_last (Wops_run rfl rfl (Wops_run rfl rfl (Wops_run rfl rfl (K_finL [(0, _), (4, _), (5, _), (6, _)] rfl (?_)))))
    exact ⟨ln - (i + 1), by omega, i + 1, st2, es2, sa2, sc2, by rw [w64s (by omega)], by omega, rfl, hr2, o2, gm2, bs2, x2⟩
  refine K_reg (Wops_run rfl rfl (Wops_run rfl rfl (Wops_iaS rfl rfl I'.sl ⟨by omega, by omega⟩ fun id off vs ez ro _ v1 v2 v3 => ?_)))
  refine Wops_run rfl rfl (Wops_ld rfl v1 (I'.at (by omega) v3) (Wops_run rfl rfl (K_fin [(0, _), (4, _), (5, _), (6, _), (7, _)] rfl (?_))))
  have hno : h1.next = h.next + 1 := n1
  have dsm : ∀ j, Blk sa j → j ≠ h.next := fun j r e => by have := bs j r; omega
  unfold refOne at hsucc
  generalize hop : ops.getD i 0 = op at *
  refine K_block ?_
  by_cases h234 : op = 2 ∨ op = 3 ∨ op = 4
  · rw [if_pos h234] at hsucc
    refine K_reg (Wops_run rfl rfl (Wops_as (w := .bool true) rfl rfl (by rw [decide_eq_true (by omega)]) (Wops_run rfl rfl (Wops_go rfl (Wops_run rfl rfl (Wops_go rfl (Wops_as (w := .bool true) rfl rfl (by rw [decide_eq_true (by omega)]) (Wops_run rfl rfl (Wops_run rfl rfl (K_fin [(0, _), (4, _), (5, _), (6, _), (7, _), (24, _)] rfl (?_)))))))))))
    refine K_cond rfl (fun _ => ?_) (fun hc => by cases hc)
    refine K_reg (Wops_run rfl rfl (Wops_run rfl rfl (Wops_bslice (l := ns [i]) rfl rfl fun h2 n2 x2 g2 => ?_)))
    refine Wops_app rfl rfl (o.ext x2) rfl (OwS.new (n := 1) (c := 1) g2 rfl).sl.first ⟨by omega, by omega⟩ rfl rfl (by decide) fun h3 a3 c3 x3 o3 b3 => ?_
    refine Wops_run rfl rfl (K_fin [(0, _), (4, _), (5, _), (6, _)] rfl (?_))
    have z' := x'.next
    have z2 := x2.next
    have b3' : ∀ j, Blk a3 j → h1.next ≤ j := fun j r => (b3 j r).elim (bs j) fun r => by have := gm.lt; omega
    have gm3 := (gm.ext x2).ext x3 (fun r => dsm _ r rfl)
    refine K_last (Wops_run rfl rfl (Wops_run rfl rfl (Wops_run rfl rfl (Wops_mput (b := (-1, -1)) rfl rfl rfl gm3 fun h4 n4 x4 g4 => ?_))))
    refine K_finL [(0, _), (4, _), (5, _), (6, _)] rfl (?_)
    have hl : (st ++ [i]).length = st.length + 1 := by simp
    refine ⟨st ++ [i], _, a3, c3, [], by rw [hl]; rfl, hsucc, ?_, g4, b3', ((x'.trans x2).then x3 fun j r => .inr (by have := bs j r; omega)).then x4 fun j r => .inr (by omega)⟩
    rw [hl, ns, List.map_append]; exact o3.ext x4 fun j r e => by have := b3' j r; omega
  rw [if_neg h234] at hsucc
  refine K_join (fun e h2 => e = [(0, .slice la ln lc), (4, .map (some h.next)), (5, .slice sa st.length sc), (6, .int .i64 (i : Int)), (7, .int .i64 op), (24, .bool false)] ∧ h' = h2) ?_ ?_
  · by_cases hge : op ≥ 2
    · refine K_last (Wops_run rfl rfl (Wops_as (w := .bool true) rfl rfl (by rw [decide_eq_true (by omega)]) (Wops_run rfl rfl (Wops_go rfl (Wops_run rfl rfl (Wops_go rfl (Wops_as (w := .bool false) rfl rfl (by rw [decide_eq_false (by omega)]) (Wops_run rfl rfl (Wops_run rfl rfl (K_finL [(0, _), (4, _), (5, _), (6, _), (7, _), (24, _)] rfl (?_)))))))))))
      exact ⟨rfl, rfl⟩
    · refine K_last (Wops_run rfl rfl (Wops_as (w := .bool false) rfl rfl (by rw [decide_eq_false (by omega)]) (Wops_run rfl rfl (Wops_skip rfl (Wops_skip rfl (Wops_run rfl rfl (Wops_run rfl rfl (K_finL [(0, _), (4, _), (5, _), (6, _), (7, _), (24, _)] rfl (?_)))))))))
      exact ⟨rfl, rfl⟩
  rintro e _ ⟨rfl, rfl⟩
  refine K_cond rfl (fun hc => by cases hc) (fun _ => ?_)
  by_cases h5 : op = 5
  · rw [if_pos h5] at hsucc
    refine K_reg (Wops_run rfl rfl (Wops_eq (v := true) rfl rfl (by rw [h5]; rfl) (Wops_run rfl rfl (K_fin [(0, _), (4, _), (5, _), (6, _), (7, _), (38, _)] rfl (?_)))))
    refine K_cond rfl (fun _ => ?_) (fun hc => by cases hc)
    rcases List.eq_nil_or_concat st with rfl | ⟨s0, k, rfl⟩
    · refine K_ss (K_reg (Wops_run rfl rfl (Wops_run rfl rfl (Wops_eq (v := true) rfl rfl rfl (K_fin [(0, _), (4, _), (5, _), (6, _), (43, _)] rfl (?_))))))
      refine K_scond rfl (fun _ => ?_) (fun hc => by cases hc)
      refine K_ss (K_reg (Wops_run rfl rfl (Wops_run rfl rfl (K_fin [(2, _), (3, _)] rfl (?_)))))
      exact K_sret (Told.mk _ rfl ⟨x', .inl ⟨refB_fin (by omega) hsucc, rfl⟩⟩)
    rw [List.concat_eq_append] at *
    have hlast : (s0 ++ [k]).getLast? = some k := by simp
    have hl : (s0 ++ [k]).length = s0.length + 1 := by simp
    have hk : k < ops.length := by have := p1' k (by simp); omega
    rw [hlast] at hsucc
    simp only at hsucc
    rw [hl] at o ⊢
    refine K_ss (K_reg (Wops_run rfl rfl (Wops_run rfl rfl (Wops_eq (v := false) rfl rfl (by simp; omega) (K_fin [(0, _), (4, _), (5, _), (6, _), (43, _)] rfl (?_))))))
    refine K_scond rfl (fun hc => by cases hc) (fun _ => ?_)
    refine K_sskip (K_reg (Wops_run rfl rfl (Wops_run rfl rfl (Wops_run rfl rfl (Wops_as (w := .int .i64 (s0.length : Int)) rfl rfl (by rw [w64 (by simp at p2'; omega)]; congr 1; omega) ?_)))))
    refine Wops_idx (u := .int .i64 (k : Int)) rfl rfl o.sl ⟨by omega, by omega⟩ (by simp [ns]) fun _ => ?_
    refine Wops_run rfl rfl (K_fin [(0, _), (4, _), (5, _), (6, _), (8, _)] rfl (?_))
    generalize hb : (getM k es).getD (0, 0) = b at hsucc
    refine K_reg (Wops_run rfl rfl (Wops_run rfl rfl (Wops_look rfl rfl gm ?_)))
    rw [hb]
    refine Wops_new fun h2 n2 x2 g2 => Wops_st (l := [.int .i64 b.1, .int .i64 b.2]) rfl rfl rfl rfl g2 (by simp) rfl fun h3 n3 x3 g3 => ?_
    have X3 : Ext0 h' h3 := x2.then x3 fun j r => .inr (by omega)
    refine K_fin [(0, _), (4, _), (5, _), (6, _), (8, _), (9, _)] rfl (?_)
    have I3 := I'.ext X3
    refine K_ss (K_reg (Wops_run rfl rfl (Wops_run rfl rfl (Wops_iaS rfl rfl I3.sl ⟨by omega, by omega⟩ fun id off vs ez ro _ v1 v2 v3 => ?_))))
    refine Wops_run rfl rfl (Wops_ld rfl v1 (I3.at hk v3) ?_)
    by_cases h4 : ops.getD k 0 = 4
    rotate_left
    · refine Wops_neq (v := true) rfl rfl (by simpa using h4) (Wops_run rfl rfl (Wops_skip rfl (Wops_skip rfl (Wops_skip rfl (Wops_run rfl rfl (K_fin [(0, _), (4, _), (5, _), (6, _), (8, _), (9, _), (63, _)] rfl (?_)))))))
      refine K_scond rfl (fun _ => ?_) (fun hc => by cases hc)
      refine K_ss (K_reg (Wops_run rfl rfl (Wops_run rfl rfl (K_fin [(2, _), (3, _)] rfl (?_)))))
      rw [if_pos (.inl h4)] at hsucc
      exact K_sret (Told.mk _ rfl ⟨x'.trans X3, .inl ⟨refB_fin (by omega) hsucc, rfl⟩⟩)
    refine Wops_neq (v := false) rfl rfl (by rw [h4]; rfl) (Wops_run rfl rfl (Wops_go rfl (Wops_run rfl rfl (Wops_go rfl (Wops_ld (v := .int .i64 b.1) rfl g3 (by rfl) (Wops_go rfl ?_))))))
    by_cases hbe : b.1 ≥ 0
    · refine Wops_as (w := .bool true) rfl rfl (by rw [decide_eq_true hbe]) (Wops_run rfl rfl (K_fin [(0, _), (4, _), (5, _), (6, _), (8, _), (9, _), (63, _)] rfl (?_)))
      refine K_scond rfl (fun _ => ?_) (fun hc => by cases hc)
      refine K_ss (K_reg (Wops_run rfl rfl (Wops_run rfl rfl (K_fin [(2, _), (3, _)] rfl (?_)))))
      rw [if_pos (.inr hbe)] at hsucc
      exact K_sret (Told.mk _ rfl ⟨x'.trans X3, .inl ⟨refB_fin (by omega) hsucc, rfl⟩⟩)
    rw [if_neg (fun q => q.elim (fun q => q h4) hbe)] at hsucc
    refine Wops_as (w := .bool false) rfl rfl (by rw [decide_eq_false hbe]) (Wops_run rfl rfl (K_fin [(0, _), (4, _), (5, _), (6, _), (8, _), (9, _), (63, _)] rfl (?_)))
    refine K_scond rfl (fun hc => by cases hc) (fun _ => ?_)
    refine K_sskip (K_reg (Wops_run rfl rfl (Wops_run rfl rfl (Wops_st (l := [.int .i64 (i : Int)]) rfl rfl rfl rfl g3 (by simp [putL_length]) rfl fun h4 n4 x4 g4 => ?_))))
    refine K_fin [(0, _), (4, _), (5, _), (6, _), (8, _), (9, _)] rfl (?_)
    refine K_last (Wops_run rfl rfl (Wops_run rfl rfl (Wops_ldA (l := [.int .i64 (i : Int), .int .i64 b.2]) rfl g4 (by simp [putL_length]) (by rfl) ?_)))
    have z' := x'.next
    have hgl := gm.lt
    refine Wops_mput (b := ((i : Int), b.2)) rfl rfl rfl ((gm.ext X3).ext x4 (by omega)) fun h5 n5 x5 g5 => ?_
    refine K_finL [(0, _), (4, _), (5, _), (6, _)] rfl (?_)
    refine ⟨s0 ++ [k], _, sa, sc, [], by rw [hl]; rfl, hsucc, ?_, g5, bs, ((x'.trans X3).then x4 fun j r => .inr (by omega)).then x5 fun j r => .inr (by omega)⟩
    rw [hl]
    exact ((o.ext X3).ext x4 (fun j r e => by have := o.lt r; omega)).ext x5 (fun j r e => dsm j r e)
  rw [if_neg h5] at hsucc
  refine K_reg (Wops_run rfl rfl (Wops_eq (v := false) rfl rfl (by simpa using h5) (Wops_run rfl rfl (K_fin [(0, _), (4, _), (5, _), (6, _), (7, _), (38, _)] rfl (?_)))))
  refine K_cond rfl (fun hc => by cases hc) (fun _ => ?_)
  by_cases h11 : op = 11
  · rw [if_pos h11] at hsucc
    refine K_reg (Wops_run rfl rfl (Wops_eq (v := true) rfl rfl (by rw [h11]; rfl) (Wops_run rfl rfl (K_fin [(0, _), (4, _), (5, _), (6, _), (69, _)] rfl (?_)))))
    refine K_cond rfl (fun _ => ?_) (fun hc => by cases hc)
    rcases List.eq_nil_or_concat st with rfl | ⟨s0, k, rfl⟩
    · refine K_ss (K_reg (Wops_run rfl rfl (Wops_run rfl rfl (Wops_eq (v := true) rfl rfl rfl (K_fin [(0, _), (4, _), (5, _), (6, _), (74, _)] rfl (?_))))))
      refine K_scond rfl (fun _ => ?_) (fun hc => by cases hc)
      refine K_ss (K_ss (K_reg (Wops_run rfl rfl (Wops_run rfl rfl (Wops_run rfl rfl (Wops_as (w := .int .i64 ((ln : Int) - 1)) rfl rfl (by rw [w64 (by omega)]) ?_))))))
      have hs2 : rfS ops (i + 1) = if i + 1 = ops.length then .inr (some es) else .inr none := hsucc
      by_cases hl : i + 1 = ops.length
      · rw [if_pos hl] at hs2
        refine Wops_neq (v := false) rfl rfl (by simp; omega) (K_fin [(4, _), (79, _)] rfl (?_))
        refine K_scond rfl (fun hc => by cases hc) (fun _ => ?_)
        refine K_sskip (K_ss (K_reg (Wops_run rfl rfl (Wops_run rfl rfl (Wops_run rfl rfl (K_fin [(2, _), (3, _)] rfl (?_)))))))
        exact K_sret (Told.mk _ rfl ⟨x', .inr ⟨es, h.next, refB_fin (by omega) hs2, rfl, gm⟩⟩)
      · rw [if_neg hl] at hs2
        refine Wops_neq (v := true) rfl rfl (by simp; omega) (K_fin [(4, _), (79, _)] rfl (?_))
        refine K_scond rfl (fun _ => ?_) (fun hc => by cases hc)
        refine K_ss (K_reg (Wops_run rfl rfl (Wops_run rfl rfl (K_fin [(2, _), (3, _)] rfl (?_)))))
        exact K_sret (Told.mk _ rfl ⟨x', .inl ⟨refB_fin (by omega) hs2, rfl⟩⟩)
    rw [List.concat_eq_append] at *
    have hlast : (s0 ++ [k]).getLast? = some k := by simp
    have hl : (s0 ++ [k]).length = s0.length + 1 := by simp
    rw [hlast] at hsucc
    simp only at hsucc
    rw [hl] at o ⊢
    refine K_ss (K_reg (Wops_run rfl rfl (Wops_run rfl rfl (Wops_eq (v := false) rfl rfl (by simp; omega) (K_fin [(0, _), (4, _), (5, _), (6, _), (74, _)] rfl (?_))))))
    refine K_scond rfl (fun hc => by cases hc) (fun _ => ?_)
    refine K_sskip (K_reg (Wops_run rfl rfl (Wops_run rfl rfl (Wops_run rfl rfl (Wops_as (w := .int .i64 (s0.length : Int)) rfl rfl (by rw [w64 (by simp at p2'; omega)]; congr 1; omega) ?_)))))
    refine Wops_idx (u := .int .i64 (k : Int)) rfl rfl o.sl ⟨by omega, by omega⟩ (by simp [ns]) fun _ => ?_
    refine Wops_run rfl rfl (K_fin [(0, _), (4, _), (5, _), (6, _), (10, _)] rfl (?_))
    generalize hb : (getM k es).getD (0, 0) = b at hsucc
    refine K_reg (Wops_run rfl rfl (Wops_run rfl rfl (Wops_look rfl rfl gm ?_)))
    rw [hb]
    refine Wops_new fun h2 n2 x2 g2 => Wops_st (l := [.int .i64 b.1, .int .i64 b.2]) rfl rfl rfl rfl g2 (by simp) rfl fun h3 n3 x3 g3 => ?_
    have X3 : Ext0 h' h3 := x2.then x3 fun j r => .inr (by omega)
    refine K_fin [(0, _), (4, _), (5, _), (6, _), (10, _), (11, _)] rfl (?_)
    refine K_reg (Wops_run rfl rfl (Wops_run rfl rfl (Wops_st (l := [.int .i64 (i : Int)]) rfl rfl rfl rfl g3 (by simp [putL_length]) rfl fun h4 n4 x4 g4 => ?_)))
    refine K_fin [(0, _), (4, _), (5, _), (6, _), (10, _), (11, _)] rfl (?_)
    refine K_reg (Wops_run rfl rfl (Wops_run rfl rfl (Wops_ldA (l := [.int .i64 b.1, .int .i64 (i : Int)]) rfl g4 (by simp [putL_length]) (by rfl) ?_)))
    have z' := x'.next
    have hgl := gm.lt
    refine Wops_mput (b := (b.1, (i : Int))) rfl rfl rfl ((gm.ext X3).ext x4 (by omega)) fun h5 n5 x5 g5 => ?_
    refine K_fin [(0, _), (4, _), (5, _), (6, _)] rfl (?_)
    have o5 := ((o.ext X3).ext x4 (fun j r e => by have := o.lt r; omega)).ext x5 (fun j r e => dsm j r e)
    refine K_last (Wops_run rfl rfl (Wops_run rfl rfl (Wops_run rfl rfl (Wops_as (w := .int .i64 (s0.length : Int)) rfl rfl (by rw [w64 (by simp at p2'; omega)]; congr 1; omega) ?_))))
    refine Wops_slV rfl rfl rfl o5.sl.ok (bounds_hi (i := s0.length) (by omega)) ?_
    refine Wops_run rfl rfl (K_finL [(0, _), (4, _), (5, _), (6, _)] rfl (?_))
    have hs := o5.sub (i := 0) (j := s0.length) (by omega) (by omega)
    have e2 : ((ns (s0 ++ [k])).drop (0 * 1)).take ((s0.length - 0) * 1) = ns s0 := by simp [ns]
    rw [e2] at hs
    rw [List.dropLast_concat] at hsucc
    exact ⟨s0, _, shift sa (0 * 1), sc, [], rfl, hsucc, hs, g5, fun j r => bs j (shift_blk.1 r), ((x'.trans X3).then x4 fun j r => .inr (by omega)).then x5 fun j r => .inr (by omega)⟩
  rw [if_neg h11] at hsucc
  refine K_reg (Wops_run rfl rfl (Wops_eq (v := false) rfl rfl (by simpa using h11) (Wops_run rfl rfl (K_fin [(0, _), (4, _), (5, _), (6, _), (69, _)] rfl (?_)))))
  refine K_cond rfl (fun hc => by cases hc) (fun _ => ?_)
  exact K_skip ⟨st, es, sa, sc, [(69, .bool false)], rfl, hsucc, o, gm, bs, x'⟩

end
section
/- CtrlAll: SameBlocks, the document's Depth, and the walk. -/
set_option linter.unusedVariables false
set_option linter.unusedSimpArgs false

/-- Two maps that hold the same, or none. -/
def SameM (h : Heap) (va vb : Value) : Prop := (va = .map none ∧ vb = .map none) ∨ ∃ ma mb es, va = .map (some ma) ∧ vb = .map (some mb) ∧ At h ma (.map (mapC es)) ∧ At h mb (.map (mapC es))
theorem SameM.ext0 {h h' : Heap} {va vb : Value} (s : SameM h va vb) (x : Ext0 h h') : SameM h' va vb := by
  rcases s with s | ⟨ma, mb, es, e1, e2, g1, g2⟩
  · exact .inl s
  · exact .inr ⟨ma, mb, es, e1, e2, g1.ext x, g2.ext x⟩
theorem Wops_lookS {d : Option Nat} {r : List SOp} {e : Env} {h : Heap} {Q : Env → Heap → Prop} {m k : Arg} {va : Value} {n : Nat} {o : Option Bl} (hm : m.ev e = some va) (hk : k.ev e = some (.int .i64 (n : Int))) (hs : (va = .map none ∧ o = none) ∨ ∃ id es, va = .map (some id) ∧ o = some es ∧ At h id (.map (mapC es)))
    (hq : Wops Try.prog r (e.put d (.tuple ⟨[blv ((o.bind (getM n)).getD (0, 0)), .bool (o.bind (getM n)).isSome]⟩)) h Q) : Wops Try.prog (⟨d, none, .look false (.agg ⟨[.int .i64 0, .int .i64 0]⟩) true m k⟩ :: r) e h Q := by
  rcases hs with ⟨rfl, rfl⟩ | ⟨id, es, rfl, rfl, g⟩
  · refine Wops_run (v := .tuple ⟨[.agg ⟨[.int .i64 0, .int .i64 0]⟩, .bool false]⟩) (h' := h) rfl ?_ hq
    simp only [SO.run, hm, hk, okV]
  · exact Wops_lookB hm hk g hq

theorem C12 {h : Heap} {va vb : Value} (s : SameM h va vb) : Fn Try.prog 12 [va, vb] h fun v h' => v = .bool true ∧ h = h' := by
  refine Fn.gc (Q := fun v h' => v = .bool true ∧ Ext0 h h') (R := fun v => v = .bool true) ?_ fun v h' q => ⟨q.2, by rw [q.1]; rfl, q.1⟩
  obtain ⟨o, ha, hb⟩ : ∃ o : Option Bl, (∀ h', Ext0 h h' → (va = .map none ∧ o = none) ∨ ∃ id es, va = .map (some id) ∧ o = some es ∧ At h' id (.map (mapC es))) ∧ ∀ h', Ext0 h h' → (vb = .map none ∧ o = none) ∨ ∃ id es, vb = .map (some id) ∧ o = some es ∧ At h' id (.map (mapC es)) := by
    rcases s with ⟨rfl, rfl⟩ | ⟨ma, mb, es, rfl, rfl, g1, g2⟩
    · exact ⟨none, fun h' _ => .inl ⟨rfl, rfl⟩, fun h' _ => .inl ⟨rfl, rfl⟩⟩
    · exact ⟨some es, fun h' x => .inr ⟨ma, es, rfl, rfl, g1.ext x⟩, fun h' x => .inr ⟨mb, es, rfl, rfl, g2.ext x⟩⟩
  refine fnK F12.fok rfl ?_
  refine K_reg (Wops_run rfl rfl (K_fin [(0, _), (1, _)] rfl (?_)))
  have hlen : ∃ n : Nat, (∀ (t : Nat) (d : Option Nat) (r : List SOp) (e : Env) (Q : Env → Heap → Prop), e.get t = some va → Wops Try.prog r (e.put d (.int .i64 (n : Int))) h Q → Wops Try.prog (⟨d, none, .lenM (.t t)⟩ :: r) e h Q) ∧ ∀ (t : Nat) (d : Option Nat) (r : List SOp) (e : Env) (Q : Env → Heap → Prop), e.get t = some vb → Wops Try.prog r (e.put d (.int .i64 (n : Int))) h Q → Wops Try.prog (⟨d, none, .lenM (.t t)⟩ :: r) e h Q := by
    rcases s with ⟨rfl, rfl⟩ | ⟨ma, mb, es, rfl, rfl, g1, g2⟩
    · refine ⟨0, fun t d r e Q he hq => ?_, fun t d r e Q he hq => ?_⟩ <;> exact Wops_run (v := .int .i64 0) (h' := h) rfl (by simp only [SO.run, Arg.ev, he]) hq
    · exact ⟨es.length, fun t d r e Q he hq => Wops_lenM he g1 hq, fun t d r e Q he hq => Wops_lenM he g2 hq⟩
  obtain ⟨n, hl1, hl2⟩ := hlen
  refine K_ss (K_reg (Wops_run rfl rfl (hl1 _ _ _ _ _ rfl (Wops_run rfl rfl (hl2 _ _ _ _ _ rfl (Wops_neq (v := false) rfl rfl (by simp) (K_fin [(0, _), (1, _), (14, _)] rfl (?_))))))))
  refine K_scond rfl (fun hc => by cases hc) (fun _ => ?_)
  refine K_sskip (K_ss (K_reg (Wops_run rfl rfl (K_fin [(0, _), (1, _), (5, _)] rfl (?_)))))
  refine K_sblock ?_
  refine K_loop (fun k e h' => ∃ i : Nat, e = [(0, va), (1, vb), (5, .int .i64 i)] ∧ i ≤ 2000 ∧ k = 2000 - i ∧ Ext0 h h') ?_ (k := 2000) ⟨0, rfl, by omega, rfl, Ext.refl _ _⟩
  rintro k e h' ⟨i, rfl, hi, rfl, x'⟩
  refine K_ss (K_reg (Wops_run rfl rfl (Wops_run rfl rfl (K_fin [(0, _), (1, _), (5, _), (16, _)] rfl (?_)))))
  refine K_scond rfl (fun hc => ?_) (fun hc => ?_)
  · have hlt : i < 2000 := by have := of_decide_eq_true hc; omega
    generalize hb1 : (o.bind (getM i)).getD (0, 0) = b
    generalize hb2 : (o.bind (getM i)).isSome = bb
    refine K_sskip (K_sblock ?_)
    refine K_reg (Wops_run rfl rfl (Wops_run rfl rfl (Wops_lookS rfl rfl (ha h' x') ?_)))
    rw [hb1, hb2]
    refine Wops_run rfl rfl (Wops_run rfl rfl (Wops_run rfl rfl (Wops_new fun h1 n1 x1 g1 => Wops_st (l := [.int .i64 b.1, .int .i64 b.2]) rfl rfl rfl rfl g1 (by simp) rfl fun h2 n2 x2 g2 => ?_)))
    refine Wops_run rfl rfl (K_fin [(0, _), (1, _), (5, _), (6, _), (7, _)] rfl (?_))
    have X2 : Ext0 h' h2 := x1.then x2 fun j r => .inr (by omega)
    refine K_reg (Wops_run rfl rfl (Wops_run rfl rfl (Wops_lookS rfl rfl (hb h2 (x'.trans X2)) ?_)))
    rw [hb1, hb2]
    refine Wops_run rfl rfl (Wops_run rfl rfl (Wops_run rfl rfl (Wops_new fun h3 n3 x3 g3 => Wops_st (l := [.int .i64 b.1, .int .i64 b.2]) rfl rfl rfl rfl g3 (by simp) rfl fun h4 n4 x4 g4 => ?_)))
    refine Wops_run rfl rfl (K_fin [(0, _), (1, _), (5, _), (6, _), (7, _), (8, _), (9, _)] rfl (?_))
    have X4 : Ext0 h2 h4 := x3.then x4 fun j r => .inr (by omega)
    have g24 := X4.some0 g2
    refine K_reg (Wops_run rfl rfl (Wops_run rfl rfl (Wops_as (w := .bool false) rfl rfl (by cases bb <;> rfl) (Wops_run rfl rfl ?_))))
    refine Wops_go rfl (Wops_ldA (l := [.int .i64 b.1, .int .i64 b.2]) rfl g24 (by simp [putL_length]) (by rfl) (Wops_go rfl (Wops_ldA (l := [.int .i64 b.1, .int .i64 b.2]) rfl g4 (by simp [putL_length]) (by rfl) (Wops_go rfl ?_))))
    refine Wops_as (w := .bool false) rfl rfl (by simp) (Wops_run rfl rfl (K_fin [(0, _), (1, _), (5, _), (38, _)] rfl (?_)))
    refine K_cond rfl (fun hc => by cases hc) (fun _ => ?_)
    refine K_skip ?_
    refine K_last (Wops_run rfl rfl (Wops_run rfl rfl (Wops_run rfl rfl (K_finL [(0, _), (1, _), (5, _)] rfl (?_)))))
    exact ⟨2000 - (i + 1), by omega, i + 1, by rw [w64s (by omega)], by omega, rfl, x'.trans (X2.trans X4)⟩
  · refine K_sexit (bx_same ?_)
    refine K_reg (Wops_run rfl rfl (K_fin [(4, _)] rfl (?_)))
    exact K_ret (Told.mk _ rfl ⟨rfl, x'⟩)

end
end Go.Dx.SYtpogcjdenefhlaa
