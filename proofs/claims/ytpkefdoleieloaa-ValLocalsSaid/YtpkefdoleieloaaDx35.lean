/- A deterministic reading of the model's code: a number of which only the rest is looked at may be another one with that rest. -/
import Derived.Test.YtpkefdoleieloaaDx34
namespace Go.Dx
set_option linter.unusedVariables false
set_option linter.unusedSimpArgs false

structure RelM (K : IntKind) (x y : Int) (M : List Nat) (e e' : Env) : Prop where
  out : ∀ s, s ∉ M → e'.get s = e.get s
  inn : ∀ s, s ∈ M → (e.get s = some (.int K x) ∧ e'.get s = some (.int K y)) ∨ (e.get s = none ∧ e'.get s = none)
def gfree (M : List Nat) : Option (Nat × Bool) → Bool
  | none => true
  | some (t, _) => !(M.contains t)
def mstep (K : IntKind) (m : Int) (M : List Nat) (o : SOp) : Option (List Nat) :=
  bif gfree M o.guard && o.op.tmps.all (fun t => !(M.contains t)) then some (M.filter fun s => !(o.dst == some s))
  else match o with
    | ⟨some d, none, .mov (.t s)⟩ => bif M.contains s then some (d :: M) else none
    | ⟨some d, none, .bin .rem (.t s) (.c (.int k n))⟩ => bif M.contains s && (decide (k = K) && decide (n = m)) then some (M.filter fun s => !(d == s)) else none
    | _ => none
def msteps (K : IntKind) (m : Int) : List Nat → List SOp → Option (List Nat)
  | M, [] => some M
  | M, o :: r => match mstep K m M o with
    | some M1 => msteps K m M1 r
    | none => none
def mcode (K : IntKind) (m : Int) (t : Nat) : SCode → Bool
  | .region ops keep => match msteps K m [t] ops with
    | some M => M.all (fun s => s == t || !(keep.contains s)) && (M.contains t || !(keep.contains t))
    | none => false
  | .seq a b => mcode K m t a && mcode K m t b
  | .cond c a b => !(c.tmps.contains t) && (mcode K m t a && mcode K m t b)
  | .block _ a => mcode K m t a
  | .loop a => mcode K m t a
  | .skip => true
  | .exit _ => true
  | .ret => true

theorem get_put (e : Env) (d : Option Nat) (v : Value) (s : Nat) : (e.put d v).get s = if d = some s then some v else e.get s := by
  cases d with
  | none => simp [Env.put]
  | some k =>
    by_cases h : k = s
    · subst h; simp [Env.put, Env.get]
    · have : k.beq s = false := by rw [beq_iff]; simp [h]
      simp [Env.put, Env.get, this, h]
theorem get_keep (e : Env) (s : Nat) : ∀ keep : List Nat, (e.keep keep).get s = if s ∈ keep then e.get s else none
  | [] => rfl
  | t :: r => by
    have ih := get_keep e s r
    simp only [Env.keep]
    by_cases h : t = s
    · subst h
      cases hg : e.get t with
      | none => simp only [hg] at ih ⊢; rw [ih]; simp
      | some v => simp [Env.get]
    · have hb : t.beq s = false := by rw [beq_iff]; simp [h]
      have hm : s ∈ t :: r ↔ s ∈ r := by simp [Ne.symm h]
      cases hg : e.get t with
      | none => simp only [hm]; exact ih
      | some v => simp only [Env.get, hb, cond_false, hm]; exact ih

def opRes (D : Runner) (o : SOp) (e : Env) (h : Heap) : Option (Value × Heap) := match o.wanted e with
  | none => none
  | some false => some (undefV, h)
  | some true => match o.op.asCall with
    | some (f, args) => match f.ev e, evs e args with
      | some (.func (.func f) ⟨a⟩ ⟨b⟩), some vs => D f (a ++ vs ++ b) h
      | _, _ => none
    | none => o.op.run e h
theorem Dops_cons (D : Runner) (o : SOp) (r : List SOp) (e : Env) (h : Heap) : Dops D (o :: r) e h = match opRes D o e h with
    | some (v, h') => Dops D r (e.put o.dst v) h'
    | none => none := by
  unfold opRes
  simp only [Dops]
  cases o.wanted e with
  | none => rfl
  | some b =>
    cases b with
    | false => rfl
    | true =>
      simp only
      cases o.op.asCall with
      | none => simp only; cases o.op.run e h <;> rfl
      | some fa =>
        obtain ⟨F, As⟩ := fa
        simp only
        split
        · rename_i f a b vs h1 h2
          rw [h1, h2]
          show _ = (match D f (a ++ vs ++ b) h with | some (v, h') => Dops D r (e.put o.dst v) h' | none => none)
          cases D f (a ++ vs ++ b) h <;> rfl
        · rename_i hne
          split
          · rename_i v h' hx
            split at hx
            · rename_i f a b vs h1 h2
              exact absurd h2 (by intro q; exact hne _ _ _ _ h1 q)
            · cases hx
          · rfl
theorem opRes_same {D : Runner} {o : SOp} {e e' : Env} {h : Heap} {M : List Nat} (hg : gfree M o.guard = true) (ht : o.op.tmps.all (fun t => !(M.contains t)) = true) (hr : ∀ s, s ∉ M → e'.get s = e.get s) : opRes D o e' h = opRes D o e h := by
  have ht' : ∀ t ∈ o.op.tmps, e'.get t = e.get t := fun t q => hr t (by have := List.all_eq_true.1 ht t q; simpa using this)
  have hw : o.wanted e' = o.wanted e := by
    unfold SOp.wanted
    cases hq : o.guard with
    | none => rfl
    | some tb =>
      obtain ⟨t, b⟩ := tb
      rw [hq] at hg
      simp only
      rw [hr t (by simpa [gfree] using hg)]
  unfold opRes
  rw [hw]
  cases o.wanted e with
  | none => rfl
  | some b =>
    cases b with
    | false => rfl
    | true =>
      simp only
      cases hc : o.op.asCall with
      | none => simp only; exact run_congr' ht'
      | some fa =>
        obtain ⟨F, As⟩ := fa
        obtain ⟨c1, c2⟩ := call_tmps hc
        simp only
        rw [Arg.ev_congr fun t q => ht' t (c1 t q), evs_congr fun t q => ht' t (c2 t q)]

variable {K : IntKind} {m x y : Int}
theorem ops_rel (hm : m ≠ 0) (hxy : x.tmod m = y.tmod m) {D : Runner} : ∀ (ops : List SOp) (M M' : List Nat) (e e' : Env) (h : Heap), msteps K m M ops = some M' → RelM K x y M e e' →
    (Dops D ops e h = none ∧ Dops D ops e' h = none) ∨ ∃ e1 e1' h1, Dops D ops e h = some (e1, h1) ∧ Dops D ops e' h = some (e1', h1) ∧ RelM K x y M' e1 e1'
  | [], M, M', e, e', h, hs, R => by
    simp only [msteps, Option.some.injEq] at hs
    subst hs
    exact .inr ⟨e, e', h, rfl, rfl, R⟩
  | o :: r, M, M', e, e', h, hs, R => by
    simp only [msteps] at hs
    split at hs
    · rename_i M1 h1
      rw [Dops_cons, Dops_cons]
      unfold mstep at h1
      cases hf : (gfree M o.guard && o.op.tmps.all (fun t => !(M.contains t))) with
      | true =>
        rw [hf] at h1
        simp only [cond_true, Option.some.injEq] at h1
        subst h1
        simp only [Bool.and_eq_true] at hf
        rw [opRes_same hf.1 hf.2 R.out]
        cases opRes D o e h with
        | none => exact .inl ⟨rfl, rfl⟩
        | some vh =>
          obtain ⟨v, h'⟩ := vh
          refine ops_rel hm hxy r _ M' _ _ h' hs ⟨fun s hs => ?_, fun s hs => ?_⟩
          · rw [get_put, get_put]
            by_cases hd : o.dst = some s
            · rw [if_pos hd, if_pos hd]
            · rw [if_neg hd, if_neg hd]
              exact R.out s fun q => hs (List.mem_filter.2 ⟨q, by simp [hd]⟩)
          · obtain ⟨q1, q2⟩ := List.mem_filter.1 hs
            have hd : ¬ o.dst = some s := by simpa using q2
            rw [get_put, get_put, if_neg hd, if_neg hd]
            exact R.inn s q1
      | false =>
        rw [hf] at h1
        simp only [cond_false] at h1
        split at h1
        · rename_i d s
          cases hc : M.contains s with
          | false => rw [hc] at h1; cases h1
          | true =>
            rw [hc] at h1
            simp only [cond_true, Option.some.injEq] at h1
            subst h1
            have hsM : s ∈ M := by simpa using hc
            rcases R.inn s hsM with ⟨g1, g2⟩ | ⟨g1, g2⟩
            · have r1 : opRes D ⟨some d, none, .mov (.t s)⟩ e h = some (.int K x, h) := by simp [opRes, SOp.wanted, SO.asCall, SO.run, Arg.ev, g1]
              have r2 : opRes D ⟨some d, none, .mov (.t s)⟩ e' h = some (.int K y, h) := by simp [opRes, SOp.wanted, SO.asCall, SO.run, Arg.ev, g2]
              rw [r1, r2]
              refine ops_rel hm hxy r _ M' _ _ h hs ⟨fun u hu => ?_, fun u hu => ?_⟩
              · simp only [List.mem_cons, not_or] at hu
                rw [get_put, get_put, if_neg (by simp; exact fun q => hu.1 q.symm), if_neg (by simp; exact fun q => hu.1 q.symm)]
                exact R.out u hu.2
              · rw [get_put, get_put]
                by_cases hd : d = u
                · subst hd; rw [if_pos rfl, if_pos rfl]; exact .inl ⟨rfl, rfl⟩
                · rw [if_neg (by simp [hd]), if_neg (by simp [hd])]
                  simp only [List.mem_cons] at hu
                  exact R.inn u (hu.resolve_left fun q => hd q.symm)
            · have r1 : opRes D ⟨some d, none, .mov (.t s)⟩ e h = none := by simp [opRes, SOp.wanted, SO.asCall, SO.run, Arg.ev, g1]
              have r2 : opRes D ⟨some d, none, .mov (.t s)⟩ e' h = none := by simp [opRes, SOp.wanted, SO.asCall, SO.run, Arg.ev, g2]
              rw [r1, r2]; exact .inl ⟨rfl, rfl⟩
        · rename_i d s k n
          cases hc : (M.contains s && (decide (k = K) && decide (n = m))) with
          | false => rw [hc] at h1; cases h1
          | true =>
            rw [hc] at h1
            simp only [cond_true, Option.some.injEq] at h1
            subst h1
            simp only [Bool.and_eq_true, decide_eq_true_eq] at hc
            obtain ⟨hc1, hk, hn⟩ := hc
            have hk := hk.symm
            have hn := hn.symm
            subst hk
            subst hn
            have hsM : s ∈ M := by simpa using hc1
            rcases R.inn s hsM with ⟨g1, g2⟩ | ⟨g1, g2⟩
            · have b : ∀ z, binV .rem (.int K z) (.int K m) = some (.int K (z.tmod m)) := fun z => by simp [binV, intV, hm]
              have r1 : opRes D ⟨some d, none, .bin .rem (.t s) (.c (.int K m))⟩ e h = some (.int K (x.tmod m), h) := by simp [opRes, SOp.wanted, SO.asCall, SO.run, Arg.ev, g1, b]
              have r2 : opRes D ⟨some d, none, .bin .rem (.t s) (.c (.int K m))⟩ e' h = some (.int K (x.tmod m), h) := by simp [opRes, SOp.wanted, SO.asCall, SO.run, Arg.ev, g2, b, hxy]
              rw [r1, r2]
              refine ops_rel hm hxy r _ M' _ _ h hs ⟨fun u hu => ?_, fun u hu => ?_⟩
              · rw [get_put, get_put]
                by_cases hd : d = u
                · subst hd; rw [if_pos rfl, if_pos rfl]
                · rw [if_neg (by simp [hd]), if_neg (by simp [hd])]
                  exact R.out u fun q => hu (List.mem_filter.2 ⟨q, by simp [hd]⟩)
              · obtain ⟨q1, q2⟩ := List.mem_filter.1 hu
                have hd : ¬ d = u := by simpa using q2
                rw [get_put, get_put, if_neg (by simp [hd]), if_neg (by simp [hd])]
                exact R.inn u q1
            · have r1 : opRes D ⟨some d, none, .bin .rem (.t s) (.c (.int K m))⟩ e h = none := by simp [opRes, SOp.wanted, SO.asCall, SO.run, Arg.ev, g1]
              have r2 : opRes D ⟨some d, none, .bin .rem (.t s) (.c (.int K m))⟩ e' h = none := by simp [opRes, SOp.wanted, SO.asCall, SO.run, Arg.ev, g2]
              rw [r1, r2]; exact .inl ⟨rfl, rfl⟩
        · cases h1
    · cases hs

def RelR (K : IntKind) (x y : Int) (t : Nat) (r r' : Option (Out × Env × Heap)) : Prop := (r = none ∧ r' = none) ∨ ∃ o e e' h, r = some (o, e, h) ∧ r' = some (o, e', h) ∧ RelM K x y [t] e e'
theorem iter_rel {t : Nat} {R : Env → Heap → Option (Out × Env × Heap)} (hR : ∀ e e' h, RelM K x y [t] e e' → RelR K x y t (R e h) (R e' h)) : ∀ (n : Nat) (e e' : Env) (h : Heap), RelM K x y [t] e e' → RelR K x y t (Diter R n e h) (Diter R n e' h)
  | 0, e, e', h, _ => .inl ⟨rfl, rfl⟩
  | n + 1, e, e', h, q => by
    simp only [Diter]
    rcases hR e e' h q with ⟨h1, h2⟩ | ⟨o, e1, e1', h', h1, h2, q'⟩
    · rw [h1, h2]; exact .inl ⟨rfl, rfl⟩
    · rw [h1, h2]
      cases o with
      | normal => exact iter_rel hR n e1 e1' h' q'
      | exit i => exact .inr ⟨_, _, _, _, rfl, rfl, q'⟩
      | ret => exact .inr ⟨_, _, _, _, rfl, rfl, q'⟩
theorem code_rel (hm : m ≠ 0) (hxy : x.tmod m = y.tmod m) {D : Runner} {n t : Nat} : ∀ (c : SCode), mcode K m t c = true → ∀ (e e' : Env) (h : Heap), RelM K x y [t] e e' → RelR K x y t (Dcode D n c e h) (Dcode D n c e' h)
  | .skip, _, e, e', h, q => .inr ⟨_, _, _, _, rfl, rfl, q⟩
  | .exit i, _, e, e', h, q => .inr ⟨_, _, _, _, rfl, rfl, q⟩
  | .ret, _, e, e', h, q => .inr ⟨_, _, _, _, rfl, rfl, q⟩
  | .region ops keep, hc, e, e', h, q => by
    simp only [mcode] at hc
    split at hc
    · rename_i M hM
      simp only [Bool.and_eq_true] at hc
      simp only [Dcode]
      rcases ops_rel hm hxy (D := D) ops [t] M e e' h hM q with ⟨h1, h2⟩ | ⟨e1, e1', h', h1, h2, q'⟩
      · rw [h1, h2]; exact .inl ⟨rfl, rfl⟩
      · rw [h1, h2]
        refine .inr ⟨_, _, _, _, rfl, rfl, fun s hs => ?_, fun s hs => ?_⟩
        · simp only [List.mem_singleton] at hs
          rw [get_keep, get_keep]
          by_cases hk : s ∈ keep
          · rw [if_pos hk, if_pos hk]
            refine q'.out s fun hsM => ?_
            have := List.all_eq_true.1 hc.1 s hsM
            simp [hs, hk] at this
          · rw [if_neg hk, if_neg hk]
        · simp only [List.mem_singleton] at hs
          subst hs
          rw [get_keep, get_keep]
          by_cases hk : s ∈ keep
          · rw [if_pos hk, if_pos hk]
            refine q'.inn s ?_
            have := hc.2
            simpa [hk] using this
          · rw [if_neg hk, if_neg hk]; exact .inr ⟨rfl, rfl⟩
    · cases hc
  | .seq a b, hc, e, e', h, q => by
    simp only [mcode, Bool.and_eq_true] at hc
    simp only [Dcode]
    rcases code_rel hm hxy (D := D) (n := n) a hc.1 e e' h q with ⟨h1, h2⟩ | ⟨o, e1, e1', h', h1, h2, q'⟩
    · rw [h1, h2]; exact .inl ⟨rfl, rfl⟩
    · rw [h1, h2]
      cases o with
      | normal => exact code_rel hm hxy b hc.2 e1 e1' h' q'
      | exit i => exact .inr ⟨_, _, _, _, rfl, rfl, q'⟩
      | ret => exact .inr ⟨_, _, _, _, rfl, rfl, q'⟩
  | .cond c a b, hc, e, e', h, q => by
    simp only [mcode, Bool.and_eq_true] at hc
    simp only [Dcode]
    have he : c.ev e' = c.ev e := Arg.ev_congr fun s hs => q.out s fun hs2 => by
      simp only [List.mem_singleton] at hs2
      subst hs2
      have := hc.1
      simp [hs] at this
    rw [he]
    split
    · exact code_rel hm hxy a hc.2.1 e e' h q
    · exact code_rel hm hxy b hc.2.2 e e' h q
    · exact .inl ⟨rfl, rfl⟩
  | .block id a, hc, e, e', h, q => by
    simp only [mcode] at hc
    simp only [Dcode]
    rcases code_rel hm hxy (D := D) (n := n) a hc e e' h q with ⟨h1, h2⟩ | ⟨o, e1, e1', h', h1, h2, q'⟩
    · rw [h1, h2]; exact .inl ⟨rfl, rfl⟩
    · rw [h1, h2]
      cases o with
      | normal => exact .inr ⟨_, _, _, _, rfl, rfl, q'⟩
      | exit i =>
        simp only
        cases i.beq id with
        | true => exact .inr ⟨_, _, _, _, rfl, rfl, q'⟩
        | false => exact .inr ⟨_, _, _, _, rfl, rfl, q'⟩
      | ret => exact .inr ⟨_, _, _, _, rfl, rfl, q'⟩
  | .loop a, hc, e, e', h, q => by
    simp only [mcode] at hc
    simp only [Dcode]
    exact iter_rel (fun e e' h q => code_rel hm hxy a hc e e' h q) n e e' h q
/-- What one tells, the other tells. -/
theorem tells_rel (hm : m ≠ 0) (hxy : x.tmod m = y.tmod m) {T : List (Nat × SFn)} {n t r : Nat} {c : SCode} (hc : mcode K m t c = true) (hr : ¬ r = t) {e e' : Env} {h : Heap} (q : RelM K x y [t] e e') (ht : tells [.t r] (codeR (fnR T n) n c e' h) = true) : tells [.t r] (codeR (fnR T n) n c e h) = true := by
  rw [codeR_eq] at ht ⊢
  rcases code_rel hm hxy (D := fnR T n) (n := n) c hc e e' h q with ⟨h1, h2⟩ | ⟨o, e1, e1', h', h1, h2, q'⟩
  · rw [h2] at ht; cases ht
  · rw [h2] at ht
    rw [h1]
    have hg : e1'.get r = e1.get r := q'.out r (by simp [hr])
    have he : resL e1' h' [.t r] = resL e1 h' [.t r] := by simp only [resL, Res.ev, hg]
    cases o with
    | normal => simp only [tells] at ht ⊢; rw [he] at ht; exact ht
    | exit i => exact ht
    | ret => simp only [tells] at ht ⊢; rw [he] at ht; exact ht
theorem RelM.of {t : Nat} {e e' : Env} (hx : e.get t = some (.int K x)) (hy : e'.get t = some (.int K y)) (ho : ∀ s, ¬ s = t → e'.get s = e.get s) : RelM K x y [t] e e' :=
  ⟨fun s hs => ho s (by simpa using hs), fun s hs => by simp only [List.mem_singleton] at hs; subst hs; exact .inl ⟨hx, hy⟩⟩
end Go.Dx
