/- A deterministic reading of the model's code: a number of which only the rest is looked at may be another one with that rest. -/
import Derived.Test.YtpkefdoleieloaaDy34
namespace Go.Dx
set_option linter.unusedVariables false
set_option linter.unusedSimpArgs false
structure RelM (K : IntKind) (x y : Int) (M : List Nat) (e e' : Env) : Prop where
  out : ∀ s,s ∉ M → e'.get s = e.get s
  inn : ∀ s,s ∈ M → (e.get s = some (.int K x) ∧ e'.get s = some (.int K y)) ∨ (e.get s = none ∧ e'.get s = none)
def gfree (M : List Nat) : Option (Nat × Bool) → Bool
  | none => true
  | some (t,_) => !(M.contains t)
def mstep (K : IntKind) (m : Int) (M : List Nat) (o : SOp) : Option (List Nat) :=
  bif gfree M o.guard && o.op.tmps.all (fun t => !(M.contains t)) then some (M.filter fun s => !(o.dst == some s))
  else match o with
    | ⟨some d,none,.mov (.t s)⟩ => bif M.contains s then some (d :: M) else none
    | ⟨some d,none,.bin .rem (.t s) (.c (.int k n))⟩ => bif M.contains s && (decide (k = K) && decide (n = m)) then some (M.filter fun s => !(d == s)) else none
    | _ => none
theorem get_put (e : Env) (d : Option Nat) (v : Value) (s : Nat) : (e.put d v).get s = if d = some s then some v else e.get s := by
  cases d with
  | none => simp [Env.put]
  | some k =>
    by_cases h : k = s
    · subst h; simp [Env.put,Env.get]
    · have : k.beq s = false := by rw [Wu]; simp [h]
      simp [Env.put,Env.get,this,h]
theorem get_keep (e : Env) (s : Nat) : ∀ keep : List Nat,(e.keep keep).get s = if s ∈ keep then e.get s else none
  | [] => rfl
  | t :: r => by
    have ih := get_keep e s r
    simp only [Env.keep]
    by_cases h : t = s
    · subst h
      cases hg : e.get t with
      | none => simp only [hg] at ih ⊢; rw [ih]; simp
      | some v => simp [Env.get]
    · have hb : t.beq s = false := by rw [Wu]; simp [h]
      have hm : s ∈ t :: r ↔ s ∈ r := by simp [Ne.symm h]
      cases hg : e.get t with
      | none => simp only [hm]; exact ih
      | some v => simp only [Env.get,hb,cond_false,hm]; exact ih
def Jx (D : Ze) (o : SOp) (e : Env) (h : Heap) : Option (Value × Heap) := match o.wanted e with
  | none => none
  | some false => some (Xg,h)
  | some true => match o.op.asCall with
    | some (f,args) => match f.ev e,evs e args with
      | some (.func (.func f) ⟨a⟩ ⟨b⟩),some vs => D f (a ++ vs ++ b) h
      | _,_ => none
    | none => o.op.run e h
theorem Dops_cons (D : Ze) (o : SOp) (r : List SOp) (e : Env) (h : Heap) : Jh D (o :: r) e h = match Jx D o e h with
    | some (v,h') => Jh D r (e.put o.dst v) h'
    | none => none := by
  unfold Jx
  simp only [Jh]
  cases o.wanted e with
  | none => rfl
  | some b =>
    cases b with
    | false => rfl
    | true =>
      simp only
      cases o.op.asCall with
      | none => simp only; cases o.op.run e h <;> rfl
      | some fa =>
        obtain ⟨F,As⟩ := fa
        simp only
        split
        · rename_i f a b vs h1 h2
          rw [h1,h2]
          show _ = (match D f (a ++ vs ++ b) h with | some (v,h') => Jh D r (e.put o.dst v) h' | none => none)
          cases D f (a ++ vs ++ b) h <;> rfl
        · rename_i hne
          split
          · rename_i v h' hx
            split at hx
            · rename_i f a b vs h1 h2
              exact absurd h2 (by intro q; exact hne _ _ _ _ h1 q)
            · cases hx
          · rfl
theorem opRes_same {D : Ze} {o : SOp} {e e' : Env} {h : Heap} {M : List Nat} (hg : gfree M o.guard = true) (ht : o.op.tmps.all (fun t => !(M.contains t)) = true) (hr : ∀ s,s ∉ M → e'.get s = e.get s) : Jx D o e' h = Jx D o e h := by
  have ht' : ∀ t ∈ o.op.tmps,e'.get t = e.get t := fun t q => hr t (by have := List.all_eq_true.1 ht t q; simpa using this)
  have hw : o.wanted e' = o.wanted e := by
    unfold SOp.wanted
    cases hq : o.guard with
    | none => rfl
    | some tb =>
      obtain ⟨t,b⟩ := tb
      rw [hq] at hg
      simp only
      rw [hr t (by simpa [gfree] using hg)]
  unfold Jx
  rw [hw]
  cases o.wanted e with
  | none => rfl
  | some b =>
    cases b with
    | false => rfl
    | true =>
      simp only
      cases hc : o.op.asCall with
      | none => simp only; exact Ue ht'
      | some fa =>
        obtain ⟨F,As⟩ := fa
        obtain ⟨c1,c2⟩ := call_tmps hc
        simp only
        rw [Arg.ev_congr fun t q => ht' t (c1 t q),Kg fun t q => ht' t (c2 t q)]
variable {K : IntKind} {m x y : Int}
end Go.Dx
