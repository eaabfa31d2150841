/- A deterministic reading of the model's code: a number that is only compared with constants may be another one that lies alike. -/
import Derived.Test.YtpkefdoleieloaaDy35
namespace Go.Dx
set_option linter.unusedVariables false
set_option linter.unusedSimpArgs false
structure RelC (K : IntKind) (x y : Int) (M : List Nat) (e e' : Env) : Prop where
  r : ∀ s,e'.get s = e.get s ∨ (s ∈ M ∧ e.get s = some (.int K x) ∧ e'.get s = some (.int K y))
theorem RelC.mono {K : IntKind} {x y : Int} {M M' : List Nat} {e e' : Env} (q : RelC K x y M e e') (h : ∀ s,s ∈ M → s ∈ M') : RelC K x y M' e e' := ⟨fun s => (q.r s).imp id fun ⟨a,b⟩ => ⟨h s a,b⟩⟩
def isCmp : BinOp → Bool
  | .eql | .neq | .lss | .leq | .gtr | .geq => true
  | _ => false
def cstep (K : IntKind) (Cs : List Int) (G : List Nat) (M : List Nat) (o : SOp) : Option (List Nat) :=
  bif gfree M o.guard then (bif o.op.tmps.all (fun t => !(M.contains t)) then some M
    else match o.op with
      | .mov (.t s) => match o.dst with
        | some d => some (d :: M)
        | none => none
      | .bin op (.t s) (.c (.int k n)) => bif isCmp op && (decide (k = K) && Cs.contains n) then some M else none
      | .call f [.t s] => bif G.contains f then some M else none
      | _ => none) else none
def csteps (K : IntKind) (Cs : List Int) (G : List Nat) : List Nat → List SOp → Option (List Nat)
  | M,[] => some M
  | M,o :: r => match cstep K Cs G M o with
    | some M1 => csteps K Cs G M1 r
    | none => none
def Vx (K : IntKind) (Cs : List Int) (G F : List Nat) : SCode → Bool
  | .region ops keep => match csteps K Cs G F ops with
    | some M => M.all fun s => F.contains s || !(keep.contains s)
    | none => false
  | .seq a b => Vx K Cs G F a && Vx K Cs G F b
  | .cond c a b => c.tmps.all (fun t => !(F.contains t)) && (Vx K Cs G F a && Vx K Cs G F b)
  | .block _ a => Vx K Cs G F a
  | .loop a => Vx K Cs G F a
  | .skip => true
  | .exit _ => true
  | .ret => true
variable {K : IntKind} {x y : Int} {Cs : List Int} {G : List Nat}
theorem cmp_same {op : BinOp} (h : isCmp op = true) {n : Int} (h1 : x < n ↔ y < n) (h2 : x = n ↔ y = n) : Ga op (.int K x) (.int K n) = Ga op (.int K y) (.int K n) := by
  have e1 : (x == n) = (y == n) := by rw [Bool.eq_iff_iff]; simp [h2]
  have e2 : decide (x < n) = decide (y < n) := decide_eq_decide.2 h1
  have e3 : decide (x ≤ n) = decide (y ≤ n) := decide_eq_decide.2 (by omega)
  have e4 : decide (x > n) = decide (y > n) := decide_eq_decide.2 (by omega)
  have e5 : decide (x ≥ n) = decide (y ≥ n) := decide_eq_decide.2 (by omega)
  have e6 : (x != n) = (y != n) := by simp only [bne,e1]
  cases op <;> simp [isCmp] at h <;> simp only [Ga,intV,e1,e2,e3,e4,e5,e6]
theorem cops_rel (hc : ∀ n ∈ Cs,(x < n ↔ y < n) ∧ (x = n ↔ y = n)) {D : Ze} (hG : ∀ f ∈ G,∀ h,D f [.int K x] h = D f [.int K y] h) : ∀ (ops : List SOp) (M M' : List Nat) (e e' : Env) (h : Heap),csteps K Cs G M ops = some M' → RelC K x y M e e' →
    (Jh D ops e h = none ∧ Jh D ops e' h = none) ∨ ∃ e1 e1' h1,Jh D ops e h = some (e1,h1) ∧ Jh D ops e' h = some (e1',h1) ∧ RelC K x y M' e1 e1'
  | [],M,M',e,e',h,hs,R => by
    simp only [csteps,Option.some.injEq] at hs
    subst hs
    exact .inr ⟨e,e',h,rfl,rfl,R⟩
  | o :: r,M,M',e,e',h,hs,R => by
    simp only [csteps] at hs
    split at hs
    · rename_i M1 h1
      rw [Dops_cons,Dops_cons]
      unfold cstep at h1
      have out : ∀ s,¬ s ∈ M → e'.get s = e.get s := fun s hs => (R.r s).resolve_right fun q => hs q.1
      -- what is put alike
      have alike : M1 = M → Jx D o e' h = Jx D o e h → (match Jx D o e h with | some (v,h') => Jh D r (e.put o.dst v) h' | none => none) = none ∧ (match Jx D o e' h with | some (v,h') => Jh D r (e'.put o.dst v) h' | none => none) = none ∨ ∃ e1 e1' h1,(match Jx D o e h with | some (v,h') => Jh D r (e.put o.dst v) h' | none => none) = some (e1,h1) ∧ (match Jx D o e' h with | some (v,h') => Jh D r (e'.put o.dst v) h' | none => none) = some (e1',h1) ∧ RelC K x y M' e1 e1' := by
        rintro rfl hq
        rw [hq]
        cases Jx D o e h with
        | none => exact .inl ⟨rfl,rfl⟩
        | some vh =>
          obtain ⟨v,h'⟩ := vh
          refine cops_rel hc hG r _ M' _ _ h' hs ⟨fun s => ?_⟩
          rw [get_put,get_put]
          by_cases hd : o.dst = some s
          · rw [if_pos hd,if_pos hd]; exact .inl rfl
          · rw [if_neg hd,if_neg hd]; exact R.r s
      cases hg : gfree M o.guard with
      | false => rw [hg] at h1; cases h1
      | true =>
        rw [hg] at h1
        simp only [cond_true] at h1
        cases hf : o.op.tmps.all (fun t => !(M.contains t)) with
        | true =>
          rw [hf] at h1
          simp only [cond_true,Option.some.injEq] at h1
          exact alike h1.symm (opRes_same hg hf out)
        | false =>
          rw [hf] at h1
          simp only [cond_false] at h1
          have hw : o.wanted e' = o.wanted e := by
            unfold SOp.wanted
            cases hq : o.guard with
            | none => rfl
            | some tb =>
              obtain ⟨t,b⟩ := tb
              rw [hq] at hg
              simp only
              rw [out t (by simpa [gfree] using hg)]
          split at h1
          · rename_i s hop
            split at h1
            · rename_i d hd
              simp only [Option.some.injEq] at h1
              subst h1
              have put : ∀ (v v' : Value) (h' : Heap),(v' = v ∨ (v = .int K x ∧ v' = .int K y)) → (Jh D r (e.put o.dst v) h' = none ∧ Jh D r (e'.put o.dst v') h' = none) ∨ ∃ e1 e1' h1,Jh D r (e.put o.dst v) h' = some (e1,h1) ∧ Jh D r (e'.put o.dst v') h' = some (e1',h1) ∧ RelC K x y M' e1 e1' := fun v v' h' hv => by
                refine cops_rel hc hG r _ M' _ _ h' hs ⟨fun u => ?_⟩
                rw [get_put,get_put,hd]
                by_cases hu : d = u
                · subst hu
                  rw [if_pos rfl,if_pos rfl]
                  rcases hv with rfl | ⟨rfl,rfl⟩
                  · exact .inl rfl
                  · exact .inr ⟨List.mem_cons_self,rfl,rfl⟩
                · rw [if_neg (by simp [hu]),if_neg (by simp [hu])]
                  exact (R.r u).imp id fun ⟨a,b⟩ => ⟨List.mem_cons_of_mem _ a,b⟩
              unfold Jx
              rw [hw,hop]
              cases o.wanted e with
              | none => exact .inl ⟨rfl,rfl⟩
              | some b =>
                cases b with
                | false => exact put _ _ _ (.inl rfl)
                | true =>
                  simp only [SO.asCall,SO.run,Arg.ev]
                  rcases R.r s with q | ⟨_,q1,q2⟩
                  · rw [q]
                    cases e.get s with
                    | none => exact .inl ⟨rfl,rfl⟩
                    | some v => exact put _ _ _ (.inl rfl)
                  · rw [q1,q2]; exact put _ _ _ (.inr ⟨rfl,rfl⟩)
            · cases h1
          · rename_i op s k n hop
            cases hq : (isCmp op && (decide (k = K) && Cs.contains n)) with
            | false => rw [hq] at h1; cases h1
            | true =>
              rw [hq] at h1
              simp only [cond_true,Option.some.injEq] at h1
              simp only [Bool.and_eq_true,decide_eq_true_eq] at hq
              obtain ⟨q1,q2,q3⟩ := hq
              have q2 := q2.symm
              subst q2
              obtain ⟨c1,c2⟩ := hc n (by simpa using q3)
              refine alike h1.symm ?_
              unfold Jx
              rw [hw,hop]
              have : SO.run (.bin op (.t s) (.c (.int K n))) e' h = SO.run (.bin op (.t s) (.c (.int K n))) e h := by
                simp only [SO.run,Arg.ev]
                rcases R.r s with q | ⟨_,g1,g2⟩
                · rw [q]
                · rw [g1,g2]; simp only [cmp_same (K := K) q1 c1 c2]
              rw [this]; rfl
          · rename_i f s hop
            cases hq : G.contains f with
            | false => rw [hq] at h1; cases h1
            | true =>
              rw [hq] at h1
              simp only [cond_true,Option.some.injEq] at h1
              refine alike h1.symm ?_
              unfold Jx
              rw [hw,hop]
              simp only [SO.asCall,Arg.ev,evs]
              rcases R.r s with q | ⟨_,g1,g2⟩
              · rw [q]
              · rw [g1,g2]
                cases o.wanted e with
                | none => rfl
                | some b =>
                  cases b with
                  | false => rfl
                  | true => exact (hG f (by simpa using hq) h).symm
          · cases h1
    · cases hs
def RelCR (K : IntKind) (x y : Int) (F : List Nat) (r r' : Option (Out × Env × Heap)) : Prop := (r = none ∧ r' = none) ∨ ∃ o e e' h,r = some (o,e,h) ∧ r' = some (o,e',h) ∧ RelC K x y F e e'
theorem citer_rel {F : List Nat} {R : Env → Heap → Option (Out × Env × Heap)} (hR : ∀ e e' h,RelC K x y F e e' → RelCR K x y F (R e h) (R e' h)) : ∀ (n : Nat) (e e' : Env) (h : Heap),RelC K x y F e e' → RelCR K x y F (Diter R n e h) (Diter R n e' h)
  | 0,e,e',h,_ => .inl ⟨rfl,rfl⟩
  | n + 1,e,e',h,q => by
    simp only [Diter]
    rcases hR e e' h q with ⟨h1,h2⟩ | ⟨o,e1,e1',h',h1,h2,q'⟩
    · rw [h1,h2]; exact .inl ⟨rfl,rfl⟩
    · rw [h1,h2]
      cases o with
      | normal => exact citer_rel hR n e1 e1' h' q'
      | exit i => exact .inr ⟨_,_,_,_,rfl,rfl,q'⟩
      | ret => exact .inr ⟨_,_,_,_,rfl,rfl,q'⟩
theorem Qy (hc : ∀ n ∈ Cs,(x < n ↔ y < n) ∧ (x = n ↔ y = n)) {D : Ze} (hG : ∀ f ∈ G,∀ h,D f [.int K x] h = D f [.int K y] h) {n : Nat} {F : List Nat} : ∀ (c : SCode),Vx K Cs G F c = true → ∀ (e e' : Env) (h : Heap),RelC K x y F e e' → RelCR K x y F (Zg D n c e h) (Zg D n c e' h)
  | .skip,_,e,e',h,q => .inr ⟨_,_,_,_,rfl,rfl,q⟩
  | .exit i,_,e,e',h,q => .inr ⟨_,_,_,_,rfl,rfl,q⟩
  | .ret,_,e,e',h,q => .inr ⟨_,_,_,_,rfl,rfl,q⟩
  | .region ops keep,hk,e,e',h,q => by
    simp only [Vx] at hk
    split at hk
    · rename_i M hM
      simp only [Zg]
      rcases cops_rel hc hG (D := D) ops F M e e' h hM q with ⟨h1,h2⟩ | ⟨e1,e1',h',h1,h2,q'⟩
      · rw [h1,h2]; exact .inl ⟨rfl,rfl⟩
      · rw [h1,h2]
        refine .inr ⟨_,_,_,_,rfl,rfl,⟨fun s => ?_⟩⟩
        rw [get_keep,get_keep]
        by_cases hs : s ∈ keep
        · rw [if_pos hs,if_pos hs]
          rcases q'.r s with g | ⟨g0,g1,g2⟩
          · exact .inl g
          · have := List.all_eq_true.1 hk s g0
            simp [hs] at this
            exact .inr ⟨this,g1,g2⟩
        · rw [if_neg hs,if_neg hs]; exact .inl rfl
    · cases hk
  | .seq a b,hk,e,e',h,q => by
    simp only [Vx,Bool.and_eq_true] at hk
    simp only [Zg]
    rcases Qy hc hG (D := D) (n := n) a hk.1 e e' h q with ⟨h1,h2⟩ | ⟨o,e1,e1',h',h1,h2,q'⟩
    · rw [h1,h2]; exact .inl ⟨rfl,rfl⟩
    · rw [h1,h2]
      cases o with
      | normal => exact Qy hc hG b hk.2 e1 e1' h' q'
      | exit i => exact .inr ⟨_,_,_,_,rfl,rfl,q'⟩
      | ret => exact .inr ⟨_,_,_,_,rfl,rfl,q'⟩
  | .cond c a b,hk,e,e',h,q => by
    simp only [Vx,Bool.and_eq_true] at hk
    simp only [Zg]
    have he : c.ev e' = c.ev e := Arg.ev_congr fun s hs => (q.r s).resolve_right fun g => by
      have := List.all_eq_true.1 hk.1 s hs
      simp [g.1] at this
    rw [he]
    split
    · exact Qy hc hG a hk.2.1 e e' h q
    · exact Qy hc hG b hk.2.2 e e' h q
    · exact .inl ⟨rfl,rfl⟩
  | .block id a,hk,e,e',h,q => by
    simp only [Vx] at hk
    simp only [Zg]
    rcases Qy hc hG (D := D) (n := n) a hk e e' h q with ⟨h1,h2⟩ | ⟨o,e1,e1',h',h1,h2,q'⟩
    · rw [h1,h2]; exact .inl ⟨rfl,rfl⟩
    · rw [h1,h2]
      cases o with
      | normal => exact .inr ⟨_,_,_,_,rfl,rfl,q'⟩
      | exit i =>
        simp only
        cases i.beq id with
        | true => exact .inr ⟨_,_,_,_,rfl,rfl,q'⟩
        | false => exact .inr ⟨_,_,_,_,rfl,rfl,q'⟩
      | ret => exact .inr ⟨_,_,_,_,rfl,rfl,q'⟩
  | .loop a,hk,e,e',h,q => by
    simp only [Vx] at hk
    simp only [Zg]
    exact citer_rel (fun e e' h q => Qy hc hG a hk e e' h q) n e e' h q
def resFree (F : List Nat) : List Res → Bool
  | [] => true
  | .t r :: rs => !(F.contains r) && resFree F rs
  | .c _ _ _ :: _ => false
theorem resFree_ok {F : List Nat} {e e' : Env} {h : Heap} (q : RelC K x y F e e') : ∀ (rs : List Res),resFree F rs = true → Uf e' h rs = Uf e h rs
  | [],_ => rfl
  | .t r :: rs,hr => by
    simp only [resFree,Bool.and_eq_true] at hr
    have hg : e'.get r = e.get r := (q.r r).resolve_right fun g => by have := hr.1; simp [g.1] at this
    simp only [Uf,Res.ev,hg,resFree_ok q rs hr.2]
  | .c _ _ _ :: _,hr => by cases hr
def cfns (K : IntKind) (Cs : List Int) (T : List (Nat × SFn)) (F : Nat → List Nat) (G : List Nat) : Bool := G.all fun f => (F f).contains 0 && match Vk T f with
  | some S => Vx K Cs G (F f) S.code && resFree (F f) S.res
  | none => false
theorem cfn_same (hc : ∀ n ∈ Cs,(x < n ↔ y < n) ∧ (x = n ↔ y = n)) {T : List (Nat × SFn)} {F : Nat → List Nat} (hF : cfns K Cs T F G = true) : ∀ (n : Nat),∀ f ∈ G,∀ h,Dfn T n f [.int K x] h = Dfn T n f [.int K y] h
  | 0,f,_,h => rfl
  | n + 1,f,hf,h => by
    have ih := cfn_same hc hF n
    unfold cfns at hF
    have h0 := List.all_eq_true.1 hF f hf
    rw [Bool.and_eq_true] at h0
    obtain ⟨h00,h1⟩ := h0
    simp only [Dfn]
    split at h1
    · rename_i S hS
      rw [hS]
      simp only [Bool.and_eq_true] at h1
      have q : RelC K x y (F f) (Vu 0 [.int K x]) (Vu 0 [.int K y]) := ⟨fun s => by
        by_cases hs : s = 0
        · subst hs; exact .inr ⟨by simpa using h00,rfl,rfl⟩
        · refine .inl ?_
          have e : Nat.beq 0 s = false := by rw [Wu]; simp [Ne.symm hs]
          simp [Vu,Env.get,e]⟩
      simp only [List.length_singleton]
      congr 1
      rcases Qy hc ih (n := n) S.code h1.1 _ _ h q with ⟨g1,g2⟩ | ⟨o,e1,e1',h',g1,g2,q'⟩
      · rw [g1,g2]
      · rw [g1,g2]
        cases o <;> simp only [resFree_ok q' S.res h1.2]
    · cases h1
end Go.Dx
