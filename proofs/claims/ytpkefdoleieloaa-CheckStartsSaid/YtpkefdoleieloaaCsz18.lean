/- A deterministic reading of the model's code: a run of it by numbers alone, and what it shows. -/
import Derived.Test.YtpkefdoleieloaaCsz17
import Derived.Below
import Derived.KernelRfl
namespace Go.Dx
set_option linter.unusedVariables false
set_option linter.unusedSimpArgs false
abbrev Ql := Nat → List Value → Heap → Option (Value × Heap)
def Dops (D : Ql) : List SOp → Env → Heap → Option (Env × Heap)
  | [],e,h => some (e,h)
  | o :: r,e,h => match o.wanted e with
    | none => none
    | some false => Dops D r (e.put o.dst Xl) h
    | some true => match o.op.asCall with
      | some (f,args) => match f.ev e,evs e args with
        | some (.func (.func f) ⟨a⟩ ⟨b⟩),some vs => match D f (a ++ vs ++ b) h with
          | some (v,h') => Dops D r (e.put o.dst v) h'
          | none => none
        | _,_ => none
      | none => match o.op.run e h with
        | some (v,h') => Dops D r (e.put o.dst v) h'
        | none => none
def Diter (R : Env → Heap → Option (Out × Env × Heap)) : Nat → Env → Heap → Option (Out × Env × Heap)
  | 0,_,_ => none
  | n + 1,e,h => match R e h with
    | some (.normal,e',h') => Diter R n e' h'
    | r => r
def Qm (D : Ql) (n : Nat) : SCode → Env → Heap → Option (Out × Env × Heap)
  | .skip,e,h => some (.normal,e,h)
  | .region ops keep,e,h => match Dops D ops e h with
    | some (e',h') => some (.normal,e'.keep keep,h')
    | none => none
  | .seq a b,e,h => match Qm D n a e h with
    | some (.normal,e',h') => Qm D n b e' h'
    | r => r
  | .cond c a b,e,h => match c.ev e with
    | some (.bool true) => Qm D n a e h
    | some (.bool false) => Qm D n b e h
    | _ => none
  | .block id c,e,h => match Qm D n c e h with
    | some (.exit i,e',h') => bif i.beq id then some (.normal,e',h') else some (.exit i,e',h')
    | r => r
  | .loop c,e,h => Diter (Qm D n c) n e h
  | .exit id,e,h => some (.exit id,e,h)
  | .ret,e,h => some (.ret,e,h)
def Dfn (T : List (Nat × SFn)) : Nat → Ql
  | 0 => fun _ _ _ => none
  | n + 1 => fun f args h => match Ve T f with
    | none => none
    | some F => bif args.length.ble F.nt then (match Qm (Dfn T n) n F.code (Up 0 args) h with
      | some (.exit _,_,_) => none
      | some (_,e',h') => match Un e' h' F.res with
        | some vs => some (Vv vs,h')
        | none => none
      | none => none) else none
section
variable {P : Program}
def RunOk (P : Program) (D : Ql) : Prop := ∀ f args h v h',D f args h = some (v,h') → Fn P f args h fun v1 h1 => v1 = v ∧ h1 = h'
theorem dops_ok {D : Ql} (hD : RunOk P D) : ∀ (l : List SOp) (e : Env) (h : Heap) (e' : Env) (h' : Heap) (Q : Env → Heap → Prop),Dops D l e h = some (e',h') → Q e' h' → Xd P l e h Q
  | [],e,h,e',h',Q,hr,hq => by simp only [Dops,Option.some.injEq,Prod.mk.injEq] at hr; obtain ⟨rfl,rfl⟩ := hr; exact hq
  | o :: r,e,h,e',h',Q,hr,hq => by
    unfold Dops at hr
    unfold Xd
    cases hw : o.wanted e with
    | none => rw [hw] at hr; cases hr
    | some b =>
      rw [hw] at hr
      cases b with
      | false => exact dops_ok hD r _ h e' h' Q hr hq
      | true =>
        simp only at hr ⊢
        cases hc : o.op.asCall with
        | none =>
          rw [hc] at hr
          simp only at hr ⊢
          cases hrun : o.op.run e h with
          | none => rw [hrun] at hr; cases hr
          | some vh => rw [hrun] at hr; exact dops_ok hD r _ _ e' h' Q hr hq
        | some fa =>
          obtain ⟨F,Args⟩ := fa
          rw [hc] at hr
          simp only at hr ⊢
          split at hr
          · rename_i f a b vs h1 h2
            rw [h1,h2]
            split at hr
            · rename_i v h2' hd
              refine (hD _ _ _ _ _ hd).mono ?_
              rintro v1 h1' ⟨rfl,rfl⟩
              exact dops_ok hD r _ _ e' h' Q hr hq
            · cases hr
          · cases hr
theorem Zt {D : Ql} (hD : RunOk P D) (n : Nat) : ∀ (c : SCode) (e : Env) (h : Heap) (o : Out) (e' : Env) (h' : Heap) (Q : Out → Env → Heap → Prop),Qm D n c e h = some (o,e',h') → Q o e' h' → W P c e h Q
  | .skip,e,h,o,e',h',Q,hr,hq => by simp only [Qm,Option.some.injEq,Prod.mk.injEq] at hr; obtain ⟨rfl,rfl,rfl⟩ := hr; exact hq
  | .region ops keep,e,h,o,e',h',Q,hr,hq => by
    simp only [Qm] at hr
    split at hr
    · rename_i e1 h1 hd
      simp only [Option.some.injEq,Prod.mk.injEq] at hr
      obtain ⟨rfl,rfl,rfl⟩ := hr
      exact dops_ok hD ops e h e1 _ _ hd hq
    · cases hr
  | .seq a b,e,h,o,e',h',Q,hr,hq => by
    simp only [Qm] at hr
    split at hr
    · rename_i e1 h1 hd
      exact Zt hD n a e h _ e1 h1 _ hd (Zt hD n b e1 h1 o e' h' Q hr hq)
    · rename_i r hne
      refine Zt hD n a e h o e' h' _ hr ?_
      cases o with
      | normal => exact absurd hr (hne e' h')
      | exit i => exact hq
      | ret => exact hq
  | .cond c a b,e,h,o,e',h',Q,hr,hq => by
    simp only [Qm] at hr
    unfold W
    split at hr
    · rename_i hc
      rw [hc]
      exact ⟨fun _ => Zt hD n a e h o e' h' Q hr hq,fun q => by cases q⟩
    · rename_i hc
      rw [hc]
      exact ⟨fun q => (by cases q),fun _ => Zt hD n b e h o e' h' Q hr hq⟩
    · cases hr
  | .block id c,e,h,o,e',h',Q,hr,hq => by
    simp only [Qm] at hr
    split at hr
    · rename_i i e1 h1 hd
      refine Zt hD n c e h _ e1 h1 _ hd ?_
      simp only
      by_cases hi : i = id
      · have : i.beq id = true := by rw [Ww]; simp [hi]
        rw [this] at hr
        simp only [cond_true,Option.some.injEq,Prod.mk.injEq] at hr
        obtain ⟨rfl,rfl,rfl⟩ := hr
        rw [if_pos hi]; exact hq
      · have : i.beq id = false := by rw [Ww]; simp [hi]
        rw [this] at hr
        simp only [cond_false,Option.some.injEq,Prod.mk.injEq] at hr
        obtain ⟨rfl,rfl,rfl⟩ := hr
        rw [if_neg hi]; exact hq
    · rename_i r hne
      refine Zt hD n c e h o e' h' _ hr ?_
      cases o with
      | exit i => exact absurd hr (hne i e' h')
      | normal => exact hq
      | ret => exact hq
  | .loop c,e,h,o,e',h',Q,hr,hq => by
    simp only [Qm] at hr
    refine ⟨n,?_⟩
    have key : ∀ (m : Nat) (e : Env) (h : Heap),Diter (Qm D n c) m e h = some (o,e',h') → Ux (W P c) m e h Q := by
      intro m
      induction m with
      | zero => intro e h hd; simp [Diter] at hd
      | succ m ih =>
        intro e h hd
        simp only [Diter] at hd
        simp only [Ux]
        split at hd
        · rename_i e1 h1 hd1
          exact Zt hD n c e h _ e1 h1 _ hd1 (ih e1 h1 hd)
        · rename_i r hne
          refine Zt hD n c e h o e' h' _ hd ?_
          cases o with
          | normal => exact absurd hd (hne e' h')
          | exit i => exact hq
          | ret => exact hq
    exact key n e h hr
  | .exit id,e,h,o,e',h',Q,hr,hq => by simp only [Qm,Option.some.injEq,Prod.mk.injEq] at hr; obtain ⟨rfl,rfl,rfl⟩ := hr; exact hq
  | .ret,e,h,o,e',h',Q,hr,hq => by simp only [Qm,Option.some.injEq,Prod.mk.injEq] at hr; obtain ⟨rfl,rfl,rfl⟩ := hr; exact hq
theorem dfn_ok {T : List (Nat × SFn)} (hT : ∀ f F,Ve T f = some F → FOk P f F) : ∀ n,RunOk P (Dfn T n)
  | 0 => fun f args h v h' hr => by simp [Dfn] at hr
  | n + 1 => fun f args h v h' hr => by
    simp only [Dfn] at hr
    split at hr
    · cases hr
    · rename_i F hF
      cases hle : args.length.ble F.nt with
      | false => rw [hle] at hr; simp at hr
      | true =>
        rw [hle] at hr
        simp only [cond_true] at hr
        refine fn_of_body (hT f F hF) (Nat.le_of_ble_eq_true hle) ?_
        split at hr
        · cases hr
        · rename_i o e' h2 hne hd
          unfold Body
          refine Zt (dfn_ok hT n) n F.code _ h o e' h2 _ hd ?_
          split at hr
          · rename_i vs hvs
            simp only [Option.some.injEq,Prod.mk.injEq] at hr
            obtain ⟨rfl,rfl⟩ := hr
            cases o with
            | exit i => exact absurd rfl (hne i)
            | normal => simp only [hvs]; exact ⟨trivial,trivial⟩
            | ret => simp only [hvs]; exact ⟨trivial,trivial⟩
          · cases hr
        · cases hr
def Heap.empty : Heap := ⟨fun _ => none,0,.nil,0⟩
theorem WR.empty (w : World) : WR (fun _ => none) Heap.empty w :=
  ⟨fun _ _ _ h => (by cases h),fun _ _ _ _ _ _ _ h => (by cases h),fun _ _ h => (by cases h)⟩
theorem Stp.below {E E' : Emb} {h h' : Heap} {w w' : World} (hs : Stp E h w E' h' w') (hn : ∀ b,¬ Own E h b) : Go.RowKit.Below w.heap.size w w' :=
  ⟨hs.os,hs.tape,hs.output,hs.size,fun k hk => hs.fr k hk (hn k)⟩
end
end Go.Dx
