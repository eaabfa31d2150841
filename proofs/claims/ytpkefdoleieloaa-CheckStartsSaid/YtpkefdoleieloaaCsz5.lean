/- A deterministic reading of the model's code: each operation that is no call is what the model does. -/
import Derived.Test.YtpkefdoleieloaaCsz4
namespace Go.Dx
set_option linter.unusedVariables false
set_option linter.unusedSimpArgs false
structure Rel (E : Emb) (e : Env) (h : Heap) (a : Act) (w : World) (nt : Nat) : Prop where
  env : ∀ t v,e.get t = some v → ∃ v',a.tmps[t]? = some v' ∧ VR E v v'
  size : a.tmps.size = nt
  defers : a.defers = []
  wr : WR E h w
theorem Wx {E : Emb} {e : Env} {h : Heap} {a : Act} {w : World} {nt : Nat} (R : Rel E e h a w nt) {x : Operand} {X : Arg} {v : Value} (hc : Wv x = some X) (hv : X.ev e = some v) : VR E v (a.eval x) := by
  cases x with
  | tmp t =>
    simp only [Wv,Option.some.injEq] at hc
    subst hc
    obtain ⟨v',h1,h2⟩ := R.env t v hv
    simpa [Act.eval,h1] using h2
  | const u =>
    simp only [Wv] at hc
    cases hf : Yx 3 u with
    | false => rw [hf] at hc; simp at hc
    | true =>
      rw [hf] at hc; simp at hc; subst hc
      simp only [Arg.ev,Option.some.injEq] at hv
      subst hv
      exact Zx 3 u hf
  | global g => simp [Wv] at hc
  | func f =>
    simp only [Wv,Option.some.injEq] at hc
    subst hc
    simp only [Arg.ev,Option.some.injEq] at hv
    subst hv
    exact .fn _ [] [] [] [] .nil .nil
theorem args_ok {E : Emb} {e : Env} {h : Heap} {a : Act} {w : World} {nt : Nat} (R : Rel E e h a w nt) : ∀ {xs : List Operand} {Xs : List Arg} {vs : List Value},Yd xs = some Xs → evs e Xs = some vs → VRL E vs (xs.map a.eval)
  | [],_,_,hc,hv => by
    simp only [Yd,Option.some.injEq] at hc; subst hc
    simp only [evs,Option.some.injEq] at hv; subst hv
    exact .nil
  | x :: xs,_,_,hc,hv => by
    simp only [Yd] at hc
    cases h1 : Wv x with
    | none => rw [h1] at hc; simp at hc
    | some X =>
      cases h2 : Yd xs with
      | none => rw [h1,h2] at hc; simp at hc
      | some Xs =>
        rw [h1,h2] at hc; simp at hc; subst hc
        simp only [evs] at hv
        cases h3 : X.ev e with
        | none => rw [h3] at hv; simp at hv
        | some v =>
          cases h4 : evs e Xs with
          | none => rw [h3,h4] at hv; simp at hv
          | some vs =>
            rw [h3,h4] at hv; simp at hv; subst hv
            exact .cons _ _ _ _ (Wx R h1 h3) (args_ok R h2 h4)
def Did (E : Emb) (h : Heap) (w : World) (r : Result Next) (v : Value) (h' : Heap) : Prop :=
  ∃ v' E' w',(r = .ok (.value v') w' ∨ (r = .ok .skip w' ∧ v' = Go.undef)) ∧ VR E' v v' ∧ WR E' h' w' ∧ Stp E h w E' h' w'
theorem Did.quiet {E : Emb} {h : Heap} {w : World} {r : Result Next} {v v' : Value} (hw : WR E h w) (hr : r = .ok (.value v') w) (hv : VR E v v') : Did E h w r v h :=
  ⟨v',E,w,.inl hr,hv,hw,Stp.refl _ _ _⟩
/-! ### Numbers, texts, bools -/
theorem eqGuard_run {P : Program} {op : BinOp} {t : TypeId} {x y : Operand} {a b : Value} {w : World} (h1 : ∀ c,a ≠ .agg c) (h2 : a ≠ .nilIface) : (eqGuard op t x y a b).run P w = .ok () w := by
  unfold eqGuard
  cases a with
  | agg c => exact absurd rfl (h1 c)
  | nilIface => exact absurd rfl h2
  | _ => cases op <;> rfl
theorem intV_ok {P : Program} {k : IntKind} {a b : Int} {op : BinOp} {v : Value} {t : TypeId} {w : World} (h : intV k a b op = some v) : (binOp op t (.int k a) (.int k b)).run P w = .ok v w := by
  cases op <;> simp only [intV] at h <;> first
    | (cases h; done)
    | (simp only [Option.some.injEq] at h; subst h; simp [binOp,Op.intArith,Op.intBits,Op.intCmp]; done)
    | (split at h
       · cases h
       · rename_i hb; simp only [Option.some.injEq] at h; subst h; simp [binOp,Op.intDiv,hb])
theorem strV_ok {P : Program} {a b : ByteArray} {op : BinOp} {v : Value} {t : TypeId} {w : World} (h : strV a b op = some v) : (binOp op t (.string a) (.string b)).run P w = .ok v w := by
  cases op <;> simp only [strV] at h <;> first
    | (cases h; done)
    | (simp only [Option.some.injEq] at h; subst h; simp [binOp,Op.stringOp]; done)
    | (split at h
       · cases h
       · rename_i hb; simp only [Option.some.injEq] at h; subst h; simp [binOp,Op.stringOp]; omega)
theorem intV_int {k : IntKind} {a b : Int} {op : BinOp} {v : Value} {E : Emb} (h : intV k a b op = some v) : VR E v v := by
  cases op <;> simp only [intV] at h <;> first
    | (cases h; done)
    | (simp only [Option.some.injEq] at h; subst h; constructor; done)
    | (split at h
       · cases h
       · simp only [Option.some.injEq] at h; subst h; constructor)
theorem strV_str {a b : ByteArray} {op : BinOp} {v : Value} {E : Emb} (h : strV a b op = some v) : VR E v v := by
  cases op <;> simp only [strV] at h <;> first
    | (cases h; done)
    | (simp only [Option.some.injEq] at h; subst h; constructor; done)
    | (split at h
       · cases h
       · simp only [Option.some.injEq] at h; subst h; constructor)
theorem binV_ok {P : Program} {E : Emb} {op : BinOp} {x y x' y' v : Value} {t : TypeId} {w : World} (h : binV op x y = some v) (hx : VR E x x') (hy : VR E y y') :
    (binOp op t x' y').run P w = .ok v w ∧ VR E v v ∧ (∀ c,x' ≠ .agg c) ∧ x' ≠ .nilIface := by
  unfold binV at h
  split at h
  · cases hx; cases hy
    split at h
    · cases h
    · rename_i hb
      simp only [Option.some.injEq] at h; subst h
      refine ⟨?_,by constructor,by simp,by simp⟩
      simp [binOp,Op.shift,hb]
  · cases hx; cases hy
    split at h
    · cases h
    · rename_i hb
      simp only [Option.some.injEq] at h; subst h
      refine ⟨?_,by constructor,by simp,by simp⟩
      simp [binOp,Op.shift,hb]
  · cases hx; cases hy
    split at h
    · rename_i hk; subst hk
      exact ⟨intV_ok h,intV_int h,by simp,by simp⟩
    · cases h
  · cases hx; cases hy
    exact ⟨strV_ok h,strV_str h,by simp,by simp⟩
  · cases h
def EqK.fits : EqK → TypeDesc → Bool
  | .bool,.bool => true
  | .ptr,.pointer _ => true
  | .slice,.slice _ => true
  | .map,.map _ _ => true
  | .func,.func _ _ _ => true
  | _,_ => false
theorem equalIn_ok {P : Program} {E : Emb} {kd : EqK} {d : TypeDesc} (hf : kd.fits d = true) {t : TypeId} (ht : P.underlying t = some d) {x y x' y' : Value} {r : Bool} (h : eqV kd x y = some r) (hx : VR E x x') (hy : VR E y y') (n : Nat) (w : World) :
    (Op.equalIn (n + 1) t x' y').run P w = .ok r w := by
  rw [Op.equalIn]
  unfold eqV at h
  split at h <;> simp only [Option.some.injEq,reduceCtorEq] at h <;> subst h <;> cases hx <;> cases hy <;> cases d <;> simp [EqK.fits] at hf <;> simp [Wq ht]
theorem eqV_ok {P : Program} {E : Emb} {kd : EqK} {d : TypeDesc} (hf : kd.fits d = true) {t : TypeId} (ht : P.underlying t = some d) {x y x' y' : Value} {r : Bool} (h : eqV kd x y = some r) (hx : VR E x x') (hy : VR E y y') (w : World) :
    (binOp .eql t x' y').run P w = .ok (.bool r) w ∧ (binOp .neq t x' y').run P w = .ok (.bool (!r)) w ∧ (∀ c,x' ≠ .agg c) ∧ x' ≠ .nilIface := by
  have key : (Op.equal t x' y').run P w = .ok r w := equalIn_ok hf ht h hx hy 9999 w
  have e1 : binOp .eql t x' y' = (do pure (.bool (← Op.equal t x' y'))) ∧ binOp .neq t x' y' = (do pure (.bool (!(← Op.equal t x' y')))) := by
    unfold eqV at h
    split at h <;> simp only [Option.some.injEq,reduceCtorEq] at h <;> subst h <;> cases hx <;> cases hy <;> exact ⟨rfl,rfl⟩
  refine ⟨?_,?_,?_,?_⟩
  · rw [e1.1]; simp [key]
  · rw [e1.2]; simp [key]
  · unfold eqV at h
    split at h <;> simp only [Option.some.injEq,reduceCtorEq] at h <;> subst h <;> cases hx <;> simp
  · unfold eqV at h
    split at h <;> simp only [Option.some.injEq,reduceCtorEq] at h <;> subst h <;> cases hx <;> simp
theorem unV_ok {P : Program} {E : Emb} {op : UnOp} {x x' v : Value} {w : World} (h : unV op x = some v) (hx : VR E x x') : (Op.unary op x').run P w = .ok v w ∧ VR E v v := by
  unfold unV at h
  split at h <;> simp only [Option.some.injEq,reduceCtorEq] at h <;> subst h <;> cases hx <;> refine ⟨?_,by constructor⟩ <;> simp [Op.unary,Op.intArith,Op.intBits]
end Go.Dx
