/- A deterministic reading of the model's code: contracts by hand: loops, steps. -/
import Derived.Test.YtpkefdoleieloaaCsz20
namespace Go.Dx
set_option linter.unusedVariables false
set_option linter.unusedSimpArgs false
section
variable {P : Program}
theorem Xd.mono : ∀ {l : List SOp} {e : Env} {h : Heap} {Q Q' : Env → Heap → Prop},Xd P l e h Q → (∀ e h,Q e h → Q' e h) → Xd P l e h Q'
  | [],e,h,Q,Q',hw,hq => hq _ _ hw
  | o :: r,e,h,Q,Q',hw,hq => by
    unfold Xd at hw ⊢
    generalize o.wanted e = wt at hw ⊢
    cases wt with
    | none => exact hw
    | some b =>
      cases b with
      | false => exact Xd.mono hw hq
      | true =>
        simp only at hw ⊢
        generalize o.op.asCall = ac at hw ⊢
        cases ac with
        | none =>
          simp only at hw ⊢
          generalize o.op.run e h = rr at hw ⊢
          cases rr with
          | none => exact hw
          | some vh => exact Xd.mono hw hq
        | some fa =>
          obtain ⟨F,As⟩ := fa
          simp only at hw ⊢
          generalize F.ev e = fv at hw ⊢
          generalize evs e As = av at hw ⊢
          split
          · rename_i f a b vs
            exact Fn.mono hw fun v h' q => Xd.mono q hq
          · rename_i hne
            split at hw
            · rename_i f a b vs; exact absurd rfl (hne _ _ _ _ rfl)
            · exact hw
def Post (Q : Out → Env → Heap → Prop) (N : Env → Heap → Prop) : Out → Env → Heap → Prop
  | .normal,e,h => N e h
  | .exit i,e,h => Q (.exit i) e h
  | .ret,e,h => Q .ret e h
theorem iter_more {R : Env → Heap → (Out → Env → Heap → Prop) → Prop} (hR : ∀ e h Q Q',R e h Q → (∀ o e h,Q o e h → Q' o e h) → R e h Q') {Q : Out → Env → Heap → Prop} :
    ∀ (n : Nat) (e : Env) (h : Heap),Ux R n e h Q → Ux R (n + 1) e h Q
  | 0,e,h,hi => hi.elim
  | n + 1,e,h,hi => by
    simp only [Ux] at hi
    show R e h fun o e' h' => match o with | .normal => Ux R (n + 1) e' h' Q | o => Q o e' h'
    refine hR _ _ _ _ hi ?_
    intro o e' h' q
    cases o with
    | normal => exact iter_more hR n e' h' q
    | exit i => exact q
    | ret => exact q
theorem iter_mono {R : Env → Heap → (Out → Env → Heap → Prop) → Prop} (hR : ∀ e h Q Q',R e h Q → (∀ o e h,Q o e h → Q' o e h) → R e h Q') {Q Q' : Out → Env → Heap → Prop} (hq : ∀ o e h,Q o e h → Q' o e h) :
    ∀ (n : Nat) (e : Env) (h : Heap),Ux R n e h Q → Ux R n e h Q'
  | 0,e,h,hi => hi.elim
  | n + 1,e,h,hi => by
    simp only [Ux] at hi ⊢
    refine hR _ _ _ _ hi ?_
    intro o e' h' q
    cases o with
    | normal => exact iter_mono hR hq n e' h' q
    | exit i => exact hq _ _ _ q
    | ret => exact hq _ _ _ q
theorem W.mono : ∀ {c : SCode} {e : Env} {h : Heap} {Q Q' : Out → Env → Heap → Prop},W P c e h Q → (∀ o e h,Q o e h → Q' o e h) → W P c e h Q'
  | .skip,e,h,Q,Q',hw,hq => hq _ _ _ hw
  | .region ops keep,e,h,Q,Q',hw,hq => Xd.mono hw fun e h q => hq _ _ _ q
  | .seq a b,e,h,Q,Q',hw,hq => by
    unfold W at hw ⊢
    refine W.mono hw ?_
    intro o e h q
    cases o with
    | normal => exact W.mono q hq
    | exit i => exact hq _ _ _ q
    | ret => exact hq _ _ _ q
  | .cond c a b,e,h,Q,Q',hw,hq => by
    unfold W at hw ⊢
    generalize c.ev e = cv at hw ⊢
    split at hw
    · exact ⟨fun q => W.mono (hw.1 q) hq,fun q => W.mono (hw.2 q) hq⟩
    · exact hw.elim
  | .block id c,e,h,Q,Q',hw,hq => by
    unfold W at hw ⊢
    refine W.mono hw ?_
    intro o e h q
    cases o with
    | normal => exact hq _ _ _ q
    | exit i =>
      simp only at q ⊢
      by_cases hi : i = id
      · rw [if_pos hi] at q ⊢; exact hq _ _ _ q
      · rw [if_neg hi] at q ⊢; exact hq _ _ _ q
    | ret => exact hq _ _ _ q
  | .loop c,e,h,Q,Q',hw,hq => by
    unfold W at hw ⊢
    obtain ⟨n,hn⟩ := hw
    exact ⟨n,iter_mono (R := W P c) (fun e h Q Q' q r => W.mono q r) hq n e h hn⟩
  | .exit id,e,h,Q,Q',hw,hq => hq _ _ _ hw
  | .ret,e,h,Q,Q',hw,hq => hq _ _ _ hw
theorem W_loop {c : SCode} {Q : Out → Env → Heap → Prop} (S : Nat → Env → Heap → Prop)
    (step : ∀ k e h,S k e h → W P c e h (Post Q fun e' h' => ∃ j,j < k ∧ S j e' h')) {k : Nat} {e : Env} {h : Heap} (h0 : S k e h) : W P (.loop c) e h Q := by
  have key : ∀ (m k : Nat) (e : Env) (h : Heap),k < m → S k e h → Ux (W P c) m e h Q := by
    intro m
    induction m with
    | zero => intro k e h hk; omega
    | succ m ih =>
      intro k e h hk hs
      simp only [Ux]
      refine W.mono (step k e h hs) ?_
      intro o e' h' q
      cases o with
      | normal => obtain ⟨j,hj,hs'⟩ := q; exact ih j e' h' (by omega) hs'
      | exit i => exact q
      | ret => exact q
  exact ⟨k + 1,key (k + 1) k e h (by omega) h0⟩
end
/-! ### Arguments without addresses; all of a few -/
section
variable {P : Program}
end
/-! ### Steps of a region, one at a time -/
section
variable {P : Program}
theorem Wa {d : Option Nat} {so : SO} {r : List SOp} {e : Env} {h h' : Heap} {v : Value} {Q : Env → Heap → Prop} (ha : so.asCall = none) (hr : so.run e h = some (v,h')) (hq : Xd P r (e.put d v) h' Q) : Xd P (⟨d,none,so⟩ :: r) e h Q := by
  unfold Xd
  simp only [SOp.wanted,ha,hr]
  exact hq
theorem Wb {d : Option Nat} {f : Nat} {as : List Arg} {vs : List Value} {r : List SOp} {e : Env} {h : Heap} {Q : Env → Heap → Prop} {Qf : Value → Heap → Prop} (hv : evs e as = some vs) (hf : Fn P f vs h Qf) (hq : ∀ v h',Qf v h' → Xd P r (e.put d v) h' Q) : Xd P (⟨d,none,.call f as⟩ :: r) e h Q := by
  unfold Xd
  simp only [SOp.wanted,SO.asCall,Arg.ev,hv]
  refine Fn.mono ?_ hq
  simpa using hf
end
end Go.Dx
