/- A deterministic reading of the model's code: a call that only looks leaves the heap as it was. -/
import Derived.Test.YtpkefdoleieloaaCsz25
namespace Go.Dx
set_option linter.unusedVariables false
set_option linter.unusedSimpArgs false
mutual
theorem VR.back {E E' : Emb} (hx : ∀ id en,E id = some en → E' id = some en) : ∀ {v c0 c : Value},VR E v c0 → VR E' v c → VR E v c
  | _,_,_,.bool b,h => by cases h; exact .bool _
  | _,_,_,.int k n,h => by cases h; exact .int _ _
  | _,_,_,.str s,h => by cases h; exact .str _
  | _,_,_,.pnil,h => by cases h; exact .pnil
  | _,_,_,.ptr id off en h1 h2,h => by
    cases h with
    | ptr _ _ en' q1 q2 =>
      have := hx _ _ h1; rw [q1] at this; cases this
      exact .ptr _ _ _ h1 h2
  | _,_,_,.snil,h => by cases h; exact .snil
  | _,_,_,.sl id off len cap en a' cap' h1 h2 h3 h4 h5 h6,h => by
    cases h with
    | sl _ _ _ _ en' a2 cap2 q1 q2 q3 q4 q5 q6 =>
      have := hx _ _ h1; rw [q1] at this; cases this
      exact .sl _ _ _ _ _ _ _ h1 h2 q3 q4 q5 q6
  | _,_,_,.mnil,h => by cases h; exact .mnil
  | _,_,_,.mp id en h1 h2,h => by
    cases h with
    | mp _ en' q1 q2 =>
      have := hx _ _ h1; rw [q1] at this; cases this
      exact .mp _ _ h1 h2
  | _,_,_,.nilF,h => by cases h; exact .nilF
  | _,_,_,.nilI,h => by cases h; exact .nilI
  | _,_,_,.fn f a a' b b' h1 h2,h => by
    cases h with
    | fn _ _ _ _ _ q1 q2 => exact .fn _ _ _ _ _ (VRL.back hx h1 q1) (VRL.back hx h2 q2)
  | _,_,_,.agg a a' h1,h => by
    cases h with
    | agg _ _ q1 => exact .agg _ _ (VRL.back hx h1 q1)
  | _,_,_,.tup a a' h1,h => by
    cases h with
    | tup _ _ q1 => exact .tup _ _ (VRL.back hx h1 q1)
theorem VRL.back {E E' : Emb} (hx : ∀ id en,E id = some en → E' id = some en) : ∀ {l c0 c : List Value},VRL E l c0 → VRL E' l c → VRL E l c
  | _,_,_,.nil,h => by cases h; exact .nil
  | _,_,_,.cons v v' l l' h1 h2,h => by
    cases h with
    | cons _ _ _ _ q1 q2 => exact .cons _ _ _ _ (VR.back hx h1 q1) (VRL.back hx h2 q2)
end
theorem vfree_eq {E : Emb} : ∀ (n : Nat) (v v' : Value),Yx n v = true → VR E v v' → v' = v := by
  intro n
  induction n with
  | zero =>
    intro v v' h hv
    unfold Yx at h
    cases hv <;> first | rfl | (simp_all; done) | skip
    · rename_i f a a' b b' h1 h2
      have ha : a = [] ∧ b = [] := by
        split at h <;> simp_all
      obtain ⟨rfl,rfl⟩ := ha
      cases h1; cases h2; rfl
  | succ n ih =>
    have hl : ∀ (cs cs' : List Value),cs.all (Yx n) = true → VRL E cs cs' → cs' = cs := by
      intro cs
      induction cs with
      | nil => intro cs' _ h; cases h; rfl
      | cons c cs ih2 =>
        intro cs' h hr
        simp only [List.all_cons,Bool.and_eq_true] at h
        cases hr with
        | cons _ c' _ l' h1 h2 => rw [ih c c' h.1 h1,ih2 l' h.2 h2]
    intro v v' h hv
    unfold Yx at h
    cases hv <;> first | rfl | (simp_all; done) | skip
    · rename_i f a a' b b' h1 h2
      have ha : a = [] ∧ b = [] := by
        split at h <;> simp_all
      obtain ⟨rfl,rfl⟩ := ha
      cases h1; cases h2; rfl
    · rename_i a a' h1
      rw [hl a a' (by simpa using h) h1]
    · rename_i a a' h1
      rw [hl a a' (by simpa using h) h1]
section
variable {P : Program}
theorem Fn.anywhere {f : Nat} {args : List Value} {h : Heap} {Q : Value → Heap → Prop} {R : Value → Prop} (ha : args.all (Yx 3) = true) (hf : Fn P f args Heap.empty Q) (hQ : ∀ v h',Q v h' → Yx 3 v = true ∧ R v) : Fn P f args h fun v h' => R v ∧ h = h' := by
  refine ⟨hf.1,fun E w args' hw hargs => ?_⟩
  have hargs' : args' = args := by
    have : ∀ (l l' : List Value),l.all (Yx 3) = true → VRL E l l' → l' = l := by
      intro l
      induction l with
      | nil => intro l' _ q; cases q; rfl
      | cons c l ih =>
        intro l' q1 q2
        simp only [List.all_cons,Bool.and_eq_true] at q1
        cases q2 with
        | cons _ c' _ l2 r1 r2 => rw [vfree_eq 3 c c' q1.1 r1,ih l2 q1.2 r2]
    exact this _ _ ha hargs
  subst hargs'
  refine (hf.2 (fun _ => none) w args' (WR.empty w) (Zj 3 _ ha)).mono ?_
  rintro en w' ⟨v,h',E',v',q,rfl,hvr,hw',hs⟩
  obtain ⟨hv,hR⟩ := hQ v h' q
  have hv' := vfree_eq 3 v v' hv hvr
  subst hv'
  have hfr : ∀ b,b < w.heap.size → w'.heap[b]? = w.heap[b]? := fun b hb => hs.fr b hb fun ⟨_,_,_,q,_⟩ => by cases q
  have wr : WR E h w' := by
    refine ⟨fun id en o he hg => ?_,hw.inj,hw.dom⟩
    have h0 := hw.obj id en o he hg
    cases o with
    | cells vs esz ro =>
      obtain ⟨a1,a2,a3,a4,c0,el0,fr0,b1,b2⟩ := h0
      exact ⟨a1,a2,a3,a4,c0,el0,fr0,by rw [hfr _ (Array.getElem?_eq_some_iff.1 b1).1]; exact b1,b2⟩
    | map es =>
      obtain ⟨a1,a2,es0,k0,b1,b2⟩ := h0
      exact ⟨a1,a2,es0,k0,by rw [hfr _ (Array.getElem?_eq_some_iff.1 b1).1]; exact b1,b2⟩
  refine ⟨_,h,E,_,⟨hR,rfl⟩,rfl,Zx 3 _ hv,wr,?_⟩
  refine ⟨fun _ _ q => q,fun id _ q => ⟨q,rfl⟩,Nat.le_refl _,fun _ _ q => q,fun id o o' q1 q2 => ?_,fun b q => .inl q,hs.size,fun b hb _ => hfr b hb,hs.os,hs.tape,hs.output⟩
  rw [q1] at q2; cases q2; rfl
theorem Jp {d : Option Nat} {r : List SOp} {e : Env} {h : Heap} {Q : Env → Heap → Prop} {f : Arg} {as : List Arg} {k : Nat} {a b vs : List Value} {Qf : Value → Heap → Prop} (hf : f.ev e = some (.func (.func k) ⟨a⟩ ⟨b⟩)) (hv : evs e as = some vs) (hF : Fn P k (a ++ vs ++ b) h Qf) (hq : ∀ v h',Qf v h' → Xd P r (e.put d v) h' Q) :
    Xd P (⟨d,none,.callv f as⟩ :: r) e h Q := by
  unfold Xd
  simp only [SOp.wanted,SO.asCall,hf,hv]
  exact Fn.mono hF hq
/-! ### Numbers -/
theorem w64 {x : Int} (h : -9223372036854775808 ≤ x ∧ x ≤ 9223372036854775807) : IntKind.wrap .i64 x = x := by
  simp [IntKind.wrap,IntKind.signed,IntKind.bits]; omega
theorem Vu {x : Int} (h : 0 ≤ x ∧ x ≤ 18446744073709551615) : IntKind.wrap .u64 x = x := by
  simp [IntKind.wrap,IntKind.signed,IntKind.bits]; omega
theorem Zi {i : Nat} (h : i ≤ 1099511627776) : IntKind.wrap .i64 ((i : Int) + 1) = ((i + 1 : Nat) : Int) := by rw [w64 (by omega)]; rfl
end
end Go.Dx
