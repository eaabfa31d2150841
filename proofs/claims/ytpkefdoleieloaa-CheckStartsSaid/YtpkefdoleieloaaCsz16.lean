/- A deterministic reading of the model's code: a region that draws its order, the end; the whole code. -/
import Derived.Test.YtpkefdoleieloaaCsz15
namespace Go.Dx
set_option linter.unusedVariables false
set_option linter.unusedSimpArgs false
section
variable {P : Program} {nt : Nat} {ops : Array Oper} {anc : Nat → List Nat}
variable {e0 : Env} {E0 : Emb} {h0 : Heap} {w0 : World} {pre : List Nat} {S : Nat → Prop} {e : Env} {h : Heap} {E : Emb} {a : Act} {w : World} {vals : Nat → Value} {envs : Nat → Env} {ids : Nat → Nat} {mkd : Nat → Bool}
theorem Inv.exec (I : Inv P nt ops anc e0 E0 h0 w0 pre S e h E a w vals envs ids mkd) {QQ : Exit → Act → World → Prop} {K : Act → World → Prop} {j : Nat} (hj : j ∈ pre) (hnS : ¬ S j)
    (hr : ∀ o,ops[j]? = some o → ∀ n ∈ Vy o,S n)
    (hK : ∀ E1 a1 w1,Inv P nt ops anc e0 E0 h0 w0 pre (fun k => S k ∨ k = j) e h E1 a1 w1 vals envs ids mkd → K a1 w1) : wpOp P ops QQ j K a w := by
  obtain ⟨o,s0,ho,hs0,hcomp,hneeds⟩ := I.good.so j hj
  obtain ⟨s,hs,hrec⟩ := I.late j hj hnS
  rw [hs0] at hs; cases hs
  have hs := hs0
  obtain ⟨hop,hdst,hlt⟩ := Qg hcomp
  have hanc := I.good.ancs (S := S) (fun k o' hk ho' => I.closed k o' hk ho') j hj hr
  -- the operands lie there
  have hopnd : ∀ t ∈ s0.reads,∀ v,(envs j).get t = some v → ∃ v',a.tmps[t]? = some v' ∧ VR E v v' := by
    intro t ht v hv
    rcases I.r3 j hj t (by rw [Vj hs]; exact ht) with ⟨k,k1,k2,k3,k4⟩ | ⟨k1,k2⟩
    · rw [k4] at hv; cases hv
      exact I.t1 k (hanc k k2) t k3
    · refine I.t2 t (fun k hk hd => ?_) v (by rw [← k2]; exact hv)
      rcases k1 k (I.sub k hk) hd with q | q
      · subst q; exact hnS hk
      · refine hnS (I.good.ancs (S := S) (fun k o' hk ho' => I.closed k o' hk ho') k (I.sub k hk) (fun o' ho' => I.closed k o' hk ho') j q)
  have R : Rel E ((envs j).keep s0.reads) h a w nt := ⟨fun t v hv => hopnd t (Ku _ _ _ _ hv) v (Env.get_keep _ _ _ _ hv),I.size,I.defers,I.wr⟩
  have hkg : ∀ t ∈ s0.reads,((envs j).keep s0.reads).get t = (envs j).get t := fun t q => Env.keep_get _ _ _ q
  have hkt : ∀ t ∈ s0.op.tmps,((envs j).keep s0.reads).get t = (envs j).get t := fun t q => hkg t (List.mem_append.2 (.inl q))
  have hdlt : ∀ k,o.dst = some k → k < a.tmps.size := fun k q => by rw [I.size]; exact hlt k q
  -- the new state
  have fin : ∀ (v' : Value) (E1 : Emb) (w1 : World),VR E1 (vals j) v' → WR E1 h w1 → Stp E0 h0 w0 E1 h w1 → (∀ i x,E i = some x → E1 i = some x) →
      (∀ k ∈ pre,¬ S k → k ≠ j → mkd k = true → E (ids k) = none → E1 (ids k) = none) → K (a.put o.dst v') w1 := by
    intro v' E1 w1 hv hw1 hst hext hid
    refine hK E1 _ w1 ⟨I.good,?_,?_,I.r1,I.r2,I.r3,?_,?_,?_,I.inj,I.bnd,hw1,hst,?_,?_⟩
    · intro k hk
      rcases hk with q | q
      · exact I.sub k q
      · subst q; exact hj
    · intro k o' hk ho' n hn
      rcases hk with q | q
      · exact .inl (I.closed k o' q ho' n hn)
      · subst q; exact .inl (hr o' ho' n hn)
    · intro k hk t ht
      rw [Vw hdlt]
      by_cases hkj : k = j
      · subst hkj
        rw [Yl hs,hdst] at ht
        rw [if_pos ht]; exact ⟨v',rfl,hv⟩
      · have hSk : S k := by rcases hk with q | q; exact q; exact absurd q hkj
        have : o.dst ≠ some t := fun z => hkj (I.good.dst k (I.sub k hSk) j hj t ht (by rw [Yl hs,hdst]; exact z))
        rw [if_neg this]
        obtain ⟨u,h1,h2⟩ := I.t1 k hSk t ht
        exact ⟨u,h1,h2.mono hext⟩
    · intro t ht v hv2
      rw [Vw hdlt]
      have : o.dst ≠ some t := fun z => ht j (.inr rfl) (by rw [Yl hs,hdst]; exact z)
      rw [if_neg this]
      obtain ⟨u,h1,h2⟩ := I.t2 t (fun k hk => ht k (.inl hk)) v hv2
      exact ⟨u,h1,h2.mono hext⟩
    · intro k hk hnk
      have hnk2 : ¬ S k := fun q => hnk (.inl q)
      have hkj : k ≠ j := fun q => hnk (.inr q)
      obtain ⟨s2,g1,g2⟩ := I.late k hk hnk2
      refine ⟨s2,g1,?_⟩
      rcases g2 with g2 | ⟨g2,g3⟩
      · exact .inl g2
      · refine .inr ⟨g2,?_⟩
        rcases g3 with g3 | g3 | ⟨c1,c2,ob,mk,c3,c4,c5,c6,c7⟩
        · exact .inl g3
        · exact .inr (.inl g3)
        · exact .inr (.inr ⟨c1,c2,ob,mk,c3,c4,hid k hk hnk2 hkj c2 c5,c6,c7⟩)
    · cases o.dst <;> simp [Act.put,I.size]
    · cases o.dst <;> exact I.defers
  have hstp : ∀ (E1 : Emb) (w1 : World),Stp E h w E1 h w1 → ∀ k ∈ pre,¬ S k → k ≠ j → mkd k = true → E (ids k) = none → E1 (ids k) = none :=
    fun E1 w1 hs1 k hk _ _ hm hn => (hs1.out _ (I.bnd k hk hm) hn).1
  unfold wpOp
  rw [ho]
  simp only
  rcases hrec with ⟨c1,c2⟩ | ⟨c1,c2⟩
  · have hwt := Ue R hcomp (b := false) (by rw [Qy hkg]; exact c1)
    rw [hwt]
    simp only [Bool.false_eq_true,if_false]
    exact fin Go.undef E w (by rw [c2]; exact VR.undef) I.wr I.stp (fun _ _ q => q) (fun k _ _ _ _ q => q)
  · have hwt := Ue R hcomp (b := true) (by rw [Qy hkg]; exact c1)
    rw [hwt]
    simp only [if_true]
    left
    have viaExec : s0.op.asCall = none → s0.op.run (envs j) h = some (vals j,h) → o.wp P a w K QQ := by
      intro hna hrun
      rw [← Uu hkt] at hrun
      obtain ⟨v',E1,w1,hrr,hv,hw1,hs1⟩ := exec_ok R hop hna hrun
      unfold Oper.wp
      rcases hrr with hrr | ⟨hrr,rfl⟩
      · rw [hrr]; simp only [Oper.upon]; exact fin v' E1 w1 hv hw1 (I.stp.trans hs1) hs1.ext (hstp E1 w1 hs1)
      · rw [hrr]; simp only [Oper.upon]; exact fin _ E1 w1 hv hw1 (I.stp.trans hs1) hs1.ext (hstp E1 w1 hs1)
    rcases c2 with ⟨k1,k2⟩ | ⟨k1,k2⟩ | ⟨k1,km,ob,mk,k3,k4,k5,k6,k7⟩
    · exact viaExec (Kd (.inl k1)) k2
    · exact viaExec (Kd (.inr (.inl k1))) k2
    · have hrun := k3 h
      rw [← Uu hkt] at hrun
      obtain ⟨w1,cob,en,v',ob2,mk2,e1,e2,hrr,hg,hen,hall⟩ := make_ok R hop k1 hrun
      have hmk : mk = mk2 := MkS.inj e2
      have hob : ob = ob2 := by
        have q : (h.add ob).get h.next = (h.add ob2).get h.next := by rw [e1]
        rw [Heap.get_add,Heap.get_add,if_pos rfl,if_pos rfl] at q
        cases q; rfl
      subst hmk; subst hob
      have hext : ∀ i x,E i = some x → E.more (ids j) en i = some x := fun i x q => by
        rw [Emb.more_ne _ _ (fun z => by subst z; rw [k5] at q; cases q)]; exact q
      obtain ⟨a1,a2⟩ := hall (E.more (ids j) en) hext
      unfold Oper.wp
      rw [hrr]
      simp only [Oper.upon]
      refine fin v' (E.more (ids j) en) w1 ?_ (I.wr.adopt hg hen k4 k5 a1) (I.stp.adopt hg hen k5 k6) hext ?_
      · rw [k7]; exact a2 _ (Emb.more_same _ _ _)
      · intro k hk hnk hkj hm hn
        rw [Emb.more_ne _ _ (fun q => hkj (I.inj k hk j hj hm km q))]; exact hn
theorem chk_one {e1 : Env} {h1 : Heap} {sr s : SOp} (hch : chkOf sr = some s) : s.dst = none ∧ s.guard = sr.guard ∧ s.op.asCall = none ∧ ∃ t,sr.dst = some t ∧ ∀ v h2,s.op.run e1 h1 = some (v,h2) → h2 = h1 ∧ ∃ u,e1.get t = some u ∧ sr.op.run e1 h1 = some (u,h1) := by
  unfold chkOf at hch
  split at hch
  · rename_i t g n ag ad
    cases hch
    refine ⟨rfl,rfl,rfl,t,rfl,fun v h2 hq => ?_⟩
    simp only [SO.run] at hq ⊢
    split at hq
    · rename_i p u hp hu
      split at hq
      · rename_i u2 hu2
        cases hsv : Yq u2 u with
        | false => rw [hsv] at hq; simp at hq
        | true =>
          rw [hsv] at hq
          simp only [cond_true,Option.some.injEq,Prod.mk.injEq] at hq
          obtain ⟨rfl,rfl⟩ := hq
          have := Vx hsv
          subst this
          exact ⟨rfl,_,hu,by rw [hp]; simp [hu2]⟩
      · cases hq
    · cases hq
  · rename_i t g size x lo hi m
    cases hch
    refine ⟨rfl,rfl,rfl,t,rfl,fun v h2 hq => ?_⟩
    simp only [SO.run] at hq ⊢
    split at hq
    · rename_i sv lov hiv mv u q1 q2 q3 q4 q5
      split at hq
      · rename_i u2 hu2
        cases hsv : Yq u2 u with
        | false => rw [hsv] at hq; simp at hq
        | true =>
          rw [hsv] at hq
          simp only [cond_true,Option.some.injEq,Prod.mk.injEq] at hq
          obtain ⟨rfl,rfl⟩ := hq
          have := Vx hsv
          subst this
          exact ⟨rfl,_,q5,by rw [q1,q2,q3,q4]; simp [hu2]⟩
      · cases hq
    · cases hq
  · rename_i t g x
    cases hch
    refine ⟨rfl,rfl,rfl,t,rfl,fun v h2 hq => ?_⟩
    simp only [SO.run] at hq ⊢
    split at hq
    · rename_i n c u q1 q2
      cases hsv : Yq (.string .empty) u with
      | false => rw [hsv] at hq; simp at hq
      | true =>
        rw [hsv] at hq
        simp only [cond_true,Option.some.injEq,Prod.mk.injEq] at hq
        obtain ⟨rfl,rfl⟩ := hq
        have := Vx hsv
        subst this
        exact ⟨rfl,_,q2,by rw [q1]⟩
    · rename_i id off len c u q1 q2
      cases hb : len.beq 0 with
      | true =>
        rw [hb] at hq
        simp only [cond_true] at hq
        cases hsv : Yq (.string .empty) u with
        | false => rw [hsv] at hq; simp at hq
        | true =>
          rw [hsv] at hq
          simp only [cond_true,Option.some.injEq,Prod.mk.injEq] at hq
          obtain ⟨rfl,rfl⟩ := hq
          have := Vx hsv
          subst this
          exact ⟨rfl,_,q2,by rw [q1]; simp [hb]⟩
      | false =>
        rw [hb] at hq
        simp only [cond_false] at hq
        split at hq
        · rename_i l hl
          split at hq
          · rename_i bs hbs
            cases hsv : Yq (.string ⟨⟨bs⟩⟩) u with
            | false => rw [hsv] at hq; simp at hq
            | true =>
              rw [hsv] at hq
              simp only [cond_true,Option.some.injEq,Prod.mk.injEq] at hq
              obtain ⟨rfl,rfl⟩ := hq
              have := Vx hsv
              subst this
              exact ⟨rfl,_,q2,by rw [q1]; simp [hb,hl,hbs]⟩
          · cases hq
        · cases hq
    · cases hq
  · cases hch
theorem chks_ok {Q : Env → Heap → Prop} {e1 : Env} {h1 : Heap} : ∀ (cs : List Nat) (c l : List SOp),Qh P nt ops cs = some c → Xd P (c ++ l) e1 h1 Q →
    Xd P l e1 h1 Q ∧ ∀ r ∈ cs,∃ sr t,Vk P nt ops r = some sr ∧ sr.dst = some t ∧ (sr.wanted e1 = some true → ∃ v,e1.get t = some v ∧ sr.op.run e1 h1 = some (v,h1))
  | [],c,l,hc,hw => by
    simp only [Qh,Option.some.injEq] at hc; subst hc
    exact ⟨hw,fun r q => by cases q⟩
  | r :: cs,c,l,hc,hw => by
    simp only [Qh] at hc
    cases h2 : (Vk P nt ops r).bind chkOf with
    | none => rw [h2] at hc; simp at hc
    | some s =>
      cases h3 : Qh P nt ops cs with
      | none => rw [h2,h3] at hc; simp at hc
      | some c2 =>
        rw [h2,h3] at hc; simp at hc; subst hc
        obtain ⟨sr,hsr,hch⟩ := Option.bind_eq_some_iff.1 h2
        obtain ⟨k1,k2,k3,t,k4,k5⟩ := chk_one (e1 := e1) (h1 := h1) hch
        simp only [List.cons_append] at hw
        unfold Xd at hw
        have hwd : s.wanted e1 = sr.wanted e1 := by unfold SOp.wanted; rw [k2]
        rw [hwd] at hw
        cases hwt : sr.wanted e1 with
        | none => rw [hwt] at hw; exact hw.elim
        | some b =>
          rw [hwt] at hw
          have rest : Xd P (c2 ++ l) e1 h1 Q ∧ (b = true → ∃ v,e1.get t = some v ∧ sr.op.run e1 h1 = some (v,h1)) := by
            cases b with
            | false => rw [k1] at hw; exact ⟨hw,fun q => by cases q⟩
            | true =>
              simp only [k3,k1] at hw
              split at hw
              · rename_i v h2' hq
                obtain ⟨rfl,q⟩ := k5 v h2' hq
                exact ⟨hw,fun _ => q⟩
              · exact hw.elim
          obtain ⟨q1,q2⟩ := chks_ok cs c2 l h3 rest.1
          refine ⟨q1,fun r' hr' => ?_⟩
          rcases List.mem_cons.1 hr' with q | q
          · subst q
            exact ⟨sr,t,hsr,k4,fun hh => rest.2 (by rw [hwt] at hh; cases hh; rfl)⟩
          · exact q2 r' q
theorem Inv.acts (I : Inv P nt ops anc e0 E0 h0 w0 pre S e h E a w vals envs ids mkd) {QQ : Exit → Act → World → Prop} {K : Act → World → Prop} {Q : Env → Heap → Prop} {j : Nat} {cs : List Nat} {s : SOp} {c l : List SOp} (st : StepP P nt ops anc pre j cs)
    (hs : Vk P nt ops j = some s) (hact : Jn P nt ops j = .act) (hc : Qh P nt ops cs = some c) (hw : Xd P (s :: (c ++ l)) e h Q)
    (hr : ∀ o,ops[j]? = some o → ∀ n ∈ Vy o,S n)
    (hK : ∀ e1 h1 E1 a1 w1 vals1 envs1 ids1 mkd1,Inv P nt ops anc e0 E0 h0 w0 (pre ++ [j]) (fun k => S k ∨ k = j) e1 h1 E1 a1 w1 vals1 envs1 ids1 mkd1 → Xd P l e1 h1 Q → K a1 w1) : wpOp P ops QQ j K a w := by
  obtain ⟨o,s0,ho,hs0,hcomp,hneeds,hancs⟩ := st.so
  rw [hs] at hs0; cases hs0
  obtain ⟨hop,hdst,hlt⟩ := Qg hcomp
  have good1 : Good P nt ops anc (pre ++ [j]) := .snoc pre j cs I.good st
  have hnj : ¬ S j := fun q => st.fresh (I.sub j q)
  have hanc := good1.ancs (S := S) (fun k o' hk ho' => I.closed k o' hk ho') j (by simp) hr
  have hne : ∀ k ∈ pre,k ≠ j := fun k hk q => st.fresh (q ▸ hk)
  have hmem : ∀ k,k ∈ pre ++ [j] ↔ k ∈ pre ∨ k = j := fun k => by simp
  have hopnd : ∀ t ∈ s.reads,∀ v,e.get t = some v → ∃ v',a.tmps[t]? = some v' ∧ VR E v v' := by
    intro t ht v hv
    by_cases hx : ∃ k ∈ pre,Zb P nt ops k = some t
    · obtain ⟨k,k1,k2⟩ := hx
      have hk := st.raw k k1 t k2 (by rw [Vj hs]; exact ht)
      rw [I.r1 k k1 t k2] at hv; cases hv
      exact I.t1 k (hanc k hk) t k2
    · rw [I.r2 t (fun k hk hd => hx ⟨k,hk,hd⟩)] at hv
      exact I.t2 t (fun k hk hd => hx ⟨k,I.sub k hk,hd⟩) v hv
  have R : Rel E (e.keep s.reads) h a w nt := ⟨fun t v hv => hopnd t (Ku _ _ _ _ hv) v (Env.get_keep _ _ _ _ hv),I.size,I.defers,I.wr⟩
  have hdlt : ∀ k,o.dst = some k → k < a.tmps.size := fun k q => by rw [I.size]; exact hlt k q
  refine one_core ho hcomp (Wops_keep hw) R ?_
  intro v v' E1 h1 w1 hq hv hw1 hs1
  obtain ⟨v2,hv2,hrest⟩ := hq
  have hdv : ∀ t,s.dst = some t → v2 = v := by
    intro t ht
    rw [ht] at hv2
    simp only [Env.put,List.cons.injEq,Prod.mk.injEq,true_and] at hv2
    exact hv2.1.symm
  obtain ⟨hl,hchk⟩ := chks_ok cs c l hc hrest
  have hput : ∀ t,s.dst ≠ some t → (e.put s.dst v2).get t = e.get t := fun t q => by rw [Env.get_put,if_neg q]
  refine hK (e.put s.dst v2) h1 E1 _ w1 (fun k => if k = j then v2 else vals k) (fun k => if k = j then e else envs k) ids (fun k => if k = j then false else mkd k) ?_ hl
  refine ⟨good1,?_,?_,?_,?_,?_,?_,?_,?_,?_,?_,hw1,I.stp.trans hs1,?_,?_⟩
  · intro k hk
    rcases hk with q | q
    · exact (hmem k).2 (.inl (I.sub k q))
    · exact (hmem k).2 (.inr q)
  · intro k o' hk ho' n hn
    rcases hk with q | q
    · exact .inl (I.closed k o' q ho' n hn)
    · subst q; exact .inl (hr o' ho' n hn)
  · intro k hk t ht
    rcases (hmem k).1 hk with q | q
    · have : s.dst ≠ some t := fun z => st.dst t (by rw [Yl hs]; exact z) k q ht
      rw [hput t this,if_neg (hne k q)]; exact I.r1 k q t ht
    · subst q
      rw [Yl hs] at ht
      rw [Env.get_put,if_pos ht,if_pos rfl]
  · intro t ht
    rw [hput t (fun z => ht j ((hmem j).2 (.inr rfl)) (by rw [Yl hs]; exact z))]
    exact I.r2 t fun k hk => ht k ((hmem k).2 (.inl hk))
  · intro k hk t ht
    rcases (hmem k).1 hk with q | q
    · simp only [if_neg (hne k q)]
      rcases I.r3 k q t ht with ⟨m,m1,m2,m3,m4⟩ | ⟨m1,m2⟩
      · exact .inl ⟨m,(hmem m).2 (.inl m1),m2,m3,by rw [if_neg (hne m m1)]; exact m4⟩
      · refine .inr ⟨fun m hm hd => ?_,m2⟩
        rcases (hmem m).1 hm with r | r
        · exact m1 m r hd
        · subst r; exact .inr (st.war t hd k q ht)
    · subst q
      simp only [if_true]
      by_cases hx : ∃ m ∈ pre,Zb P nt ops m = some t
      · obtain ⟨m,m1,m2⟩ := hx
        exact .inl ⟨m,(hmem m).2 (.inl m1),st.raw m m1 t m2 ht,m2,by rw [if_neg (hne m m1)]; exact I.r1 m m1 t m2⟩
      · refine .inr ⟨fun m hm hd => ?_,I.r2 t fun m hm hd => hx ⟨m,hm,hd⟩⟩
        rcases (hmem m).1 hm with r | r
        · exact absurd ⟨m,r,hd⟩ hx
        · exact .inl r
  · intro k hk t ht
    rw [Vw hdlt]
    by_cases hkj : k = j
    · subst hkj
      rw [Yl hs] at ht
      rw [← hdst,if_pos ht,if_pos rfl,hdv t ht]
      exact ⟨v',rfl,hv⟩
    · have hSk : S k := by rcases hk with q | q; exact q; exact absurd q hkj
      have : o.dst ≠ some t := fun z => st.dst t (by rw [Yl hs,hdst]; exact z) k (I.sub k hSk) ht
      rw [if_neg this,if_neg hkj]
      obtain ⟨u,g1,g2⟩ := I.t1 k hSk t ht
      exact ⟨u,g1,g2.mono hs1.ext⟩
  · intro t ht v3 hv3
    rw [Vw hdlt]
    have : o.dst ≠ some t := fun z => ht j (.inr rfl) (by rw [Yl hs,hdst]; exact z)
    rw [if_neg this]
    obtain ⟨u,g1,g2⟩ := I.t2 t (fun k hk => ht k (.inl hk)) v3 hv3
    exact ⟨u,g1,g2.mono hs1.ext⟩
  · -- late
    intro k hk hnk
    have hnk2 : ¬ S k := fun q => hnk (.inl q)
    have hkj : k ≠ j := fun q => hnk (.inr q)
    have hkp : k ∈ pre := by rcases (hmem k).1 hk with q | q; exact q; exact absurd q hkj
    simp only [if_neg hkj]
    obtain ⟨s2,g1,g2⟩ := I.late k hkp hnk2
    refine ⟨s2,g1,?_⟩
    rcases g2 with g2 | ⟨g2,g3⟩
    · exact .inl g2
    · refine .inr ⟨g2,?_⟩
      rcases g3 with ⟨c1,c2⟩ | ⟨c1,c2⟩ | ⟨c1,c2,ob,mk,c3,c4,c5,c6,c7⟩
      · exact .inl ⟨c1,(run_pure c1 c2).2 _⟩
      · -- what was read is read again
        refine .inr (.inl ⟨c1,?_⟩)
        rcases st.rd hact k hkp (by rw [soAt_cls g1]; exact c1) with q | q
        · exact absurd (hanc k q) hnk2
        · obtain ⟨sr,t,f1,f0,f2⟩ := hchk k q
          rw [g1] at f1; cases f1
          have same : ∀ u ∈ s2.reads,(e.put s.dst v2).get u = (envs k).get u := by
            intro u hu
            obtain ⟨x1,x2⟩ := (st.chk hact k q).2 u (by rw [Vj g1]; exact hu)
            rw [hput u (fun z => x2 (by rw [Yl hs]; exact z))]
            rcases I.r3 k hkp u (by rw [Vj g1]; exact hu) with ⟨m,m1,m2,m3,m4⟩ | ⟨m1,m2⟩
            · rw [m4]; exact I.r1 m m1 u m3
            · rw [m2]
              refine I.r2 u fun m hm hd => ?_
              obtain ⟨y1,y2⟩ := x1 m hm hd
              rcases m1 m hm hd with z | z
              · exact y1 z
              · exact y2 z
          obtain ⟨v4,p2,p3⟩ := f2 (by rw [Qy same]; exact g2)
          have hdk : Zb P nt ops k = some t := by rw [Yl g1]; exact f0
          have hget : (e.put s.dst v2).get t = some (vals k) := by
            rw [hput t (fun z => st.dst t (by rw [Yl hs]; exact z) k hkp hdk)]
            exact I.r1 k hkp t hdk
          rw [hget] at p2; cases p2
          rw [← p3]
          exact (run_congr (.inr (.inl c1)) (fun u hu => same u (List.mem_append.2 (.inl hu)))).symm
      · obtain ⟨y1,y2⟩ := hs1.out (ids k) (I.bnd k hkp c2) c5
        exact .inr (.inr ⟨c1,c2,ob,mk,c3,by rw [y2]; exact c4,y1,c6,c7⟩)
  · intro k hk m hm q1 q2 q3
    by_cases hkj : k = j
    · rw [if_pos hkj] at q1; cases q1
    · by_cases hmj : m = j
      · rw [if_pos hmj] at q2; cases q2
      · rw [if_neg hkj] at q1; rw [if_neg hmj] at q2
        have hkp : k ∈ pre := by rcases (hmem k).1 hk with q | q; exact q; exact absurd q hkj
        have hmp : m ∈ pre := by rcases (hmem m).1 hm with q | q; exact q; exact absurd q hmj
        exact I.inj k hkp m hmp q1 q2 q3
  · intro k hk q1
    by_cases hkj : k = j
    · rw [if_pos hkj] at q1; cases q1
    · rw [if_neg hkj] at q1
      have hkp : k ∈ pre := by rcases (hmem k).1 hk with q | q; exact q; exact absurd q hkj
      have := I.bnd k hkp q1
      have := hs1.next
      omega
  · cases o.dst <;> simp [Act.put,I.size]
  · cases o.dst <;> exact I.defers
end
end Go.Dx
