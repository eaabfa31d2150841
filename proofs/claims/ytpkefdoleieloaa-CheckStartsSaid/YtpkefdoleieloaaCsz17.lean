/- A deterministic reading of the model's code: all orders; the whole code; the kernel's own run. -/
import Derived.Test.YtpkefdoleieloaaCsz16
namespace Go.Dx
set_option linter.unusedVariables false
set_option linter.unusedSimpArgs false
section
variable {P : Program} {nt : Nat} {ops : Array Oper} {anc : Nat → List Nat}
theorem settle {Q : Env → Heap → Prop} {e0 : Env} {E0 : Emb} {h0 : Heap} {w0 : World} {S : Nat → Prop} {E : Emb} {a : Act} {w : World} : ∀ (rest : List (Nat × List Nat)) (l : List SOp) (pre : List Nat) (e : Env) (h : Heap) (vals : Nat → Value) (envs : Nat → Env) (ids : Nat → Nat) (mkd : Nat → Bool),
    Inv P nt ops anc e0 E0 h0 w0 pre S e h E a w vals envs ids mkd → Yp P nt ops anc pre rest = true → Yr P nt ops rest = some l → Xd P l e h Q →
    ∃ pre' rest' l' e' h' vals' envs' ids' mkd',Inv P nt ops anc e0 E0 h0 w0 pre' S e' h' E a w vals' envs' ids' mkd' ∧ Yp P nt ops anc pre' rest' = true ∧ Yr P nt ops rest' = some l' ∧ Xd P l' e' h' Q ∧
      (rest' = [] ∨ ∃ x cs r,rest' = (x,cs) :: r ∧ Jn P nt ops x = .act)
  | [],l,pre,e,h,vals,envs,ids,mkd,I,hs,hc,hw => ⟨pre,[],l,e,h,vals,envs,ids,mkd,I,hs,hc,hw,.inl rfl⟩
  | (j,cs) :: rest,l,pre,e,h,vals,envs,ids,mkd,I,hs,hc,hw => by
    by_cases hact : Jn P nt ops j = .act
    · exact ⟨pre,(j,cs) :: rest,l,e,h,vals,envs,ids,mkd,I,hs,hc,hw,.inr ⟨j,cs,rest,rfl,hact⟩⟩
    · have hs2 := hs
      simp only [Yp,Bool.and_eq_true] at hs2
      have st := Vb hs2.1
      have hnc := st.nochk hact
      subst hnc
      simp only [Yr,Qh] at hc
      cases h1 : Vk P nt ops j with
      | none => rw [h1] at hc; simp at hc
      | some s =>
        cases h2 : Yr P nt ops rest with
        | none => rw [h1,h2] at hc; simp at hc
        | some l2 =>
          rw [h1,h2] at hc; simp at hc; subst hc
          obtain ⟨e',h',vals',envs',ids',mkd',I',hw'⟩ := I.advance st h1 hact hw
          exact settle rest l2 (pre ++ [j]) e' h' vals' envs' ids' mkd' I' hs2.2 h2 hw'
theorem steps_good : ∀ (rest : List (Nat × List Nat)) (pre : List Nat),Good P nt ops anc pre → Yp P nt ops anc pre rest = true →
    ∃ full,Good P nt ops anc full ∧ (∀ k ∈ pre,k ∈ full) ∧ (∀ i,i < ops.size → i ∈ full)
  | [],pre,g,h => by
    simp only [Yp] at h
    refine ⟨pre,g,fun _ q => q,fun i hi => ?_⟩
    have := List.all_eq_true.1 h i (List.mem_range.2 hi)
    simpa using this
  | (j,cs) :: rest,pre,g,h => by
    simp only [Yp,Bool.and_eq_true] at h
    obtain ⟨full,h1,h2,h3⟩ := steps_good rest (pre ++ [j]) (.snoc pre j cs g (Vb h.1)) h.2
    exact ⟨full,h1,fun k q => h2 k (by simp [q]),h3⟩
theorem Ki : ∀ (rest : List (Nat × List Nat)) (pre : List Nat) (i : Nat),Good P nt ops anc pre → Yp P nt ops anc pre rest = true → i < ops.size → i ∉ pre →
    ∃ pre2 cs2,Good P nt ops anc pre2 ∧ StepP P nt ops anc pre2 i cs2 ∧ ∀ k ∈ pre,k ∈ pre2
  | [],pre,i,g,h,hi,hn => by
    simp only [Yp] at h
    have := List.all_eq_true.1 h i (List.mem_range.2 hi)
    simp at this; exact absurd this hn
  | (j,cs) :: rest,pre,i,g,h,hi,hn => by
    simp only [Yp,Bool.and_eq_true] at h
    by_cases hij : i = j
    · subst hij; exact ⟨pre,cs,g,Vb h.1,fun _ q => q⟩
    · obtain ⟨pre2,cs2,h1,h2,h3⟩ := Ki rest (pre ++ [j]) i (.snoc pre j cs g (Vb h.1)) h.2 hi (by simp [hn,hij])
      exact ⟨pre2,cs2,h1,h2,fun k q => h3 k (by simp [q])⟩
theorem countP_drop {p q : Nat → Bool} : ∀ (l : List Nat) (i : Nat),i ∈ l → (∀ x ∈ l,q x = true → p x = true) → p i = true → q i = false → l.countP q < l.countP p
  | [],i,h,_,_,_ => by cases h
  | x :: l,i,h,hpq,hp,hq => by
    have hle : ∀ l : List Nat,(∀ x ∈ l,q x = true → p x = true) → l.countP q ≤ l.countP p := fun l hl => List.countP_mono_left hl
    by_cases hx : i = x
    · subst hx
      rw [List.countP_cons_of_neg (by simp [hq]),List.countP_cons_of_pos hp]
      have := hle l (fun y hy => hpq y (List.mem_cons_of_mem _ hy))
      omega
    · have hi : i ∈ l := by rcases List.mem_cons.1 h with z | z; exact absurd z hx; exact z
      have := countP_drop l i hi (fun y hy => hpq y (List.mem_cons_of_mem _ hy)) hp hq
      by_cases hqx : q x = true
      · rw [List.countP_cons_of_pos hqx,List.countP_cons_of_pos (hpq x (by simp) hqx)]; omega
      · rw [List.countP_cons_of_neg hqx]
        by_cases hpx : p x = true
        · rw [List.countP_cons_of_pos hpx]; omega
        · rw [List.countP_cons_of_neg hpx]; exact this
theorem sim {Q : Env → Heap → Prop} {QQ : Exit → Act → World → Prop} {e0 : Env} {E0 : Emb} {h0 : Heap} {w0 : World}
    (hQ : ∀ E1 e1 h1 a1 w1,Q e1 h1 → Rel E1 e1 h1 a1 w1 nt → Stp E0 h0 w0 E1 h1 w1 → QQ .normal a1 w1) :
    ∀ (fuel : Nat) (listed : Array Bool) (pre : List Nat) (rest : List (Nat × List Nat)) (l : List SOp) (e : Env) (h : Heap) (E : Emb) (a : Act) (w : World) (vals : Nat → Value) (envs : Nat → Env) (ids : Nat → Nat) (mkd : Nat → Bool),
    listed.size = ops.size → Inv P nt ops anc e0 E0 h0 w0 pre (fun k => listed.getD k false = true) e h E a w vals envs ids mkd → Yp P nt ops anc pre rest = true → Yr P nt ops rest = some l → Xd P l e h Q →
    (rest = [] ∨ ∃ x cs r,rest = (x,cs) :: r ∧ Jn P nt ops x = .act) → (List.range ops.size).countP (fun i => !listed.getD i false) ≤ fuel → wpAny P .any ops QQ fuel listed a w := by
  -- nothing stands ready: all is done
  have done : ∀ (listed : Array Bool) (pre : List Nat) (rest : List (Nat × List Nat)) (l : List SOp) (e : Env) (h : Heap) (E : Emb) (a : Act) (w : World) (vals : Nat → Value) (envs : Nat → Env) (ids : Nat → Nat) (mkd : Nat → Bool),
      listed.size = ops.size → Inv P nt ops anc e0 E0 h0 w0 pre (fun k => listed.getD k false = true) e h E a w vals envs ids mkd → Yp P nt ops anc pre rest = true → Yr P nt ops rest = some l → Xd P l e h Q →
      Region.ready .any ops listed = [] → QQ .normal a w := by
    intro listed pre rest l e h E a w vals envs ids mkd hsz I hs hc hw hr
    obtain ⟨full,g1,g2,g3⟩ := steps_good rest pre I.good hs
    have all : ∀ (G : List Nat),Good P nt ops anc G → ∀ j ∈ G,listed.getD j false = true := by
      intro G hG
      induction hG with
      | nil => intro j hj; cases hj
      | snoc G j cs hG st ih =>
        intro k hk
        rcases List.mem_append.1 hk with q | q
        · exact ih k q
        · simp at q; subst q
          cases hl : listed.getD k false with
          | true => rfl
          | false =>
            exfalso
            obtain ⟨o,s,ho,hso,hcomp,hn,_⟩ := st.so
            have hkl : k < listed.size := by rw [hsz]; exact st.lt
            have : k ∈ Region.ready .any ops listed := mem_ready.2 ⟨by
              have h1 : listed.getD k true = listed[k] := by simp [Array.getD,hkl]
              have h2 : listed.getD k false = listed[k] := by simp [Array.getD,hkl]
              rw [h1,← h2]; exact hl,o,ho,fun ed hed hb => ih ed.on (hn ed.on (List.mem_map.2 ⟨ed,List.mem_filter.2 ⟨by simpa using hed,hb⟩,rfl⟩))⟩
            rw [hr] at this; cases this
    have allS : ∀ i,i < ops.size → listed.getD i false = true := fun i hi => all full g1 i (g3 i hi)
    have hrest : rest = [] := by
      cases rest with
      | nil => rfl
      | cons x r =>
        obtain ⟨j,cs⟩ := x
        simp only [Yp,Bool.and_eq_true] at hs
        have st := Vb hs.1
        exact absurd (I.sub j (allS j st.lt)) st.fresh
    subst hrest
    simp only [Yr,Option.some.injEq] at hc; subst hc
    refine hQ E e h a w hw ⟨fun t v hv => ?_,I.size,I.defers,I.wr⟩ I.stp
    by_cases hx : ∃ j ∈ pre,Zb P nt ops j = some t
    · obtain ⟨j,j1,j2⟩ := hx
      rw [I.r1 j j1 t j2] at hv; cases hv
      exact I.t1 j (allS j (I.good.lt j j1)) t j2
    · rw [I.r2 t (fun j hj hd => hx ⟨j,hj,hd⟩)] at hv
      exact I.t2 t (fun k hk hd => hx ⟨k,I.sub k hk,hd⟩) v hv
  intro fuel
  induction fuel with
  | zero =>
    intro listed pre rest l e h E a w vals envs ids mkd hsz I hs hc hw hrest hcount
    have hempty : Region.ready .any ops listed = [] := by
      cases hr : Region.ready .any ops listed with
      | nil => rfl
      | cons i r =>
        exfalso
        have hi : i ∈ Region.ready .any ops listed := by rw [hr]; simp
        obtain ⟨h1,o,ho,_⟩ := mem_ready.1 hi
        have hlt : i < ops.size := (Array.getElem?_eq_some_iff.1 ho).1
        have hl : i < listed.size := by rw [hsz]; exact hlt
        have h2 : listed.getD i false = false := by
          have e1 : listed.getD i true = listed[i] := by simp [Array.getD,hl]
          have e2 : listed.getD i false = listed[i] := by simp [Array.getD,hl]
          rw [e2,← e1]; exact h1
        have hpos : 0 < (List.range ops.size).countP (fun i => !listed.getD i false) := List.countP_pos_iff.2 ⟨i,List.mem_range.2 hlt,by rw [h2]; rfl⟩
        omega
    exact ⟨hempty,done listed pre rest l e h E a w vals envs ids mkd hsz I hs hc hw hempty⟩
  | succ fuel ih =>
    intro listed pre rest l e h E a w vals envs ids mkd hsz I hs hc hw hrest hcount
    refine ⟨fun hempty => done listed pre rest l e h E a w vals envs ids mkd hsz I hs hc hw hempty,fun i hi => ?_⟩
    obtain ⟨h1,o,ho,hready⟩ := mem_ready.1 hi
    have hlt : i < ops.size := (Array.getElem?_eq_some_iff.1 ho).1
    have hl : i < listed.size := by rw [hsz]; exact hlt
    have h2 : listed.getD i false = false := by
      have e1 : listed.getD i true = listed[i] := by simp [Array.getD,hl]
      have e2 : listed.getD i false = listed[i] := by simp [Array.getD,hl]
      rw [e2,← e1]; exact h1
    have hnS : ¬ (listed.getD i false = true) := by rw [h2]; simp
    have hr : ∀ o',ops[i]? = some o' → ∀ n ∈ Vy o',listed.getD n false = true := by
      intro o' ho' n hn
      rw [ho] at ho'; cases ho'
      obtain ⟨ed,hed,rfl⟩ := List.mem_map.1 hn
      obtain ⟨q1,q2⟩ := List.mem_filter.1 hed
      exact hready ed (by simpa using q1) q2
    have hset : (fun k => listed.getD k false = true ∨ k = i) = (fun k => (listed.setIfInBounds i true).getD k false = true) := by
      funext k
      apply propext
      by_cases hk : k = i
      · subst hk
        simp [Array.getD,hl]
      · have : (listed.setIfInBounds i true).getD k false = listed.getD k false := by
          simp only [Array.getD_eq_getD_getElem?]
          rw [Array.getElem?_setIfInBounds_ne (fun q => hk q.symm)]
        rw [this]
        exact ⟨fun q => by rcases q with q | q; exact q; exact absurd q hk,.inl⟩
    have hcount2 : (List.range ops.size).countP (fun k => !(listed.setIfInBounds i true).getD k false) ≤ fuel := by
      have := countP_drop (p := fun k => !listed.getD k false) (q := fun k => !(listed.setIfInBounds i true).getD k false) (List.range ops.size) i (List.mem_range.2 hlt) (fun x _ hx => by
        have h3 : ¬ ((listed.setIfInBounds i true).getD x false = true) := by simpa using hx
        have h4 : ¬ (listed.getD x false = true) := fun q => h3 (by rw [← show (fun k => listed.getD k false = true ∨ k = i) x = _ from congrFun hset x]; exact .inl q)
        simpa using h4) (by rw [h2]; rfl) (by simp [Array.getD,hl])
      omega
    have hsz2 : (listed.setIfInBounds i true).size = ops.size := by simp [hsz]
    by_cases hip : i ∈ pre
    · refine I.exec hip hnS hr ?_
      intro E1 a1 w1 I1
      rw [hset] at I1
      exact ih _ pre rest l e h E1 a1 w1 vals envs ids mkd hsz2 I1 hs hc hw hrest hcount2
    · rcases hrest with rfl | ⟨x,cs,r,rfl,hact⟩
      · exfalso
        simp only [Yp] at hs
        have := List.all_eq_true.1 hs i (List.mem_range.2 hlt)
        simp at this; exact hip this
      · simp only [Yp,Bool.and_eq_true] at hs
        have st := Vb hs.1
        have hix : i = x := by
          by_cases hq : i = x
          · exact hq
          · exfalso
            have g1 : Good P nt ops anc (pre ++ [x]) := .snoc pre x cs I.good st
            obtain ⟨pre2,cs2,g2,st2,hsub⟩ := Ki r (pre ++ [x]) i g1 hs.2 hlt (by simp [hip,hq])
            have hx2 : x ∈ pre2 := hsub x (by simp)
            have hanc := (Good.snoc pre2 i cs2 g2 st2).ancs (S := fun k => listed.getD k false = true) (fun k o' hk ho' => I.closed k o' hk ho') i (by simp) hr
            have := hanc x (st2.act x hx2 hact)
            exact st.fresh (I.sub x this)
        subst hix
        simp only [Yr] at hc
        cases h3 : Vk P nt ops i with
        | none => rw [h3] at hc; simp at hc
        | some s =>
          cases h4 : Qh P nt ops cs with
          | none => rw [h3,h4] at hc; simp at hc
          | some c =>
            cases h5 : Yr P nt ops r with
            | none => rw [h3,h4,h5] at hc; simp at hc
            | some l2 =>
              rw [h3,h4,h5] at hc; simp at hc; subst hc
              refine I.acts st h3 hact h4 hw hr ?_
              intro e1 h1' E1 a1 w1 vals1 envs1 ids1 mkd1 I1 hw1
              rw [hset] at I1
              obtain ⟨pre',rest',l',e',h',vals',envs',ids',mkd',I',hs',hc',hw',hre⟩ := settle r l2 _ e1 h1' vals1 envs1 ids1 mkd1 I1 hs.2 h5 hw1
              exact ih _ pre' rest' l' e' h' E1 a1 w1 vals' envs' ids' mkd' hsz2 I' hs' hc' hw' hre hcount2
theorem refines_draw (hm : P.follows .mixedOrders = true) {id : Nat} {plan : List (Nat × List Nat)} {sops : List SOp} (keep : List Nat) (hok : Yp P nt ops anc [] plan = true) (hc : Yr P nt ops plan = some sops) :
    Yv P nt (.region id ops true) (.region sops keep) := by
  intro e h Q E a w hw R
  refine wp_region_any hm ?_
  have R1 : Rel E e h a { w with drawn := w.drawn + 1 } nt := ⟨R.env,R.size,R.defers,R.wr.of_heap rfl⟩
  have S1 : Stp E h w E h { w with drawn := w.drawn + 1 } := ⟨fun _ _ x => x,fun _ _ x => ⟨x,rfl⟩,Nat.le_refl _,fun _ _ x => x,fun _ _ _ x y => by rw [x] at y; cases y; rfl,fun _ x => .inl x,Nat.le_refl _,fun _ _ _ => rfl,rfl,rfl,rfl⟩
  have hno : ∀ k,¬ ((Array.replicate ops.size false).getD k false = true) := by
    intro k
    simp only [Array.getD_eq_getD_getElem?,Array.getElem?_replicate]
    split <;> simp
  have I : Inv P nt ops anc e E h w [] (fun k => (Array.replicate ops.size false).getD k false = true) e h E a { w with drawn := w.drawn + 1 } (fun _ => Xl) (fun _ => []) (fun _ => 0) (fun _ => false) :=
    ⟨.nil,fun k q => absurd q (hno k),fun k _ q => absurd q (hno k),fun _ q => (by cases q),fun _ _ => rfl,fun _ q => (by cases q),fun k q => absurd q (hno k),fun t _ v hv => R1.env t v hv,fun _ q => (by cases q),fun _ q => (by cases q),fun _ q => (by cases q),R1.wr,S1,R1.size,R1.defers⟩
  obtain ⟨pre',rest',l',e',h',vals',envs',ids',mkd',I',hs',hc',hw',hre⟩ := settle plan sops [] e h _ _ _ _ I hok hc hw
  refine sim (Q := fun e' h' => Q .normal (e'.keep keep) h') (e0 := e) (E0 := E) (h0 := h) (w0 := w) ?_ ops.size _ pre' rest' l' e' h' E a _ vals' envs' ids' mkd' (by simp) I' hs' hc' hw' hre ?_
  · intro E1 e1 h1 a1 w1 q r s
    exact ⟨E1,_,h1,q,r.keep keep,s⟩
  · exact Nat.le_trans List.countP_le_length (by simp)
end
/-! ### The whole code -/
structure Ann where
  keep : List (Nat × List Nat)
  plan : List (Nat × List (Nat × List Nat) × List (Nat × List Nat))
def Ve {α : Type} : List (Nat × α) → Nat → Option α
  | [],_ => none
  | (k,v) :: r,i => bif k.beq i then some v else Ve r i
def Zu (P : Program) (nt : Nat) (A : Ann) : Code → Option SCode
  | .skip => some .skip
  | .region id ops draw => match Ve A.keep id with
    | none => none
    | some keep => match draw with
      | false => (Qo P nt ops ops.toList).map (.region · keep)
      | true => match Ve A.plan id with
        | none => none
        | some (plan,ancs) => bif Yp P nt ops (fun j => (Ve ancs j).getD []) [] plan then (Yr P nt ops plan).map (.region · keep) else none
  | .seq a b => match Zu P nt A a,Zu P nt A b with
    | some x,some y => some (.seq x y)
    | _,_ => none
  | .cond c a b => match Wv c,Zu P nt A a,Zu P nt A b with
    | some c,some x,some y => some (.cond c x y)
    | _,_,_ => none
  | .block id c => (Zu P nt A c).map (.block id)
  | .loop c => (Zu P nt A c).map .loop
  | .exit id => some (.exit id)
  | .ret => some .ret
  | _ => none
theorem Jm {P : Program} {nt : Nat} {A : Ann} (hm : P.follows .mixedOrders = true) : ∀ (c : Code) (s : SCode),Zu P nt A c = some s → Yv P nt c s
  | .skip,s,h => by simp only [Zu,Option.some.injEq] at h; subst h; exact refines_skip
  | .region id ops draw,s,h => by
    simp only [Zu] at h
    split at h
    · cases h
    · rename_i keep hk
      split at h
      · obtain ⟨l,hl,rfl⟩ := Xr h
        exact refines_region keep hl
      · split at h
        · cases h
        · rename_i plan ancs hp
          cases hb : Yp P nt ops (fun j => (Ve ancs j).getD []) [] plan with
          | false => rw [hb] at h; simp at h
          | true =>
            rw [hb] at h
            simp only [cond_true] at h
            obtain ⟨l,hl,rfl⟩ := Xr h
            exact refines_draw hm keep hb hl
  | .seq a b,s,h => by
    simp only [Zu] at h
    split at h
    · rename_i x y h1 h2; cases h; exact refines_seq (Jm hm a x h1) (Jm hm b y h2)
    · cases h
  | .cond c a b,s,h => by
    simp only [Zu] at h
    split at h
    · rename_i c x y h0 h1 h2; cases h; exact refines_cond h0 (Jm hm a x h1) (Jm hm b y h2)
    · cases h
  | .block id c,s,h => by
    simp only [Zu] at h
    obtain ⟨x,hx,rfl⟩ := Xr h
    exact refines_block (Jm hm c x hx)
  | .loop c,s,h => by
    simp only [Zu] at h
    obtain ⟨x,hx,rfl⟩ := Xr h
    exact refines_loop (Jm hm c x hx)
  | .exit id,s,h => by simp only [Zu,Option.some.injEq] at h; subst h; exact refines_exit
  | .ret,s,h => by simp only [Zu,Option.some.injEq] at h; subst h; exact refines_ret
  | .rangeFunc _ _ _ _,s,h => by simp [Zu] at h
  | .scope _,s,h => by simp [Zu] at h
  | .label _,s,h => by simp [Zu] at h
  | .goto _,s,h => by simp [Zu] at h
  | .refuse _,s,h => by simp [Zu] at h
def compF (P : Program) (A : Ann) (fn : Func) : Option SFn := match fn.body with
  | none => none
  | some c => match Zu P fn.ntmps A c,Qs P fn.results.toList with
    | some s,some r => bif fn.name == "runtime.NumGoroutine" then none else some ⟨s,r,fn.ntmps,fn.params.size + fn.nfree⟩
    | _,_ => none
theorem fok_of {P : Program} {f : Nat} {F : SFn} {A : Ann} {fn : Func} (hm : P.follows .mixedOrders = true) (hf : P.funcs[f]? = some fn) (hc : compF P A fn = some F) : FOk P f F := by
  unfold compF at hc
  split at hc
  · cases hc
  · rename_i c hb
    split at hc
    · rename_i s r h1 h2
      cases hn : (fn.name == "runtime.NumGoroutine") with
      | true => rw [hn] at hc; simp at hc
      | false =>
        rw [hn] at hc
        simp only [cond_false,Option.some.injEq] at hc
        subst hc
        exact ⟨fn,c,hf,hb,hn,rfl,h2,Jm hm c s h1⟩
    · cases hc
end Go.Dx
