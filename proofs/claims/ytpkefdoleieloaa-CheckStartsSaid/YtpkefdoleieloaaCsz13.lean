/- A deterministic reading of the model's code: what is shown of the reading holds of the code. -/
import Derived.Test.YtpkefdoleieloaaCsz12
namespace Go.Dx
set_option linter.unusedVariables false
set_option linter.unusedSimpArgs false
def Jz (E0 : Emb) (h0 : Heap) (w0 : World) (nt : Nat) (Q : Out → Env → Heap → Prop) : Exit → Act → World → Prop
  | .normal,a,w => ∃ E e h,Q .normal e h ∧ Rel E e h a w nt ∧ Stp E0 h0 w0 E h w
  | .exit i,a,w => ∃ E e h,Q (.exit i) e h ∧ Rel E e h a w nt ∧ Stp E0 h0 w0 E h w
  | .ret,a,w => ∃ E e h,Q .ret e h ∧ Rel E e h a w nt ∧ Stp E0 h0 w0 E h w
  | _,_,_ => False
theorem Jz.base {E0 E1 : Emb} {h0 h1 : Heap} {w0 w1 : World} {nt : Nat} {Q : Out → Env → Heap → Prop} (hs : Stp E0 h0 w0 E1 h1 w1) : ∀ ex a w,Jz E1 h1 w1 nt Q ex a w → Jz E0 h0 w0 nt Q ex a w := by
  intro ex a w hh
  cases ex <;> first
    | (obtain ⟨E,e,h,q,r,s⟩ := hh; exact ⟨E,e,h,q,r,hs.trans s⟩)
    | exact hh
def Yv (P : Program) (nt : Nat) (c : Code) (s : SCode) : Prop :=
  ∀ (e : Env) (h : Heap) (Q : Out → Env → Heap → Prop) (E : Emb) (a : Act) (w : World),W P s e h Q → Rel E e h a w nt → c.wp P (Jz E h w nt Q) a w
section
variable {P : Program} {nt : Nat}
theorem one_op {ops : Array Oper} {i : Nat} {o : Oper} {so : SOp} {rest : List SOp} {e : Env} {h : Heap} {Q : Env → Heap → Prop} {QQ : Exit → Act → World → Prop} {K : Act → World → Prop} {E : Emb} {a : Act} {w : World}
    (ho : ops[i]? = some o) (hc : Zm P nt ops o = some so) (hw : Xd P (so :: rest) e h Q) (R : Rel E e h a w nt)
    (hK : ∀ E1 e1 h1 a1 w1,Xd P rest e1 h1 Q → Rel E1 e1 h1 a1 w1 nt → Stp E h w E1 h1 w1 → K a1 w1) : wpOp P ops QQ i K a w := by
  obtain ⟨hop,hdst,hlt⟩ := Qg hc
  have hlt' : ∀ k,so.dst = some k → k < nt := fun k q => hlt k (by rw [← hdst]; exact q)
  unfold wpOp
  rw [ho]
  simp only
  unfold Xd at hw
  cases hwt : so.wanted e with
  | none => rw [hwt] at hw; exact hw.elim
  | some b =>
    rw [hwt] at hw
    have hwanted := Ue R hc hwt
    rw [hwanted]
    cases b with
    | false =>
      simp only at hw
      simp only [Bool.false_eq_true,if_false]
      exact hK E _ h _ w hw (by rw [← hdst]; exact R.put hlt' VR.undef) (Stp.refl _ _ _)
    | true =>
      simp only at hw
      simp only [if_true]
      left
      cases hcall : so.op.asCall with
      | none =>
        rw [hcall] at hw
        simp only at hw
        cases hrun : so.op.run e h with
        | none => rw [hrun] at hw; exact hw.elim
        | some vh =>
          obtain ⟨v,h1⟩ := vh
          rw [hrun] at hw
          simp only at hw
          obtain ⟨v',E1,w1,hr,hv,hw1,hs⟩ := exec_ok R hop hcall hrun
          unfold Oper.wp
          rcases hr with hr | ⟨hr,rfl⟩
          · rw [hr]
            simp only [Oper.upon]
            exact hK E1 _ h1 _ w1 hw (by rw [← hdst]; exact (R.step hw1 hs).put hlt' hv) hs
          · rw [hr]
            simp only [Oper.upon]
            exact hK E1 _ h1 _ w1 hw (by rw [← hdst]; exact (R.step hw1 hs).put hlt' hv) hs
      | some fa =>
        obtain ⟨F,Args⟩ := fa
        rw [hcall] at hw
        simp only at hw
        split at hw
        · rename_i f fi ca vs hF hA
          refine call_ok R hop hcall hF hA hw ?_
          intro v v' E1 h1 w1 hq hv hw1 hs
          exact hK E1 _ h1 _ w1 hq (by rw [← hdst]; exact (R.step hw1 hs).put hlt' hv) hs
        · exact hw.elim
theorem ops_ok {ops : Array Oper} {QQ : Exit → Act → World → Prop} : ∀ (l : List Oper) (sops : List SOp) (i : Nat) (e : Env) (h : Heap) (Q : Env → Heap → Prop) (E : Emb) (a : Act) (w : World),
    (∀ k o,l[k]? = some o → ops[i + k]? = some o) → Qo P nt ops l = some sops → Xd P sops e h Q → Rel E e h a w nt →
    (∀ E1 e1 h1 a1 w1,Q e1 h1 → Rel E1 e1 h1 a1 w1 nt → Stp E h w E1 h1 w1 → QQ .normal a1 w1) → wpOps P ops QQ (List.range' i l.length) a w
  | [],sops,i,e,h,Q,E,a,w,hl,hc,hw,R,hQ => by
    simp only [Qo,Option.some.injEq] at hc; subst hc
    exact hQ E e h a w hw R (Stp.refl _ _ _)
  | o :: l,sops,i,e,h,Q,E,a,w,hl,hc,hw,R,hQ => by
    simp only [Qo] at hc
    cases h1 : Zm P nt ops o with
    | none => rw [h1] at hc; simp at hc
    | some so =>
      cases h2 : Qo P nt ops l with
      | none => rw [h1,h2] at hc; simp at hc
      | some sl =>
        rw [h1,h2] at hc; simp at hc; subst hc
        simp only [List.length_cons,List.range'_succ]
        rw [wpOps_cons]
        refine one_op (hl 0 o rfl) h1 hw R ?_
        intro E1 e1 h1' a1 w1 hw1 R1 hs1
        refine ops_ok l sl (i + 1) e1 h1' Q E1 a1 w1 (fun k o' q => by rw [show i + 1 + k = i + (k + 1) by omega]; exact hl (k + 1) o' (by simpa using q)) h2 hw1 R1 ?_
        intro E2 e2 h2' a2 w2 q r s
        exact hQ E2 e2 h2' a2 w2 q r (hs1.trans s)
theorem refines_region {id : Nat} {ops : Array Oper} {sops : List SOp} (keep : List Nat) (hc : Qo P nt ops ops.toList = some sops) : Yv P nt (.region id ops false) (.region sops keep) := by
  intro e h Q E a w hw R
  refine wp_region ?_
  have : List.range ops.size = List.range' 0 ops.toList.length := by simp [List.range_eq_range']
  rw [this]
  refine ops_ok ops.toList sops 0 e h _ E a w (fun k o q => by rw [Nat.zero_add,← Array.getElem?_toList]; exact q) hc hw R ?_
  intro E1 e1 h1 a1 w1 q r s
  exact ⟨E1,_,h1,q,r.keep keep,s⟩
theorem refines_skip : Yv P nt .skip .skip := fun e h Q E a w hw R => wp_skip ⟨E,e,h,hw,R,Stp.refl _ _ _⟩
theorem refines_exit {id : Nat} : Yv P nt (.exit id) (.exit id) := fun e h Q E a w hw R => wp_exit ⟨E,e,h,hw,R,Stp.refl _ _ _⟩
theorem refines_ret : Yv P nt .ret .ret := fun e h Q E a w hw R => wp_ret ⟨E,e,h,hw,R,Stp.refl _ _ _⟩
theorem refines_seq {c d : Code} {s t : SCode} (h1 : Yv P nt c s) (h2 : Yv P nt d t) : Yv P nt (.seq c d) (.seq s t) := by
  intro e h Q E a w hw R
  refine wp_seq (wp_mono (h1 e h _ E a w hw R) ?_)
  intro ex a1 w1 hl
  cases ex with
  | normal =>
    obtain ⟨E1,e1,h1',q,r,s⟩ := hl
    exact wp_mono (h2 e1 h1' Q E1 a1 w1 q r) (fun ex a w hh => Jz.base s ex a w hh)
  | exit i => exact hl
  | ret => exact hl
  | goto l => exact hl
  | panic c => exact hl
  | outgrown => exact hl
theorem refines_cond {x : Operand} {X : Arg} {c d : Code} {s t : SCode} (hx : Wv x = some X) (h1 : Yv P nt c s) (h2 : Yv P nt d t) : Yv P nt (.cond x c d) (.cond X s t) := by
  intro e h Q E a w hw R
  unfold W at hw
  split at hw
  · rename_i b hb
    have hv := Wx R hx hb
    have hap : a.eval x = .bool b := by
      generalize a.eval x = y at hv
      cases hv; rfl
    exact wp_cond_split hap (fun q => h1 e h Q E a w (hw.1 q) R) (fun q => h2 e h Q E a w (hw.2 q) R)
  · exact hw.elim
theorem refines_block {id : Nat} {c : Code} {s : SCode} (h1 : Yv P nt c s) : Yv P nt (.block id c) (.block id s) := by
  intro e h Q E a w hw R
  refine wp_block (wp_mono (h1 e h _ E a w hw R) ?_)
  intro ex a1 w1 hl
  cases ex with
  | exit i =>
    obtain ⟨E1,e1,h1',q,r,s⟩ := hl
    simp only [Exit.inBlock]
    simp only at q
    by_cases hi : i = id
    · rw [if_pos hi] at q ⊢; exact ⟨E1,e1,h1',q,r,s⟩
    · rw [if_neg hi] at q ⊢; exact ⟨E1,e1,h1',q,r,s⟩
  | normal => exact hl
  | ret => exact hl
  | goto l => exact hl
  | panic c => exact hl
  | outgrown => exact hl
theorem refines_loop {c : Code} {s : SCode} (h1 : Yv P nt c s) : Yv P nt (.loop c) (.loop s) := by
  intro e h Q E a w hw R
  obtain ⟨n,hn⟩ := hw
  refine wp_loop_rounds n ?_
  have key : ∀ (n : Nat) (e : Env) (h : Heap) (E1 : Emb) (a1 : Act) (w1 : World),Ux (W P s) n e h Q → Rel E1 e h a1 w1 nt → Code.rounds P c (Jz E1 h w1 nt Q) n a1 w1 := by
    intro n
    induction n with
    | zero => intro e h E1 a1 w1 hi _; exact hi.elim
    | succ n ih =>
      intro e h E1 a1 w1 hi R1
      rw [rounds_succ]
      simp only [Ux] at hi
      refine wp_mono (h1 e h _ E1 a1 w1 hi R1) ?_
      intro ex a2 w2 hl
      cases ex with
      | normal =>
        obtain ⟨E2,e2,h2,q,r,s2⟩ := hl
        have := ih e2 h2 E2 a2 w2 q r
        have mono : ∀ (n : Nat) (a : Act) (w : World),Code.rounds P c (Jz E2 h2 w2 nt Q) n a w → Code.rounds P c (Jz E1 h w1 nt Q) n a w := by
          intro n
          induction n with
          | zero => intro a w q; exact q
          | succ n ihn =>
            intro a w q
            rw [rounds_succ] at q ⊢
            refine wp_mono q ?_
            intro ex a3 w3 hx
            cases ex with
            | normal => exact ihn _ _ hx
            | exit i => exact Jz.base (Q := Q) s2 (.exit i) a3 w3 hx
            | ret => exact Jz.base (Q := Q) s2 .ret a3 w3 hx
            | goto l => exact hx
            | panic c => exact hx
            | outgrown => exact hx
        exact mono n a2 w2 this
      | exit i => exact hl
      | ret => exact hl
      | goto l => exact hl
      | panic c => exact hl
      | outgrown => exact hl
  exact key n e h E a w hn R
/-! ### Functions -/
def Qs (P : Program) : List ResultVar → Option (List Res)
  | [] => some []
  | .tmp t :: r => (Qs P r).map (.t t :: ·)
  | .cell a t :: r => match Zs P t,aggT P t,Qs P r with
    | some n,some g,some l => some (.c a n g :: l)
    | _,_,_ => none
def Uw (a : Act) : ResultVar → Sem Value
  | .tmp t => pure (a.tmps.getD t Go.undef)
  | .cell ad t => do loadVar t (← asAddr (a.tmps.getD ad Go.undef))
theorem res_ok {E : Emb} {e : Env} {h : Heap} {a : Act} {w : World} (R : Rel E e h a w nt) : ∀ (rs : List ResultVar) (ss : List Res) (vs : List Value),Qs P rs = some ss → Un e h ss = some vs →
    ∃ vs',(rs.mapM (Uw a)).run P w = .ok vs' w ∧ VRL E vs vs'
  | [],ss,vs,hc,hr => by
    simp only [Qs,Option.some.injEq] at hc; subst hc
    simp only [Un,Option.some.injEq] at hr; subst hr
    exact ⟨[],rfl,.nil⟩
  | r :: rs,ss,vs,hc,hr => by
    have fin : ∀ (S : Res) (ss2 : List Res),Qs P rs = some ss2 → ss = S :: ss2 → (∀ v,S.ev e h = some v → ∃ v',(Uw a r).run P w = .ok v' w ∧ VR E v v') →
        ∃ vs',((r :: rs).mapM (Uw a)).run P w = .ok vs' w ∧ VRL E vs vs' := by
      intro S ss2 h1 h2 h3
      subst h2
      simp only [Un] at hr
      cases h4 : S.ev e h with
      | none => rw [h4] at hr; simp at hr
      | some v =>
        cases h5 : Un e h ss2 with
        | none => rw [h4,h5] at hr; simp at hr
        | some vs2 =>
          rw [h4,h5] at hr; simp at hr; subst hr
          obtain ⟨v',q1,q2⟩ := h3 v h4
          obtain ⟨vs',q3,q4⟩ := res_ok R rs ss2 vs2 h1 h5
          refine ⟨v' :: vs',?_,.cons _ _ _ _ q2 q4⟩
          rw [List.mapM_cons,Sem.run_bind,q1]
          simp only [Result.andThen_ok,Sem.run_bind,q3,Sem.run_pure]
    cases r with
    | tmp t =>
      simp only [Qs] at hc
      obtain ⟨ss2,h1,rfl⟩ := Xr hc
      refine fin (.t t) ss2 h1 rfl ?_
      intro v hv
      obtain ⟨v',q1,q2⟩ := R.env t v hv
      exact ⟨v',by simp [Uw,q1],q2⟩
    | cell ad t =>
      simp only [Qs] at hc
      split at hc
      · rename_i n g l h1 h2 h3
        simp only [Option.some.injEq] at hc; subst hc
        refine fin (.c ad n g) l h3 rfl ?_
        intro v hv
        simp only [Res.ev] at hv
        split at hv
        · rename_i pv hp
          obtain ⟨p',q1,q2⟩ := R.env ad pv hp
          have hpp : ∃ b,p' = .pointer (some b) := by
            unfold ldV at hv
            split at hv
            · cases q2; exact ⟨_,rfl⟩
            · cases hv
          obtain ⟨b,rfl⟩ := hpp
          obtain ⟨v',q3,q4⟩ := ldV_ok (P := P) R.wr h1 h2 q2 hv
          refine ⟨v',?_,q4⟩
          simp only [Instr.loadAt,Instr.sureAddr] at q3
          simpa [Uw,q1,asAddr] using q3
        · cases hv
      · cases hc
theorem results_ok {E : Emb} {e : Env} {h : Heap} {a : Act} {w : World} (R : Rel E e h a w nt) {fn : Func} {ss : List Res} {vs : List Value} (hc : Qs P fn.results.toList = some ss) (hr : Un e h ss = some vs) :
    ∃ v',(results fn a.tmps).run P w = .ok v' w ∧ VR E (Vv vs) v' := by
  obtain ⟨vs',h1,h2⟩ := res_ok R fn.results.toList ss vs hc hr
  have hm : (fn.results.mapM (Uw a)).run P w = .ok ⟨vs'⟩ w := by
    rw [Array.mapM_eq_mapM_toList,Sem.run_map,h1]
    rfl
  have hfun : (fun x => match x with | ResultVar.tmp t => pure (a.tmps.getD t Go.undef) | ResultVar.cell ad t => do loadVar t (← asAddr (a.tmps.getD ad Go.undef)) : ResultVar → Sem Value) = Uw a := by
    funext x; cases x <;> rfl
  refine ⟨if hh : (⟨vs'⟩ : Array Value).size = 1 then (⟨vs'⟩ : Array Value)[0] else .tuple ⟨vs'⟩,?_,?_⟩
  · unfold results
    have : ((fn.results.mapM fun x => match x with | ResultVar.tmp t => pure (a.tmps.getD t Go.undef) | ResultVar.cell ad t => do loadVar t (← asAddr (a.tmps.getD ad Go.undef)) : Sem (Array Value))).run P w = .ok ⟨vs'⟩ w := by rw [hfun]; exact hm
    rw [Sem.run_bind]
    erw [this]
    rfl
  · cases h2 with
    | nil => exact .tup _ _ .nil
    | cons v v' l l' g1 g2 =>
      cases g2 with
      | nil => exact g1
      | cons v2 v2' l2 l2' g3 g4 => exact .tup _ _ (.cons _ _ _ _ g1 (.cons _ _ _ _ g3 g4))
structure FOk (P : Program) (f : Nat) (F : SFn) : Prop where
  ok : ∃ fn c,P.funcs[f]? = some fn ∧ fn.body = some c ∧ (fn.name == "runtime.NumGoroutine") = false ∧ fn.ntmps = F.nt ∧ Qs P fn.results.toList = some F.res ∧ Yv P F.nt c F.code
theorem slots_get : ∀ (l : List Value) (i t : Nat) (v : Value),(Up i l).get t = some v → i ≤ t ∧ l[t - i]? = some v
  | [],i,t,v,h => by simp [Up,Env.get] at h
  | u :: l,i,t,v,h => by
    simp only [Up,Env.get,Ww] at h
    by_cases ht : i = t
    · subst ht; simp at h; subst h; exact ⟨Nat.le_refl _,by simp⟩
    · simp [ht] at h
      obtain ⟨h1,h2⟩ := slots_get l (i + 1) t v h
      exact ⟨by omega,by rw [show t - i = (t - (i + 1)) + 1 by omega]; simpa using h2⟩
theorem fn_of_body {f : Nat} {F : SFn} (hF : FOk P f F) {args : List Value} {h : Heap} {Q : Value → Heap → Prop} (hlen : args.length ≤ F.nt) (hb : Body P F args h Q) : Fn P f args h Q := by
  obtain ⟨fn,c,h1,h2,h3,h4,h5,h6⟩ := hF.ok
  refine ⟨⟨fn,h1,by rw [h2]; rfl,h3⟩,?_⟩
  intro E w args' hw ha
  refine calls_of_wp h1 h2 ?_
  have hl := VRL.length ha
  have R : Rel E (Up 0 args) h { tmps := (⟨args'⟩ : Array Value) ++ Array.replicate (fn.ntmps - (⟨args'⟩ : Array Value).size) Go.undef,defers := [] } w F.nt := by
    refine ⟨fun t v hv => ?_,?_,rfl,hw⟩
    · obtain ⟨_,q⟩ := slots_get args 0 t v hv
      simp only [Nat.sub_zero] at q
      obtain ⟨v',r1,r2⟩ := VRL.get ha q
      have hi := (List.getElem?_eq_some_iff.1 r1).1
      refine ⟨v',?_,r2⟩
      rw [Array.getElem?_append_left (by simpa using hi)]
      simpa using r1
    · simp; omega
  refine wp_mono (h6 _ h _ E _ w hb R) ?_
  intro ex a1 w1 hl
  have fin : ∀ E1 e1 h1',(match Un e1 h1' F.res with | some vs => Q (Vv vs) h1' | none => False) → Rel E1 e1 h1' a1 w1 F.nt → Stp E h w E1 h1' w1 → a1.defers = [] ∧ ∃ v,(results fn a1.tmps).run P w1 = .ok v w1 ∧ ∃ v0 h' E' v',Q v0 h' ∧ Ending.returned v = .returned v' ∧ VR E' v0 v' ∧ WR E' h' w1 ∧ Stp E h w E' h' w1 := by
    intro E1 e1 h1' hq r s
    split at hq
    · rename_i vs hvs
      obtain ⟨v',g1,g2⟩ := results_ok r h5 hvs
      exact ⟨r.defers,v',g1,_,h1',E1,v',hq,rfl,g2,r.wr,s⟩
    · exact hq.elim
  cases ex with
  | normal => obtain ⟨E1,e1,h1',q,r,s⟩ := hl; exact fin E1 e1 h1' q r s
  | ret => obtain ⟨E1,e1,h1',q,r,s⟩ := hl; exact fin E1 e1 h1' q r s
  | exit i => obtain ⟨E1,e1,h1',q,r,s⟩ := hl; exact q.elim
  | goto l => exact hl.elim
  | panic c => exact hl.elim
  | outgrown => exact hl.elim
end
end Go.Dx
