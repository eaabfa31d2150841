/- A deterministic reading of the model's code: regions, code, functions. -/
import Derived.Test.YtpkefdoleieloaaCsz11
namespace Go.Dx
set_option linter.unusedVariables false
set_option linter.unusedSimpArgs false
section
variable {P : Program} {E : Emb} {e : Env} {h h' : Heap} {a : Act} {w : World} {nt : Nat}
theorem exec_ok {o : Oper} {so : SO} {v : Value} (R : Rel E e h a w nt) (hc : Wz P o.op = some so) (hna : so.asCall = none) (hr : so.run e h = some (v,h')) : Did E h w ((execOp a.eval o).run P w) v h' := by
  obtain ⟨dst,op,type,pos,after,guard⟩ := o
  cases op with
  | move x => simp only [Wz] at hc; obtain ⟨X,hX,rfl⟩ := Xr hc; exact ok_move R hX hr
  | assign x => simp only [Wz] at hc; obtain ⟨X,hX,rfl⟩ := Xr hc; exact ok_move R hX hr
  | pick c x y => exact ok_pick R hc hr
  | alloc t => simp only [Wz] at hc; obtain ⟨z,hz,rfl⟩ := Xr hc; exact ok_alloc R hz hr
  | box t x => simp only [Wz] at hc; obtain ⟨X,hX,rfl⟩ := Xr hc; exact ok_box R hX hr
  | build t ps => exact ok_build R hc hr
  | buildSlice t n ps => exact ok_bslice R hc hr
  | load t x => exact ok_load R hc hr
  | store t x y => exact ok_store R hc hr
  | nilCheck x => exact ok_nilc R hc hr
  | binOp b t x y yt => exact ok_bin R hc hr
  | unOp b t x => simp only [Wz] at hc; obtain ⟨X,hX,rfl⟩ := Xr hc; exact ok_un R hX hr
  | convert s t x => exact ok_conv R hc hr
  | makeFunc fn x y => exact ok_mkF R hc hr
  | makeMap t r =>
    cases r with
    | none => simp only [Wz,Option.some.injEq] at hc; subst hc; exact ok_mkMap R hr
    | some r => simp [Wz] at hc
  | makeSlice t x y => exact ok_mkSl R hc hr
  | slice t x lo hi top => exact ok_slice R hc hr
  | fieldAddr t x f => exact ok_fa R hc hr
  | field t x f => exact ok_field R hc hr
  | indexAddr t x y => exact ok_ia R hc hr
  | index t x y => exact ok_ix R hc hr
  | lookup t x y ok => exact ok_look R hc hr
  | mapUpdate t x y z =>
    simp only [Wz] at hc
    split at hc
    · rename_i X Y Z kt el h1 h2 h3 hu
      obtain ⟨s,hk,rfl⟩ := Xr hc
      exact ok_mput R h1 h2 h3 hu hk hr
    · cases hc
  | insert t x y z =>
    simp only [Wz] at hc
    split at hc
    · rename_i X Y Z kt el h1 h2 h3 hu
      obtain ⟨s,hk,rfl⟩ := Xr hc
      exact ok_mput R h1 h2 h3 hu hk hr
    · cases hc
  | extract x i => exact ok_ext R hc hr
  | call c =>
    simp only [Wz] at hc
    split at hc
    · rename_i args hargs
      split at hc
      · rename_i b hb
        exact ok_builtin R hb hargs hc hr
      · simp only [Option.some.injEq] at hc; subst hc; simp [SO.asCall] at hna
      · obtain ⟨f,_,rfl⟩ := Xr hc; simp [SO.asCall] at hna
      · cases hc
    · cases hc
  | makeInterface t x => simp only [Wz,Option.some.injEq] at hc; subst hc; simp [SO.run] at hr
  | panic x => simp only [Wz,Option.some.injEq] at hc; subst hc; simp [SO.run] at hr
  | _ => simp [Wz] at hc
theorem Env.get_put (e : Env) (d : Option Nat) (v : Value) (t : Nat) : (e.put d v).get t = if d = some t then some v else e.get t := by
  cases d with
  | none => simp [Env.put]
  | some k =>
    simp only [Env.put,Env.get,Ww,Option.some.injEq]
    by_cases hk : k = t <;> simp [hk]
theorem Vw {a : Act} {d : Option Tmp} {v : Value} {t : Nat} (hd : ∀ k,d = some k → k < a.tmps.size) : (a.put d v).tmps[t]? = if d = some t then some v else a.tmps[t]? := by
  cases d with
  | none => simp [Act.put]
  | some k =>
    have := hd k rfl
    simp only [Act.put,Array.getElem?_setIfInBounds,Option.some.injEq]
    by_cases hk : k = t
    · subst hk; simp [this]
    · simp [hk]
theorem Rel.put (R : Rel E e h a w nt) {d : Option Tmp} {v v' : Value} (hd : ∀ k,d = some k → k < nt) (hv : VR E v v') : Rel E (e.put d v) h (a.put d v') w nt := by
  have hd2 : ∀ k,d = some k → k < a.tmps.size := fun k q => by rw [R.size]; exact hd k q
  refine ⟨fun t u hu => ?_,?_,?_,R.wr⟩
  · rw [Env.get_put] at hu
    rw [Vw hd2]
    split at hu
    · rename_i q; rw [if_pos q]; cases hu; exact ⟨v',rfl,hv⟩
    · rename_i q; rw [if_neg q]; exact R.env t u hu
  · cases d <;> simp [Act.put,R.size]
  · cases d <;> exact R.defers
theorem Rel.step {E1 : Emb} {h1 : Heap} {w1 : World} (R : Rel E e h a w nt) (hw : WR E1 h1 w1) (hs : Stp E h w E1 h1 w1) : Rel E1 e h1 a w1 nt :=
  ⟨fun t v hv => by obtain ⟨v',q,r⟩ := R.env t v hv; exact ⟨v',q,r.mono hs.ext⟩,R.size,R.defers,hw⟩
theorem Env.get_keep : ∀ (l : List Nat) (e : Env) (t : Nat) (v : Value),(e.keep l).get t = some v → e.get t = some v
  | [],e,t,v,hh => by simp [Env.keep,Env.get] at hh
  | k :: l,e,t,v,hh => by
    simp only [Env.keep] at hh
    split at hh
    · rename_i u hu
      simp only [Env.get,Ww] at hh
      by_cases hk : k = t
      · subst hk; simp at hh; subst hh; exact hu
      · simp [hk] at hh; exact Env.get_keep l e t v hh
    · exact Env.get_keep l e t v hh
theorem Rel.keep (R : Rel E e h a w nt) (l : List Nat) : Rel E (e.keep l) h a w nt :=
  ⟨fun t v hv => R.env t v (Env.get_keep l e t v hv),R.size,R.defers,R.wr⟩
theorem Ue {ops : Array Oper} {o : Oper} {so : SOp} {b : Bool} (R : Rel E e h a w nt) (hc : Zm P nt ops o = some so) (hw : so.wanted e = some b) : Region.wanted o (yielded ops a.tmps) = b := by
  have key : (o.guard = none ∧ so.guard = none) ∨ ∃ j want t,o.guard = some (j,want) ∧ (ops[j]?).bind (·.dst) = some t ∧ so.guard = some (t,want) := by
    unfold Zm at hc
    split at hc
    · cases hc
    · split at hc
      · rename_i d hd
        cases hb : d.blt nt with
        | false => rw [hb] at hc; simp at hc
        | true =>
          rw [hb] at hc
          simp only [cond_true] at hc
          split at hc
          · rename_i hg; simp only [Option.some.injEq] at hc; subst hc; exact .inl ⟨hg,rfl⟩
          · rename_i j want hg
            split at hc
            · rename_i t ht; simp only [Option.some.injEq] at hc; subst hc; exact .inr ⟨j,want,t,hg,ht,rfl⟩
            · cases hc
      · split at hc
        · rename_i hg; simp only [Option.some.injEq] at hc; subst hc; exact .inl ⟨hg,rfl⟩
        · rename_i j want hg
          split at hc
          · rename_i t ht; simp only [Option.some.injEq] at hc; subst hc; exact .inr ⟨j,want,t,hg,ht,rfl⟩
          · cases hc
  rcases key with ⟨k1,k2⟩ | ⟨j,want,t,k1,k2,k3⟩
  · unfold SOp.wanted at hw
    rw [k2] at hw
    simp only [Option.some.injEq] at hw
    subst hw
    simp [Region.wanted,k1]
  · unfold SOp.wanted at hw
    rw [k3] at hw
    simp only at hw
    unfold Region.wanted
    rw [k1]
    simp only
    split at hw
    · rename_i c hcv
      simp only [Option.some.injEq] at hw; subst hw
      obtain ⟨v',h1,h2⟩ := R.env t _ hcv
      cases h2
      simp [yielded,k2,h1]
    · rename_i hcv
      simp only [Option.some.injEq] at hw; subst hw
      obtain ⟨v',h1,h2⟩ := R.env t _ hcv
      obtain ⟨cs',rfl,_⟩ := VR_tup h2
      simp [yielded,k2,h1]
    · cases hw
theorem Qg {ops : Array Oper} {o : Oper} {so : SOp} (hc : Zm P nt ops o = some so) : Wz P o.op = some so.op ∧ so.dst = o.dst ∧ (∀ k,o.dst = some k → k < nt) := by
  unfold Zm at hc
  split at hc
  · cases hc
  · rename_i s hs
    split at hc
    · rename_i d hd
      cases hb : d.blt nt with
      | false => rw [hb] at hc; simp at hc
      | true =>
        have hlt : d < nt := by rw [Zq] at hb; simpa using hb
        rw [hb] at hc
        simp only [cond_true] at hc
        split at hc
        · simp only [Option.some.injEq] at hc; subst hc; exact ⟨hs,hd.symm,fun k q => by rw [hd] at q; cases q; exact hlt⟩
        · split at hc
          · simp only [Option.some.injEq] at hc; subst hc; exact ⟨hs,hd.symm,fun k q => by rw [hd] at q; cases q; exact hlt⟩
          · cases hc
    · rename_i hd
      split at hc
      · simp only [Option.some.injEq] at hc; subst hc; exact ⟨hs,hd.symm,fun k q => by rw [hd] at q; cases q⟩
      · split at hc
        · simp only [Option.some.injEq] at hc; subst hc; exact ⟨hs,hd.symm,fun k q => by rw [hd] at q; cases q⟩
        · cases hc
theorem compBin_noCall {op : BinOp} {t : TypeId} {x y : Arg} {so : SO} (hc : Ul P op t x y = some so) : so.asCall = none := by
  unfold Ul at hc
  repeat' (split at hc)
  all_goals first
    | (simp only [Option.some.injEq] at hc; subst hc; rfl)
    | (cases hc; done)
    | (obtain ⟨_,_,_,_,_,rfl⟩ := Ka hc; rfl)
theorem Kc {b : Builtin} {ts : List TypeId} {xs : List Arg} {so : SO} (hc : Zn P b ts xs = some so) : so.asCall = none := by
  unfold Zn at hc
  simp only [cond_eq_ite] at hc
  repeat' (split at hc)
  all_goals first
    | (cases hc; done)
    | (cases hc; rfl)
    | (obtain ⟨_,_,rfl⟩ := Xr hc; rfl)
theorem comp_noCall {op : Op} {so : SO} (hc : Wz P op = some so) (hn : ∀ c,op ≠ .call c) : so.asCall = none := by
  unfold Wz at hc
  simp only [cond_eq_ite] at hc
  repeat' (split at hc)
  all_goals first
    | (exfalso; exact hn _ rfl)
    | (cases hc; done)
    | (cases hc; rfl)
    | (obtain ⟨_,_,rfl⟩ := Xr hc; rfl)
    | (obtain ⟨_,_,_,_,rfl⟩ := Ju hc; rfl)
    | exact compBin_noCall hc
theorem call_ok {o : Oper} {so : SO} {F : Arg} {Args : List Arg} {f : Nat} {fi ca vs : List Value} {Qf : Value → Heap → Prop} {K : Act → World → Prop} {QQ : Exit → Act → World → Prop}
    (R : Rel E e h a w nt) (hc : Wz P o.op = some so) (hna : so.asCall = some (F,Args)) (hF : F.ev e = some (.func (.func f) ⟨fi⟩ ⟨ca⟩)) (hA : evs e Args = some vs) (hfn : Fn P f (fi ++ vs ++ ca) h Qf)
    (hK : ∀ v v' E1 h1 w1,Qf v h1 → VR E1 v v' → WR E1 h1 w1 → Stp E h w E1 h1 w1 → K (a.put o.dst v') w1) : o.wp P a w K QQ := by
  obtain ⟨dst,op,type,pos,after,guard⟩ := o
  have main : ∀ (c : Call) (fo : Operand),op = .call c → c.callee = .value fo → Wv fo = some F → Yd c.args.toList = some Args → Oper.wp P ⟨dst,op,type,pos,after,guard⟩ a w K QQ := by
    intro c fo hop hcal hfo hargs
    subst hop
    have hf := Wx R hfo hF
    have ha := args_ok R hargs hA
    obtain ⟨⟨fn,hfun,hbody,hname⟩,hcalls⟩ := hfn
    have hfv : ∃ fi' ca',a.eval fo = .func (.func f) ⟨fi'⟩ ⟨ca'⟩ ∧ VRL E fi fi' ∧ VRL E ca ca' := by
      generalize a.eval fo = y at hf
      cases hf
      exact ⟨_,_,rfl,by assumption,by assumption⟩
    obtain ⟨fi',ca',hfe,hfi,hca⟩ := hfv
    have hargsv : c.args.map a.eval = ⟨c.args.toList.map a.eval⟩ := by apply Array.ext'; simp
    have hrun : (execOp a.eval ⟨dst,.call c,type,pos,after,guard⟩).run P w = .ok (.enter f ⟨fi' ++ c.args.toList.map a.eval ++ ca'⟩) w := by
      simp only [execOp,Sem.run_bind]
      unfold resolve
      simp only [hcal,hfe,hargsv,Deferred.ofValue,Sem.run_pure,Result.andThen_ok]
      unfold invoke callFunc
      simp only [Sem.run_bind,run_program,Result.andThen_ok,hfun]
      rw [if_neg (by rw [hname]; simp),if_neg (by rw [hbody]; simp)]
      simp
    unfold Oper.wp
    rw [hrun]
    simp only [Oper.upon]
    refine (hcalls E w _ R.wr (VRL.append (VRL.append hfi ha) hca)).mono ?_
    rintro en w1 ⟨v,h1,E1,v',q1,rfl,q2,q3,q4⟩
    exact hK v v' E1 h1 w1 q1 q2 q3 q4
  have hcall : ∃ c,op = .call c := by
    by_cases q : ∃ c,op = .call c
    · exact q
    · have := comp_noCall hc (fun c hq => q ⟨c,hq⟩)
      rw [this] at hna; cases hna
  obtain ⟨c,rfl⟩ := hcall
  simp only [Wz] at hc
  split at hc
  · rename_i args hargs
    split at hc
    · rename_i b hb
      rw [Kc hc] at hna; cases hna
    · rename_i ff hff
      simp only [Option.some.injEq] at hc; subst hc
      simp only [SO.asCall,Option.some.injEq,Prod.mk.injEq] at hna
      obtain ⟨rfl,rfl⟩ := hna
      exact main c (.func ff) rfl hff rfl hargs
    · rename_i fo _ hff
      obtain ⟨F2,hF2,rfl⟩ := Xr hc
      simp only [SO.asCall,Option.some.injEq,Prod.mk.injEq] at hna
      obtain ⟨rfl,rfl⟩ := hna
      exact main c fo rfl hff hF2 hargs
    · cases hc
  · cases hc
end
end Go.Dx
