/- A deterministic reading of the model's code: an operation that is no call does what is read. -/
import Derived.Test.YtpkefdoleieloaaCsz8
import Derived.Laws.StructEq
namespace Go.Dx
set_option linter.unusedVariables false
set_option linter.unusedSimpArgs false
theorem Xr {α β : Type} {o : Option α} {f : α → β} {b : β} (h : o.map f = some b) : ∃ a,o = some a ∧ f a = b := Option.map_eq_some_iff.1 h
section
variable {P : Program} {E : Emb} {e : Env} {h h' : Heap} {a : Act} {w : World} {nt : Nat} {d : Option Tmp} {ty : TypeId} {p : String} {af : Array Edge} {g : Option (Nat × Bool)}
theorem Xq {r : Result Value} {v v' : Value} {E' : Emb} {w' : World} (hr : r = .ok v' w') (hv : VR E' v v') (hw : WR E' h' w') (hs : Stp E h w E' h' w') :
    Did E h w (r.andThen fun a w1 => .ok (.value a) w1) v h' := ⟨v',E',w',.inl (by rw [hr]; rfl),hv,hw,hs⟩
theorem did_unit {r : Result Unit} {w' : World} (hr : r = .ok () w') (hw : WR E h' w') (hs : Stp E h w E h' w') :
    Did E h w (r.andThen fun _ w1 => .ok .skip w1) Xl h' := ⟨Go.undef,E,w',.inr ⟨by rw [hr]; rfl,rfl⟩,VR.undef,hw,hs⟩
theorem Xw (s : Sem Value) : ((do pure (.value (← s)) : Sem Next)).run P w = (s.run P w).andThen fun a w1 => .ok (.value a) w1 := by simp
theorem run_u (s : Sem Unit) : ((do s; pure .skip : Sem Next)).run P w = (s.run P w).andThen fun _ w1 => .ok .skip w1 := by simp
theorem Jl (R : Rel E e h a w nt) {x : Option Operand} {X : Option Arg} {v : Option Value} (hc : Vo x = some X) (hv : Zr e X = some v) : OptR E v (x.map a.eval) ∧ (v = none ↔ X = none) := by
  cases x with
  | none =>
    simp only [Vo,Option.some.injEq] at hc; subst hc
    simp only [Zr,Option.some.injEq] at hv; subst hv
    exact ⟨.none,by simp⟩
  | some x =>
    simp only [Vo] at hc
    obtain ⟨Y,hY,rfl⟩ := Xr hc
    simp only [Zr] at hv
    obtain ⟨u,hu,rfl⟩ := Xr hv
    exact ⟨.some _ _ (Wx R hY hu),by simp⟩
theorem ok_alloc (R : Rel E e h a w nt) {t : TypeId} {z v : Value} (hz : Zh P t = some z) (hr : (SO.new z.cells.toList).run e h = some (v,h')) : Did E h w ((execOp a.eval ⟨d,.alloc t,ty,p,af,g⟩).run P w) v h' := by
  simp only [SO.run,Option.some.injEq,Prod.mk.injEq] at hr
  obtain ⟨rfl,rfl⟩ := hr
  obtain ⟨hzr,hf,_,_⟩ := Yf (P := P) hz w
  obtain ⟨hw,hs⟩ := new_ok R.wr (el := t) (size := 0) (Zj (E := E) 0 _ hf)
  simp only [execOp,Xw]
  refine Xq (v' := .pointer (some ⟨w.heap.size,0,none⟩)) ?_ new_ptr hw hs
  simp [Instr.alloc,hzr,newVar,newRow]
theorem ok_box (R : Rel E e h a w nt) {t : TypeId} {x : Operand} {X : Arg} {v : Value} (hx : Wv x = some X) (hr : (SO.box X).run e h = some (v,h')) : Did E h w ((execOp a.eval ⟨d,.box t x,ty,p,af,g⟩).run P w) v h' := by
  simp only [SO.run] at hr
  obtain ⟨u,hu,hq⟩ := Xr hr
  simp only [Prod.mk.injEq] at hq
  obtain ⟨rfl,rfl⟩ := hq
  have hv := Wx R hx hu
  obtain ⟨hw,hs⟩ := new_ok R.wr (el := t) (size := 0) hv.cells
  simp only [execOp,Xw]
  refine Xq (v' := .pointer (some ⟨w.heap.size,0,none⟩)) ?_ new_ptr hw hs
  simp [Instr.box,newVar,newRow]
theorem places_ok : ∀ (fs : List Field) (ps : List (Nat × Nat)),Jh P fs = some ps → (fs.mapM fun f => (do pure (f.offset,← sizeOf f.type) : Sem (Nat × Nat))).run P w = .ok ps w
  | [],ps,hp => by simp only [Jh,Option.some.injEq] at hp; subst hp; rfl
  | f :: fs,ps,hp => by
    simp only [Jh] at hp
    cases h1 : Zs P f.type with
    | none => rw [h1] at hp; simp at hp
    | some s =>
      cases h2 : Jh P fs with
      | none => rw [h1,h2] at hp; simp at hp
      | some l =>
        rw [h1,h2] at hp; simp at hp; subst hp
        rw [List.mapM_cons]
        simp only [Sem.run_bind,Xv h1,Result.andThen_ok,Sem.run_pure,places_ok fs l h2]
theorem ok_build (R : Rel E e h a w nt) {t : TypeId} {parts : Array (Nat × Operand)} {so : SO} {v : Value} (hc : Wz P (.build t parts) = some so) (hr : so.run e h = some (v,h')) :
    Did E h w ((execOp a.eval ⟨d,.build t parts,ty,p,af,g⟩).run P w) v h' := by
  simp only [Wz] at hc
  cases hz : Zh P t with
  | none => rw [hz] at hc; simp at hc
  | some z =>
    obtain ⟨hzr,hf,_,_⟩ := Yf (P := P) hz w
    cases hu : P.underlying t with
    | none => rw [hz,hu] at hc; simp at hc
    | some dd =>
      rw [hz,hu] at hc
      have fin : ∀ (place : Nat → Option (Nat × Nat)) (l : List (Nat × Nat × Arg)),Zp place parts.toList = some l → so = .build z.cells.toList l →
          ∃ r r',v = .agg ⟨r⟩ ∧ h' = h ∧ Instr.fill place z.cells (parts.map fun (p : Nat × Operand) => (p.1,a.eval p.2)).toList = some ⟨r'⟩ ∧ VRL E r r' := by
        intro place l hl hso
        subst hso
        simp only [SO.run] at hr
        cases hp : Yk e l with
        | none => rw [hp] at hr; simp at hr
        | some ps =>
          rw [hp] at hr
          simp only at hr
          obtain ⟨r,hfil,hq⟩ := Xr hr
          simp only [Prod.mk.injEq] at hq
          obtain ⟨rfl,rfl⟩ := hq
          obtain ⟨r',h1,h2⟩ := fill_ok R place parts.toList l ps z.cells.toList z.cells.toList r hl hp (Zj 0 _ hf) hfil
          exact ⟨r,r',rfl,rfl,by simpa using h1,h2⟩
      cases dd with
      | struct fs =>
        simp only at hc
        cases hps : Jh P fs.toList with
        | none => rw [hps] at hc; simp at hc
        | some ps =>
          rw [hps] at hc
          simp only at hc
          obtain ⟨l,hl,hso⟩ := Xr hc
          obtain ⟨r,r',rfl,rfl,hfil,hrr⟩ := fin _ l hl hso.symm
          simp only [execOp,Xw]
          refine Xq (v' := .agg ⟨r'⟩) ?_ (.agg _ _ hrr) R.wr (Stp.refl _ _ _)
          unfold Instr.build
          have hpl := places_ok (w := w) fs.toList ps hps
          have hpl2 : (fs.mapM fun f => (do pure (f.offset,← sizeOf f.type) : Sem (Nat × Nat))).run P w = .ok ⟨ps⟩ w := by
            rw [Array.mapM_eq_mapM_toList,Sem.run_map,hpl]
            rfl
          simp only [Sem.run_bind,hzr,Result.andThen_ok,Wq hu,hpl2]
          have e1 : (fun (i : Nat) => (({ toList := ps } : Array (Nat × Nat)))[i]?) = (fun (i : Nat) => ps[i]?) := by funext i; simp
          rw [e1,hfil]
          rfl
      | array n el =>
        simp only at hc
        cases hsz : Zs P el with
        | none => rw [hsz] at hc; simp at hc
        | some s =>
          rw [hsz] at hc
          simp only at hc
          obtain ⟨l,hl,hso⟩ := Xr hc
          obtain ⟨r,r',rfl,rfl,hfil,hrr⟩ := fin _ l hl hso.symm
          simp only [execOp,Xw]
          refine Xq (v' := .agg ⟨r'⟩) ?_ (.agg _ _ hrr) R.wr (Stp.refl _ _ _)
          unfold Instr.build
          simp only [Sem.run_bind,hzr,Result.andThen_ok,Wq hu,Xv hsz]
          rw [hfil]
          rfl
      | _ => simp at hc
theorem ok_bslice (R : Rel E e h a w nt) {t : TypeId} {len : Nat} {parts : Array (Nat × Operand)} {so : SO} {v : Value} (hc : Wz P (.buildSlice t len parts) = some so) (hr : so.run e h = some (v,h')) :
    Did E h w ((execOp a.eval ⟨d,.buildSlice t len parts,ty,p,af,g⟩).run P w) v h' := by
  simp only [Wz] at hc
  cases hu : P.underlying t with
  | none => rw [hu] at hc; simp at hc
  | some dd =>
    cases dd with
    | slice el =>
      rw [hu] at hc
      simp only at hc
      cases hs : Zs P el with
      | none => rw [hs] at hc; simp at hc
      | some s =>
        cases hz : Zh P el with
        | none => rw [hs,hz] at hc; simp at hc
        | some z =>
          rw [hs,hz] at hc
          simp only at hc
          cases hb : (len * s).ble 16777216 && !(s.beq 0) && z.cells.toList.length.beq s with
          | false => rw [hb] at hc; simp at hc
          | true =>
            rw [hb] at hc
            simp only [cond_true] at hc
            obtain ⟨l,hl,rfl⟩ := Xr hc
            simp only [Bool.and_eq_true,Bool.not_eq_true',Ww,decide_eq_true_eq,decide_eq_false_iff_not] at hb
            obtain ⟨⟨hb1,hb2⟩,hb3⟩ := hb
            have hb1' := Nat.le_of_ble_eq_true hb1
            obtain ⟨hzr,hf,_,_⟩ := Yf (P := P) hz w
            simp only [SO.run] at hr
            cases hp : Yk e l with
            | none => rw [hp] at hr; simp at hr
            | some ps =>
              rw [hp] at hr
              simp only at hr
              obtain ⟨r,hfil,hq⟩ := Xr hr
              simp only [Prod.mk.injEq] at hq
              obtain ⟨rfl,rfl⟩ := hq
              obtain ⟨r',h1,h2⟩ := fill_ok R _ parts.toList l ps (Xt z.cells.toList len) (Xt z.cells.toList len) r hl hp (Qa hf len) hfil
              have hrl : r.length = len * s := by
                have : ∀ (ps : List (Nat × Nat × Value)) (za r : List Value),Jk za ps = some r → r.length = za.length := by
                  intro ps
                  induction ps with
                  | nil => intro za r hh; simp only [Jk,Option.some.injEq] at hh; subst hh; rfl
                  | cons q ps ih =>
                    obtain ⟨o,s,v⟩ := q
                    intro za r hh
                    simp only [Jk] at hh
                    cases hq : v.cells.size.beq s && (o + s).ble za.length with
                    | false => rw [hq] at hh; simp at hh
                    | true =>
                      rw [hq] at hh
                      simp only [cond_true] at hh
                      rw [ih _ _ hh,Za]
                rw [this _ _ _ hfil,Zd,hb3]
              obtain ⟨hw,hst⟩ := new_ok R.wr (el := el) (size := s) h2
              simp only [execOp,Xw]
              refine Xq (v' := .slice (some ⟨w.heap.size,0,none⟩) len len) ?_ (new_slice _ (capOne _ _) hrl len (Nat.le_refl _)) hw hst
              unfold Instr.buildSlice
              have hle : ¬ (len * s > 2 ^ 24) := by omega
              simp only [Sem.run_bind,Wq hu,Result.andThen_ok,Xv hs,hle,if_false,Sem.run_pure]
              have hcells : ∀ zz : Array Value,(zz = z.cells ∨ len * s = 0) → ((Array.range (len * s)).map (zz[· % zz.size]!)) = ⟨Xt z.cells.toList len⟩ := by
                intro zz hzz
                rcases hzz with rfl | h0
                · rw [Vi,← Zz,hb3]
                · have : len = 0 := by
                    rcases Nat.mul_eq_zero.1 h0 with q | q
                    · exact q
                    · exact absurd q hb2
                  subst this
                  simp [Xt]
              have h1' : Instr.fill (fun i => some (i * s,s)) ⟨Xt z.cells.toList len⟩ (parts.map fun (p : Nat × Operand) => (p.1,a.eval p.2)).toList = some ⟨r'⟩ := by simpa using h1
              by_cases h0 : len * s = 0
              · have hc0 := hcells #[] (.inr h0)
                rw [if_pos h0]
                simp only [Sem.run_bind,Sem.run_pure,Result.andThen_ok]
                rw [hc0,h1']
                simp [newRow]
              · rw [if_neg h0]
                simp only [Sem.run_bind,Sem.run_pure,Result.andThen_ok,hzr]
                rw [hcells z.cells (.inl rfl),h1']
                simp [newRow]
    | _ => rw [hu] at hc; simp at hc
theorem ok_load (R : Rel E e h a w nt) {t : TypeId} {x : Operand} {so : SO} {v : Value} (hc : Wz P (.load t x) = some so) (hr : so.run e h = some (v,h')) : Did E h w ((execOp a.eval ⟨d,.load t x,ty,p,af,g⟩).run P w) v h' := by
  simp only [Wz] at hc
  cases h1 : Wv x with
  | none => rw [h1] at hc; simp at hc
  | some X =>
    cases h2 : Zs P t with
    | none => rw [h1,h2] at hc; simp at hc
    | some n =>
      cases h3 : aggT P t with
      | none => rw [h1,h2,h3] at hc; simp at hc
      | some gg =>
        rw [h1,h2,h3] at hc
        simp only [Option.some.injEq] at hc; subst hc
        simp only [SO.run] at hr
        cases h4 : X.ev e with
        | none => rw [h4] at hr; simp at hr
        | some u =>
          rw [h4] at hr
          simp only at hr
          obtain ⟨v1,hv1,hq⟩ := Xr hr
          simp only [Prod.mk.injEq] at hq
          obtain ⟨rfl,rfl⟩ := hq
          obtain ⟨v',h5,h6⟩ := ldV_ok R.wr h2 h3 (Wx R h1 h4) hv1
          simp only [execOp,Xw]
          exact Xq h5 h6 R.wr (Stp.refl _ _ _)
theorem ok_store (R : Rel E e h a w nt) {t : TypeId} {x y : Operand} {so : SO} {v : Value} (hc : Wz P (.store t x y) = some so) (hr : so.run e h = some (v,h')) : Did E h w ((execOp a.eval ⟨d,.store t x y,ty,p,af,g⟩).run P w) v h' := by
  simp only [Wz] at hc
  cases h1 : Wv x with
  | none => rw [h1] at hc; simp at hc
  | some X =>
    cases h2 : Wv y with
    | none => rw [h1,h2] at hc; simp at hc
    | some Y =>
      cases h3 : Zs P t with
      | none => rw [h1,h2,h3] at hc; simp at hc
      | some n =>
        rw [h1,h2,h3] at hc
        simp only [Option.some.injEq] at hc; subst hc
        simp only [SO.run] at hr
        split at hr
        · rename_i id off u h4 h5
          cases hb : u.cells.size.beq n with
          | false => rw [hb] at hr; simp at hr
          | true =>
            rw [hb] at hr
            simp only [cond_true] at hr
            obtain ⟨h2',hwr,hq⟩ := Xr hr
            simp only [Prod.mk.injEq] at hq
            obtain ⟨rfl,rfl⟩ := hq
            have hp := Wx R h1 h4
            have hu := Wx R h2 h5
            have hn : u.cells.size = n := by simpa [Ww] using hb
            simp only [execOp,run_u]
            cases hap : a.eval x with
            | pointer ad =>
              rw [hap] at hp
              cases hp with
              | ptr _ _ en he hm =>
                obtain ⟨w',hst,hw',hstp⟩ := wr_ok (P := P) R.wr he hu.cells hwr
                refine did_unit (w' := w') ?_ hw' hstp
                have hcl := VRL.length hu.cells
                have hsz : (a.eval y).cells.size = n := by rw [← Array.length_toList,← hcl,Array.length_toList]; exact hn
                unfold Instr.storeAt Instr.sureAddr storeVar
                simp [Xv h3,hsz,hst]
            | _ => rw [hap] at hp; cases hp
        · cases hr
theorem ok_nilc (R : Rel E e h a w nt) {x : Operand} {so : SO} {v : Value} (hc : Wz P (.nilCheck x) = some so) (hr : so.run e h = some (v,h')) : Did E h w ((execOp a.eval ⟨d,.nilCheck x,ty,p,af,g⟩).run P w) v h' := by
  simp only [Wz] at hc
  obtain ⟨X,h1,rfl⟩ := Xr hc
  simp only [SO.run] at hr
  split at hr
  · rename_i ad h2
    simp only [Option.some.injEq,Prod.mk.injEq] at hr
    obtain ⟨rfl,rfl⟩ := hr
    have hp := Wx R h1 h2
    simp only [execOp]
    cases hap : a.eval x with
    | pointer ad =>
      rw [hap] at hp
      cases hp with
      | ptr _ _ en he hm => exact Did.quiet R.wr rfl (.ptr _ _ en he hm)
    | _ => rw [hap] at hp; cases hp
  · rename_i f b c h2
    simp only [Option.some.injEq,Prod.mk.injEq] at hr
    obtain ⟨rfl,rfl⟩ := hr
    have hp := Wx R h1 h2
    simp only [execOp]
    cases hap : a.eval x with
    | func fn b' c' =>
      rw [hap] at hp
      have hp2 := hp
      cases hp2
      exact Did.quiet R.wr rfl hp
    | _ => rw [hap] at hp; cases hp
  · cases hr
theorem Ka {neg : Bool} {t : TypeId} {x y : Arg} {so : SO} (hc : Ga P neg t x y = some so) : ∃ fs ks,P.underlying t = some (.struct fs) ∧ (P.stoodInHeld t = false ∧ P.eqGuardType P.depth t = false) ∧ Uz P 0 fs.toList = some ks ∧ so = .eqs neg ks x y := by
  unfold Ga at hc
  split at hc
  · rename_i fs hu
    cases hb : !P.stoodInHeld t && !P.eqGuardType P.depth t with
    | false => rw [hb] at hc; simp at hc
    | true =>
      rw [hb] at hc
      simp only [Bool.and_eq_true,Bool.not_eq_true'] at hb
      simp only [cond_true] at hc
      obtain ⟨ks,hks,rfl⟩ := Xr hc
      exact ⟨fs,ks,hu,hb,hks,rfl⟩
  · cases hc
def plainV : Value → Prop
  | .int _ _ => True
  | .bool _ => True
  | .string _ => True
  | _ => False
theorem VR_cell {E : Emb} {v v' : Value} (h : VR E v v') (hk : plainV v) : v' = v := by
  cases h <;> first | rfl | exact hk.elim
theorem get_of_drop {l : List Value} {i : Nat} {x : Value} {r : List Value} (h : l.drop i = x :: r) : l[i]? = some x ∧ l.drop (i + 1) = r := by
  have h1 : (l.drop i)[0]? = some x := by rw [h]; rfl
  have h2 : (l.drop i).drop 1 = r := by rw [h]; rfl
  rw [List.getElem?_drop] at h1
  rw [List.drop_drop] at h2
  exact ⟨by simpa using h1,by simpa using h2⟩
theorem eqFields_ok {n : Nat} {w : World} {xs ys xs' ys' : List Value} (hx : VRL E xs xs') (hy : VRL E ys ys') : ∀ (fs : List Field) (i : Nat) (ks : List EqF) (r : Bool),Uz P i fs = some ks → Yc ks (xs.drop i) (ys.drop i) = some r →
    (Op.eqFields (n + 1) ⟨xs'⟩ ⟨ys'⟩ fs).run P w = .ok r w
  | [],i,ks,r,hf,hr => by
    simp only [Uz,Option.some.injEq] at hf; subst hf
    simp only [Op.eqFields,Sem.run_pure]
    cases h1 : xs.drop i <;> cases h2 : ys.drop i <;> rw [h1,h2] at hr <;> simp [Yc] at hr
    rw [← hr]
  | f :: fs,i,ks,r,hf,hr => by
    simp only [Uz] at hf
    cases hk : Uz P (i + 1) fs with
    | none => rw [hk] at hf; simp at hf
    | some ks2 =>
      rw [hk] at hf
      simp only at hf
      cases hb : f.name != "_" && f.offset.beq i && decide (Zs P f.type = some 1) with
      | false => rw [hb] at hf; simp at hf
      | true =>
        rw [hb] at hf
        simp only [Bool.and_eq_true,bne_iff_ne,ne_eq,decide_eq_true_eq,Ww] at hb
        obtain ⟨⟨b1,b2⟩,b3⟩ := hb
        simp only [cond_true] at hf
        -- one field
        have one : ∀ (x y : Value) (rx ry : List Value) (q r2 : Bool) (dd : TypeDesc),P.underlying f.type = some dd → aggT P f.type = some false → xs.drop i = x :: rx → ys.drop i = y :: ry → plainV x → plainV y →
            (Op.equalIn (n + 1) f.type x y).run P w = .ok q w → Yc ks2 rx ry = some r2 → (Op.eqFields (n + 1) ⟨xs'⟩ ⟨ys'⟩ (f :: fs)).run P w = .ok (q && r2) w := by
          intro x y rx ry q r2 dd hu hg h1 h2 kx ky heq hrec
          obtain ⟨g1,d1⟩ := get_of_drop h1
          obtain ⟨g2,d2⟩ := get_of_drop h2
          obtain ⟨x',p1,v1⟩ := part_ok (P := P) (w := w) (g := false) (off := i) (v := x) b3 hg hx (by simpa [Km] using g1)
          obtain ⟨y',p2,v2⟩ := part_ok (P := P) (w := w) (g := false) (off := i) (v := y) b3 hg hy (by simpa [Km] using g2)
          have := VR_cell v1 kx; subst this
          have := VR_cell v2 ky; subst this
          have ih := eqFields_ok (n := n) (w := w) hx hy fs (i + 1) ks2 r2 hk (by rw [d1,d2]; exact hrec)
          simp only [Op.eqFields]
          rw [if_pos b1,b2]
          simp only [Sem.run_bind,p1,p2,Result.andThen_ok,heq]
          cases q <;> simp [ih]
        cases hu : P.underlying f.type with
        | none => rw [hu] at hf; simp at hf
        | some dd =>
          rw [hu] at hf
          have hg : ∀ (hd : dd ≠ .invalid),(∀ fs,dd ≠ .struct fs) → (∀ m e,dd ≠ .array m e) → aggT P f.type = some false := by
            intro _ q1 q2
            unfold aggT; rw [hu]
            cases dd <;> first | rfl | exact absurd rfl (q1 _) | exact absurd rfl (q2 _ _)
          cases dd with
          | int k0 =>
            simp only [Option.some.injEq] at hf; subst hf
            have hg := hg (by simp) (by simp) (by simp)
            cases h1 : xs.drop i with
            | nil => rw [h1] at hr; simp [Yc] at hr
            | cons x rx =>
              cases h2 : ys.drop i with
              | nil => rw [h1,h2] at hr; cases x <;> simp [Yc] at hr
              | cons y ry =>
                rw [h1,h2] at hr
                cases x with
                | int k a =>
                  cases y with
                  | int k' b =>
                    simp only [Yc] at hr
                    split at hr
                    · rename_i hkk; subst hkk
                      obtain ⟨r2,hr2,rfl⟩ := Xr hr
                      exact one _ _ _ _ _ _ _ hu hg h1 h2 trivial trivial (run_equalIn_int w n f.type k k0 a b hu) hr2
                    · cases hr
                  | _ => simp [Yc] at hr
                | _ => simp [Yc] at hr
          | bool =>
            simp only [Option.some.injEq] at hf; subst hf
            have hg := hg (by simp) (by simp) (by simp)
            cases h1 : xs.drop i with
            | nil => rw [h1] at hr; simp [Yc] at hr
            | cons x rx =>
              cases h2 : ys.drop i with
              | nil => rw [h1,h2] at hr; cases x <;> simp [Yc] at hr
              | cons y ry =>
                rw [h1,h2] at hr
                cases x with
                | bool a =>
                  cases y with
                  | bool b =>
                    simp only [Yc] at hr
                    obtain ⟨r2,hr2,rfl⟩ := Xr hr
                    exact one _ _ _ _ _ _ _ hu hg h1 h2 trivial trivial (run_equalIn_bool' w n f.type a b hu) hr2
                  | _ => simp [Yc] at hr
                | _ => simp [Yc] at hr
          | string =>
            simp only [Option.some.injEq] at hf; subst hf
            have hg := hg (by simp) (by simp) (by simp)
            cases h1 : xs.drop i with
            | nil => rw [h1] at hr; simp [Yc] at hr
            | cons x rx =>
              cases h2 : ys.drop i with
              | nil => rw [h1,h2] at hr; cases x <;> simp [Yc] at hr
              | cons y ry =>
                rw [h1,h2] at hr
                cases x with
                | string a =>
                  cases y with
                  | string b =>
                    simp only [Yc] at hr
                    obtain ⟨r2,hr2,rfl⟩ := Xr hr
                    exact one _ _ _ _ _ _ _ hu hg h1 h2 trivial trivial (by rw [run_equalIn_string w n f.type a b hu,beq_toListBytes]) hr2
                  | _ => simp [Yc] at hr
                | _ => simp [Yc] at hr
          | _ => simp at hf
theorem ok_bin (R : Rel E e h a w nt) {op : BinOp} {t yt : TypeId} {x y : Operand} {so : SO} {v : Value} (hc : Wz P (.binOp op t x y yt) = some so) (hr : so.run e h = some (v,h')) :
    Did E h w ((execOp a.eval ⟨d,.binOp op t x y yt,ty,p,af,g⟩).run P w) v h' := by
  simp only [Wz] at hc
  cases h1 : Wv x with
  | none => rw [h1] at hc; simp at hc
  | some X =>
    cases h2 : Wv y with
    | none => rw [h1,h2] at hc; simp at hc
    | some Y =>
      rw [h1,h2] at hc
      simp only at hc
      have plain : so = .bin op X Y → Did E h w ((execOp a.eval ⟨d,.binOp op t x y yt,ty,p,af,g⟩).run P w) v h' := by
        intro hso
        subst hso
        simp only [SO.run] at hr
        cases h3 : X.ev e with
        | none => rw [h3] at hr; simp at hr
        | some u =>
          cases h4 : Y.ev e with
          | none => rw [h3,h4] at hr; simp at hr
          | some v2 =>
            rw [h3,h4] at hr
            simp only at hr
            obtain ⟨v1,hv1,hq⟩ := Xr hr
            simp only [Prod.mk.injEq] at hq
            obtain ⟨rfl,rfl⟩ := hq
            obtain ⟨hb,hvv,hn1,hn2⟩ := binV_ok (P := P) (t := t) (w := w) hv1 (Wx R h1 h3) (Wx R h2 h4)
            simp only [execOp,Xw]
            refine Xq (v' := v1) ?_ hvv R.wr (Stp.refl _ _ _)
            rw [Sem.run_bind,eqGuard_run hn1 hn2]
            simpa using hb
      have eqk : ∀ (neg : Bool) (kd : EqK) (dd : TypeDesc),kd.fits dd = true → P.underlying t = some dd → op = (if neg then .neq else .eql) → so = .eqk neg kd X Y → Did E h w ((execOp a.eval ⟨d,.binOp op t x y yt,ty,p,af,g⟩).run P w) v h' := by
        intro neg kd dd hf ht hop hso
        subst hso
        simp only [SO.run] at hr
        cases h3 : X.ev e with
        | none => rw [h3] at hr; simp at hr
        | some u =>
          cases h4 : Y.ev e with
          | none => rw [h3,h4] at hr; simp at hr
          | some v2 =>
            rw [h3,h4] at hr
            simp only at hr
            obtain ⟨r,hv1,hq⟩ := Xr hr
            simp only [Prod.mk.injEq] at hq
            obtain ⟨rfl,rfl⟩ := hq
            obtain ⟨q1,q2,hn1,hn2⟩ := eqV_ok hf ht hv1 (Wx R h1 h3) (Wx R h2 h4) w
            simp only [execOp,Xw]
            refine Xq (v' := .bool (r != neg)) ?_ (.bool _) R.wr (Stp.refl _ _ _)
            rw [Sem.run_bind,eqGuard_run hn1 hn2]
            cases neg with
            | false => simp only [Bool.false_eq_true,if_false] at hop; subst hop; simpa using q1
            | true => simp only [if_true] at hop; subst hop; simpa using q2
      have eqs : ∀ (neg : Bool),op = (if neg then .neq else .eql) → Ga P neg t X Y = some so → Did E h w ((execOp a.eval ⟨d,.binOp op t x y yt,ty,p,af,g⟩).run P w) v h' := by
        intro neg hop hso
        obtain ⟨fs,ks,ht,hb,hks,rfl⟩ := Ka hso
        · skip
          simp only [SO.run] at hr
          split at hr
          · rename_i xs ys h3 h4
            obtain ⟨r,hv1,hq⟩ := Xr hr
            simp only [Prod.mk.injEq] at hq
            obtain ⟨rfl,rfl⟩ := hq
            have e1 := Wx R h1 h3
            have e2 := Wx R h2 h4
            cases hap : a.eval x with
            | agg xs' =>
              rw [hap] at e1
              cases hap2 : a.eval y with
              | agg ys' =>
                rw [hap2] at e2
                cases e1 with
                | agg _ xs2 hx =>
                  cases e2 with
                  | agg _ ys2 hy =>
                    have hfo : P.fieldsOf t = fs := by simp [Program.fieldsOf,ht]
                    have key := eqFields_ok (n := 9998) (w := w) hx hy fs.toList 0 ks r hks (by simpa using hv1)
                    have he : (Op.equalIn 10000 t (.agg ⟨xs2⟩) (.agg ⟨ys2⟩)).run P w = .ok r w := by
                      rw [run_equalIn_struct w 9999 t _ _ (by rw [hfo]; exact ht) hb.1,hfo]; exact key
                    simp only [execOp,Xw]
                    refine Xq (v' := .bool (r != neg)) ?_ (.bool _) R.wr (Stp.refl _ _ _)
                    rw [Sem.run_bind,hap,hap2,run_eqGuard_agg w op t x y _ _ hb.2,Result.andThen_ok]
                    cases neg with
                    | false => simp only [Bool.false_eq_true,if_false] at hop; subst hop; rw [run_eql_struct,he]; simp
                    | true => simp only [if_true] at hop; subst hop; rw [run_neq_struct,he]; simp
              | _ => rw [hap2] at e2; cases e2
            | _ => rw [hap] at e1; cases e1
          · cases hr
      unfold Ul at hc
      split at hc
      · cases hu : P.underlying t with
        | none => rw [hu] at hc; simp at hc
        | some dd =>
          rw [hu] at hc
          cases dd <;> simp only [Option.some.injEq,reduceCtorEq] at hc <;> first
            | exact plain hc.symm
            | exact eqk false _ _ rfl hu rfl hc.symm
            | exact eqs false rfl hc
      · cases hu : P.underlying t with
        | none => rw [hu] at hc; simp at hc
        | some dd =>
          rw [hu] at hc
          cases dd <;> simp only [Option.some.injEq,reduceCtorEq] at hc <;> first
            | exact plain hc.symm
            | exact eqk true _ _ rfl hu rfl hc.symm
            | exact eqs true rfl hc
      · simp only [Option.some.injEq] at hc
        exact plain hc.symm
end
end Go.Dx
