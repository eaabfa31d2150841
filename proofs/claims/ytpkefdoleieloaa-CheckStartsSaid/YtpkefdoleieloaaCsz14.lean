/- A deterministic reading of the model's code: operations by what they need of memory. -/
import Derived.Test.YtpkefdoleieloaaCsz13
namespace Go.Dx
set_option linter.unusedVariables false
set_option linter.unusedSimpArgs false
inductive Cls where
  | pure | read | make | act
  deriving DecidableEq
def SO.cls : SO → Cls
  | .mov _ | .pick _ _ _ | .build _ _ | .nilc _ | .bin _ _ _ | .eqk _ _ _ _ | .eqs _ _ _ _ | .un _ _ | .conv _ _ | .mkF _ _ _ | .slS _ _ _ | .fa _ _ | .fld _ _ _ _ | .iaA _ _ _ _ | .iaV _ _ _ | .ixS _ _ | .ixA _ _ _ _ _
  | .ext _ _ | .lenV _ | .lenS _ | .mx _ _ | .mn _ _ => .pure
  | .ld _ _ _ | .toStr _ | .slV _ _ _ _ _ | .look _ _ _ _ _ | .lenM _ | .capV _ => .read
  | .new _ | .box _ | .bslice _ _ _ _ | .mkMap | .mkSl _ _ _ _ _ | .toBytes _ => .make
  | _ => .act
def Arg.tmps : Arg → List Nat
  | .t n => [n]
  | .c _ => []
def Qe : Option Arg → List Nat
  | some x => x.tmps
  | none => []
def Zv : List Arg → List Nat
  | [] => []
  | x :: r => x.tmps ++ Zv r
def Jd : List (Nat × Nat × Arg) → List Nat
  | [] => []
  | (_,_,x) :: r => x.tmps ++ Jd r
def SO.tmps : SO → List Nat
  | .mov x | .box x | .nilc x | .un _ x | .conv _ x | .toStr x | .toBytes x | .mark x | .fa _ x | .fld _ _ _ x | .ext x _ | .lenV x | .lenS x | .lenM x | .capV x | .ld _ _ x | .clr _ _ x => x.tmps
  | .pick c a b => c.tmps ++ a.tmps ++ b.tmps
  | .new _ | .mkMap => []
  | .build _ ps | .bslice _ _ _ ps => Jd ps
  | .st _ a x | .bin _ a x | .eqk _ _ a x | .eqs _ _ a x | .mkSl _ _ _ a x | .iaA _ _ a x | .iaV _ a x | .ixS a x | .ixA _ _ _ a x | .look _ _ _ a x | .app _ _ a x | .appZ _ _ _ a x | .copy _ a x | .del _ a x | .mx a x | .mn a x => a.tmps ++ x.tmps
  | .mkF _ a b => Zv a ++ Zv b
  | .slS x lo hi => x.tmps ++ Qe lo ++ Qe hi
  | .slV _ x lo hi m => x.tmps ++ Qe lo ++ Qe hi ++ Qe m
  | .mput _ m k v => m.tmps ++ k.tmps ++ v.tmps
  | .call _ as => Zv as
  | .callv f as => f.tmps ++ Zv as
  | .chk _ _ a t => a.tmps ++ [t]
  | .chkV _ x lo hi m t => x.tmps ++ Qe lo ++ Qe hi ++ Qe m ++ [t]
  | .chkS x t => x.tmps ++ [t]
  | .bad => []
theorem Arg.ev_congr {e e' : Env} {x : Arg} (h : ∀ t ∈ x.tmps,e'.get t = e.get t) : x.ev e' = x.ev e := by
  cases x with
  | t n => exact h n (by simp [Arg.tmps])
  | c v => rfl
theorem optEv_congr {e e' : Env} {x : Option Arg} (h : ∀ t ∈ Qe x,e'.get t = e.get t) : Zr e' x = Zr e x := by
  cases x with
  | none => rfl
  | some x => simp only [Zr]; rw [Arg.ev_congr h]
theorem Gl {e e' : Env} : ∀ {l : List Arg},(∀ t ∈ Zv l,e'.get t = e.get t) → evs e' l = evs e l
  | [],_ => rfl
  | x :: r,h => by
    simp only [evs]
    rw [Arg.ev_congr (fun t ht => h t (by simp [Zv,ht])),Gl (fun t ht => h t (by simp [Zv,ht]))]
theorem Us {e e' : Env} : ∀ {l : List (Nat × Nat × Arg)},(∀ t ∈ Jd l,e'.get t = e.get t) → Yk e' l = Yk e l
  | [],_ => rfl
  | (_,_,x) :: r,h => by
    simp only [Yk]
    rw [Arg.ev_congr (fun t ht => h t (by simp [Jd,ht])),Us (fun t ht => h t (by simp [Jd,ht]))]
theorem run_congr {so : SO} {e e' : Env} {h : Heap} (hc : so.cls = .pure ∨ so.cls = .read ∨ so.cls = .make) (ht : ∀ t ∈ so.tmps,e'.get t = e.get t) : so.run e' h = so.run e h := by
  have ev : ∀ x : Arg,(∀ t ∈ x.tmps,t ∈ so.tmps) → x.ev e' = x.ev e := fun x hx => Arg.ev_congr fun t q => ht t (hx t q)
  have eo : ∀ x : Option Arg,(∀ t ∈ Qe x,t ∈ so.tmps) → Zr e' x = Zr e x := fun x hx => optEv_congr fun t q => ht t (hx t q)
  have es : ∀ x : List Arg,(∀ t ∈ Zv x,t ∈ so.tmps) → evs e' x = evs e x := fun x hx => Gl fun t q => ht t (hx t q)
  have ep : ∀ x,(∀ t ∈ Jd x,t ∈ so.tmps) → Yk e' x = Yk e x := fun x hx => Us fun t q => ht t (hx t q)
  cases so <;> first
    | (simp [SO.cls] at hc; done)
    | (simp only [SO.run]
       repeat (first
         | rw [ev _ (by intro t q; simp only [SO.tmps,List.mem_append]; simp [q])]
         | rw [eo _ (by intro t q; simp only [SO.tmps,List.mem_append]; simp [q])]
         | rw [es _ (by intro t q; simp only [SO.tmps,List.mem_append]; simp [q])]
         | rw [ep _ (by intro t q; simp only [SO.tmps,List.mem_append]; simp [q])])
       done)
    | skip
theorem run_pure {so : SO} {e : Env} {h h1 : Heap} {v : Value} (hc : so.cls = .pure) (hr : so.run e h = some (v,h1)) : h1 = h ∧ ∀ h2,so.run e h2 = some (v,h2) := by
  cases so <;> first
    | (simp [SO.cls] at hc; done)
    | (simp only [SO.run] at hr ⊢
       first
         | (obtain ⟨u,hu,hq⟩ := Xr hr; simp only [Prod.mk.injEq] at hq; obtain ⟨rfl,rfl⟩ := hq; exact ⟨rfl,fun h2 => by simp [hu]⟩)
         | (split at hr
            all_goals first
              | (cases hr; done)
              | (split at hr
                 all_goals first
                   | (cases hr; done)
                   | (cases hr; exact ⟨rfl,fun h2 => by simp [*]⟩)
                   | (obtain ⟨u,hu,hq⟩ := Xr hr; simp only [Prod.mk.injEq] at hq; obtain ⟨rfl,rfl⟩ := hq; exact ⟨rfl,fun h2 => by simp [*]⟩))
              | (obtain ⟨u,hu,hq⟩ := Xr hr; simp only [Prod.mk.injEq] at hq; obtain ⟨rfl,rfl⟩ := hq; exact ⟨rfl,fun h2 => by simp [*]⟩)
              | (cases hr; exact ⟨rfl,fun h2 => by simp [*]⟩)))
theorem Yu {h : Heap} {o ob : AObj} {i : Nat} (hg : h.get i = some o) : (h.add ob).get i = some o := by
  rw [Heap.get_add,if_neg (by have := Heap.get_lt hg; omega)]; exact hg
theorem rd_add {h : Heap} {ob : AObj} {id off n : Nat} {l : List Value} (hr : rd h id off n = some l) : rd (h.add ob) id off n = some l := by
  unfold rd at hr ⊢
  cases hg : h.get id with
  | none => rw [hg] at hr; simp at hr
  | some o => rw [Yu hg]; rw [hg] at hr; exact hr
theorem ldV_add {h : Heap} {ob : AObj} {n : Nat} {g : Bool} {p v : Value} (hr : ldV h n g p = some v) : ldV (h.add ob) n g p = some v := by
  unfold ldV at hr ⊢
  split at hr
  · cases g with
    | true =>
      simp only at hr ⊢
      obtain ⟨l,hl,rfl⟩ := Xr hr
      rw [rd_add hl]; rfl
    | false =>
      rename_i id off
      simp only at hr ⊢
      cases hg : h.get id with
      | none => rw [hg] at hr; simp at hr
      | some o => rw [Yu hg]; rw [hg] at hr; exact hr
  · cases hr
theorem run_ld_add {n : Nat} {g : Bool} {x : Arg} {e : Env} {h h1 : Heap} {v : Value} (hr : (SO.ld n g x).run e h = some (v,h1)) : h1 = h ∧ ∀ ob,(SO.ld n g x).run e (h.add ob) = some (v,h.add ob) := by
  simp only [SO.run] at hr ⊢
  split at hr
  · rename_i p hp
    obtain ⟨u,hu,hq⟩ := Xr hr
    simp only [Prod.mk.injEq] at hq
    obtain ⟨rfl,rfl⟩ := hq
    exact ⟨rfl,fun ob => by rw [ldV_add hu]; rfl⟩
  · cases hr
theorem slOk_add {h : Heap} {ob : AObj} {size : Nat} {s : Value} (hs : Jy h size s = true) : Jy (h.add ob) size s = true := by
  unfold Jy at hs ⊢
  split at hs
  · rfl
  · rename_i id off l c
    cases hcb : c.beq 0 with
    | true => rfl
    | false =>
      rw [hcb,Bool.false_or] at hs
      rw [Bool.false_or]
      cases hg : h.get id with
      | none => rw [hg] at hs; simp at hs
      | some o => rw [Yu hg]; rw [hg] at hs; exact hs
  · cases hs
theorem slot_add {h : Heap} {ob : AObj} {size id off len cap : Nat} (hs : Jy h size (.slice (some ⟨id,off,none⟩) len cap) = true) : cap.beq 0 = true ∨ (h.add ob).get id = h.get id := by
  unfold Jy at hs
  simp only at hs
  cases hcb : cap.beq 0 with
  | true => exact .inl rfl
  | false =>
    rw [hcb,Bool.false_or] at hs
    cases hg : h.get id with
    | none => rw [hg] at hs; cases hs
    | some o => exact .inr (Yu hg)
theorem slB_add {h : Heap} {ob : AObj} {size len cap : Nat} {a : Option Addr} {lo hi : Option Value} (hs : Jy h size (.slice a len cap) = true) : slB (h.add ob) size a len cap lo hi = slB h size a len cap lo hi := by
  have : Uv (h.add ob) size a len cap = Uv h size a len cap := by
    unfold Uv
    split
    · rcases slot_add (ob := ob) hs with q | q
      · rw [q]; rfl
      · rw [q]
    · rfl
  unfold slB; rw [this]
theorem tipOf_add {h : Heap} {ob : AObj} {size len cap m : Nat} {a : Option Addr} (hs : Jy h size (.slice a len cap) = true) : tipOf (h.add ob) size m a cap = tipOf h size m a cap := by
  unfold tipOf
  split
  · rcases slot_add (ob := ob) hs with q | q
    · rw [q]; rfl
    · rw [q]
  · rfl
theorem run_read {so : SO} {e : Env} {h h1 : Heap} {v : Value} (hc : so.cls = .read) (hr : so.run e h = some (v,h1)) : h1 = h ∧ ∀ ob,so.run e (h.add ob) = some (v,h.add ob) := by
  cases so with
  | ld n g x => exact run_ld_add hr
  | toStr x =>
    simp only [SO.run] at hr ⊢
    split at hr
    · cases hr; exact ⟨rfl,fun _ => rfl⟩
    · rename_i id off len c hx
      cases hb : len.beq 0 with
      | true => rw [hb] at hr; simp only [cond_true] at hr; cases hr; exact ⟨rfl,fun _ => rfl⟩
      | false =>
        rw [hb] at hr
        simp only [cond_false] at hr
        cases hrd : rd h id off len with
        | none => rw [hrd] at hr; simp at hr
        | some l =>
          rw [hrd] at hr
          simp only at hr
          obtain ⟨u,hu,hq⟩ := Xr hr
          simp only [Prod.mk.injEq] at hq
          obtain ⟨rfl,rfl⟩ := hq
          exact ⟨rfl,fun ob => by simp only [cond_false]; rw [rd_add hrd]; simp [hu]⟩
    · cases hr
  | slV s x lo hi m =>
    simp only [SO.run] at hr ⊢
    split at hr
    · rename_i sv lov hiv mv h1 h2 h3 h4
      obtain ⟨u,hu,hq⟩ := Xr hr
      simp only [Prod.mk.injEq] at hq
      obtain ⟨rfl,rfl⟩ := hq
      refine ⟨rfl,fun ob => ?_⟩
      have : slVV (h.add ob) s sv lov hiv mv = some u := by
        unfold slVV at hu ⊢
        split at hu
        · cases hs : Jy h s (.slice _ _ _) with
          | false => rw [hs] at hu; simp at hu
          | true => rw [hs] at hu; simp only [slOk_add hs,slB_add hs,tipOf_add hs]; exact hu
        · cases hu
      rw [this]; rfl
    · cases hr
  | look str z ok m k =>
    simp only [SO.run] at hr ⊢
    split at hr
    · cases hr; exact ⟨rfl,fun _ => rfl⟩
    · rename_i id kv h1 h2
      split at hr
      · rename_i es hg
        split at hr
        · rename_i u hl; cases hr; exact ⟨rfl,fun ob => by simp only [Yu hg,hl]⟩
        · rename_i hl; cases hr; exact ⟨rfl,fun ob => by simp only [Yu hg,hl]⟩
        · cases hr
      · cases hr
    · cases hr
  | lenM x =>
    simp only [SO.run] at hr ⊢
    split at hr
    · cases hr; exact ⟨rfl,fun _ => rfl⟩
    · rename_i id hx
      split at hr
      · rename_i es hg; cases hr; exact ⟨rfl,fun ob => by simp only [Yu hg]⟩
      · cases hr
    · cases hr
  | capV x =>
    simp only [SO.run] at hr ⊢
    split at hr
    · cases hr; exact ⟨rfl,fun _ => rfl⟩
    · rename_i id off n c _ hx
      cases hcb : c.ble 1 with
      | true => rw [hcb] at hr; cases hr
      | false =>
        rw [hcb] at hr
        simp only [cond_false] at hr
        split at hr
        · rename_i ez hg
          cases hz : ez.beq 0 with
          | true => rw [hz] at hr; cases hr
          | false => rw [hz] at hr; cases hr; exact ⟨rfl,fun ob => by simp only [Yu hg,hcb,hz,cond_false]⟩
        · cases hr
    · cases hr
  | _ => simp [SO.cls] at hc
inductive MkS where
  | ptr
  | sl (m c : Nat)
  | map
def MkS.fn : MkS → Nat → Value
  | .ptr,id => .pointer (some ⟨id,0,none⟩)
  | .sl m c,id => .slice (some ⟨id,0,none⟩) m c
  | .map,id => .map (some id)
theorem MkS.inj {s t : MkS} {i : Nat} (h : s.fn i = t.fn i) : s = t := by
  cases s <;> cases t <;> simp [MkS.fn] at h <;> first | rfl | simp [h]
def Vq (E : Emb) (h : Heap) (w : World) (r : Result Next) (v : Value) (h' : Heap) : Prop :=
  ∃ (w' : World) (cob : Obj) (en : Ent) (v' : Value) (ob : AObj) (mk : MkS),h' = h.add ob ∧ v = mk.fn h.next ∧ r = .ok (.value v') w' ∧ Grew w w' cob ∧ en.block = w.heap.size ∧ ∀ E' : Emb,(∀ i x,E i = some x → E' i = some x) → Jc E' w' en ob ∧ ∀ id,E' id = some en → VR E' (mk.fn id) v'
theorem make_cells {E E' : Emb} {w : World} {cs cs' : List Value} {el : TypeId} {size : Nat} (hc : VRL E cs cs') (hE : ∀ i x,E i = some x → E' i = some x) :
    Jc E' { w with heap := w.heap.push (.cells ⟨cs'⟩ el) } ⟨w.heap.size,0,cs.length,cs.length,size,false,false⟩ (.cells cs size false) := by
  have hl := VRL.length hc
  have g : Grew w { w with heap := w.heap.push (.cells ⟨cs'⟩ el) } (.cells ⟨cs'⟩ el) := ⟨rfl,rfl,rfl,rfl⟩
  refine ⟨rfl,rfl,rfl,⟨rfl,Nat.le_refl _⟩,_,_,_,g.new,by simp; omega,?_,?_⟩
  · intro i u hu
    obtain ⟨u',hu',hr⟩ := VRL.get hc hu
    exact ⟨u',by simpa using hu',hr.mono hE⟩
  · intro _; exact .inl rfl
theorem make_ptr {E : Emb} {h : Heap} {w : World} {cs cs' : List Value} {el : TypeId} {r : Result Value} (hc : VRL E cs cs') (hr : r = .ok (.pointer (some ⟨w.heap.size,0,none⟩)) { w with heap := w.heap.push (.cells ⟨cs'⟩ el) }) :
    Vq E h w (r.andThen fun a w1 => .ok (.value a) w1) (.pointer (some ⟨h.next,0,none⟩)) (h.add (.cells cs 0 false)) := by
  refine ⟨{ w with heap := w.heap.push (.cells ⟨cs'⟩ el) },.cells ⟨cs'⟩ el,⟨w.heap.size,0,cs.length,cs.length,0,false,false⟩,.pointer (some ⟨w.heap.size,0,none⟩),_,MkS.ptr,rfl,rfl,by rw [hr]; rfl,⟨rfl,rfl,rfl,rfl⟩,rfl,fun E' hE' => ⟨make_cells hc hE',fun id hid => .ptr id 0 _ hid rfl⟩⟩
theorem make_slice {E : Emb} {h : Heap} {w : World} {cs cs' : List Value} {el : TypeId} {size n : Nat} {r : Result Value} (cc : Nat) (hcc : (cc = 0 → n = 0) ∧ (2 ≤ cc → n * size + 2 = cc)) (hc : VRL E cs cs') (hk : cs.length = n * size) (m : Nat) (hm : m ≤ n)
    (hr : r = .ok (.slice (some ⟨w.heap.size,0,none⟩) m n) { w with heap := w.heap.push (.cells ⟨cs'⟩ el) }) :
    Vq E h w (r.andThen fun a w1 => .ok (.value a) w1) (.slice (some ⟨h.next,0,none⟩) m cc) (h.add (.cells cs size false)) := by
  refine ⟨{ w with heap := w.heap.push (.cells ⟨cs'⟩ el) },.cells ⟨cs'⟩ el,⟨w.heap.size,0,cs.length,cs.length,size,false,false⟩,.slice (some ⟨w.heap.size,0,none⟩) m n,_,MkS.sl m cc,rfl,rfl,by rw [hr]; rfl,⟨rfl,rfl,rfl,rfl⟩,rfl,fun E' hE' => ⟨make_cells hc hE',fun id hid => ?_⟩⟩
  exact .sl id 0 m _ _ _ n hid rfl hm hcc.1 (fun _ _ => ⟨by simp; omega,fun _ => by simp; omega,fun q => by have := hcc.2 q; simp; omega⟩) (fun _ => by simp)
theorem run_make {so : SO} {e : Env} {h h1 : Heap} {v : Value} (hc : so.cls = .make) (hr : so.run e h = some (v,h1)) : ∃ (ob : AObj) (mk : MkS),h1 = h.add ob ∧ v = mk.fn h.next ∧ ∀ h2,so.run e h2 = some (mk.fn h2.next,h2.add ob) := by
  cases so with
  | new cells => simp only [SO.run] at hr ⊢; cases hr; exact ⟨_,.ptr,rfl,rfl,fun _ => rfl⟩
  | box x => simp only [SO.run] at hr ⊢; obtain ⟨u,hu,hq⟩ := Xr hr; cases hq; exact ⟨_,.ptr,rfl,rfl,fun _ => by rw [hu]; rfl⟩
  | bslice len size zero ps =>
    simp only [SO.run] at hr ⊢
    split at hr
    · obtain ⟨u,hu,hq⟩ := Xr hr; cases hq; exact ⟨_,.sl len (bif len.beq 0 then 0 else 1),rfl,rfl,fun _ => by rw [hu]; rfl⟩
    · cases hr
  | mkMap => simp only [SO.run] at hr ⊢; cases hr; exact ⟨_,.map,rfl,rfl,fun _ => rfl⟩
  | mkSl size bytes zero l c =>
    simp only [SO.run] at hr ⊢
    split at hr
    · rename_i kl l kc c _ _
      split at hr
      · rename_i hc2; cases hr; exact ⟨_,.sl l.toNat (bif c.toNat.beq 0 then 0 else c.toNat * size + 2),rfl,rfl,fun _ => by rw [if_pos hc2]; rfl⟩
      · cases hr
    · cases hr
  | toBytes x =>
    simp only [SO.run] at hr ⊢
    split at hr
    · rename_i s _; cases hr; exact ⟨_,.sl s.size 1,rfl,rfl,fun _ => rfl⟩
    · cases hr
  | _ => simp [SO.cls] at hc
theorem sameCell_eq {a b : Value} (h : Ys a b = true) : a = b := by
  unfold Ys at h
  split at h <;> simp [Ww] at h <;> simp [*]
theorem Vl : ∀ {a b : List Value},Qb a b = true → a = b
  | [],[],_ => rfl
  | [],_ :: _,h => by simp [Qb] at h
  | _ :: _,[],h => by simp [Qb] at h
  | x :: a,y :: b,h => by
    simp only [Qb,Bool.and_eq_true] at h
    rw [sameCell_eq h.1,Vl h.2]
theorem Vx {a b : Value} (h : Yq a b = true) : a = b := by
  unfold Yq at h
  split at h
  · rw [Vl h]
  · exact sameCell_eq h
section
variable {P : Program} {E : Emb} {e : Env} {h h' : Heap} {a : Act} {w : World} {nt : Nat} {d : Option Tmp} {ty : TypeId} {p : String} {af : Array Edge} {g : Option (Nat × Bool)}
theorem mk_alloc (R : Rel E e h a w nt) {t : TypeId} {z v : Value} (hz : Zh P t = some z) (hr : (SO.new z.cells.toList).run e h = some (v,h')) : Vq E h w ((execOp a.eval ⟨d,.alloc t,ty,p,af,g⟩).run P w) v h' := by
  simp only [SO.run,Option.some.injEq,Prod.mk.injEq] at hr
  obtain ⟨rfl,rfl⟩ := hr
  obtain ⟨hzr,hf,_,_⟩ := Yf (P := P) hz w
  simp only [execOp,Xw]
  refine make_ptr (el := t) (Zj (E := E) 0 _ hf) ?_
  simp [Instr.alloc,hzr,newVar,newRow]
theorem mk_box (R : Rel E e h a w nt) {t : TypeId} {x : Operand} {X : Arg} {v : Value} (hx : Wv x = some X) (hr : (SO.box X).run e h = some (v,h')) : Vq E h w ((execOp a.eval ⟨d,.box t x,ty,p,af,g⟩).run P w) v h' := by
  simp only [SO.run] at hr
  obtain ⟨u,hu,hq⟩ := Xr hr
  simp only [Prod.mk.injEq] at hq
  obtain ⟨rfl,rfl⟩ := hq
  have hv := Wx R hx hu
  simp only [execOp,Xw]
  refine make_ptr (el := t) hv.cells ?_
  simp [Instr.box,newVar,newRow]
theorem mk_bslice (R : Rel E e h a w nt) {t : TypeId} {len : Nat} {parts : Array (Nat × Operand)} {so : SO} {v : Value} (hc : Wz P (.buildSlice t len parts) = some so) (hr : so.run e h = some (v,h')) :
    Vq E h w ((execOp a.eval ⟨d,.buildSlice t len parts,ty,p,af,g⟩).run P w) v h' := by
  simp only [Wz] at hc
  cases hu : P.underlying t with
  | none => rw [hu] at hc; simp at hc
  | some dd =>
    cases dd with
    | slice el =>
      rw [hu] at hc
      simp only at hc
      cases hs : Zs P el with
      | none => rw [hs] at hc; simp at hc
      | some s =>
        cases hz : Zh P el with
        | none => rw [hs,hz] at hc; simp at hc
        | some z =>
          rw [hs,hz] at hc
          simp only at hc
          cases hb : (len * s).ble 16777216 && !(s.beq 0) && z.cells.toList.length.beq s with
          | false => rw [hb] at hc; simp at hc
          | true =>
            rw [hb] at hc
            simp only [cond_true] at hc
            obtain ⟨l,hl,rfl⟩ := Xr hc
            simp only [Bool.and_eq_true,Bool.not_eq_true',Ww,decide_eq_true_eq,decide_eq_false_iff_not] at hb
            obtain ⟨⟨hb1,hb2⟩,hb3⟩ := hb
            have hb1' := Nat.le_of_ble_eq_true hb1
            obtain ⟨hzr,hf,_,_⟩ := Yf (P := P) hz w
            simp only [SO.run] at hr
            cases hp : Yk e l with
            | none => rw [hp] at hr; simp at hr
            | some ps =>
              rw [hp] at hr
              simp only at hr
              obtain ⟨r,hfil,hq⟩ := Xr hr
              simp only [Prod.mk.injEq] at hq
              obtain ⟨rfl,rfl⟩ := hq
              obtain ⟨r',h1,h2⟩ := fill_ok R _ parts.toList l ps (Xt z.cells.toList len) (Xt z.cells.toList len) r hl hp (Qa hf len) hfil
              have hrl : r.length = len * s := by
                have : ∀ (ps : List (Nat × Nat × Value)) (za r : List Value),Jk za ps = some r → r.length = za.length := by
                  intro ps
                  induction ps with
                  | nil => intro za r hh; simp only [Jk,Option.some.injEq] at hh; subst hh; rfl
                  | cons q ps ih =>
                    obtain ⟨o,s,v⟩ := q
                    intro za r hh
                    simp only [Jk] at hh
                    cases hq : v.cells.size.beq s && (o + s).ble za.length with
                    | false => rw [hq] at hh; simp at hh
                    | true =>
                      rw [hq] at hh
                      simp only [cond_true] at hh
                      rw [ih _ _ hh,Za]
                rw [this _ _ _ hfil,Zd,hb3]
              simp only [execOp,Xw]
              refine make_slice (el := el) _ (capOne _ _) h2 hrl len (Nat.le_refl _) ?_
              unfold Instr.buildSlice
              have hle : ¬ (len * s > 2 ^ 24) := by omega
              simp only [Sem.run_bind,Wq hu,Result.andThen_ok,Xv hs,hle,if_false,Sem.run_pure]
              have hcells : ∀ zz : Array Value,(zz = z.cells ∨ len * s = 0) → ((Array.range (len * s)).map (zz[· % zz.size]!)) = ⟨Xt z.cells.toList len⟩ := by
                intro zz hzz
                rcases hzz with rfl | h0
                · rw [Vi,← Zz,hb3]
                · have : len = 0 := by
                    rcases Nat.mul_eq_zero.1 h0 with q | q
                    · exact q
                    · exact absurd q hb2
                  subst this
                  simp [Xt]
              have h1' : Instr.fill (fun i => some (i * s,s)) ⟨Xt z.cells.toList len⟩ (parts.map fun (p : Nat × Operand) => (p.1,a.eval p.2)).toList = some ⟨r'⟩ := by simpa using h1
              by_cases h0 : len * s = 0
              · have hc0 := hcells #[] (.inr h0)
                rw [if_pos h0]
                simp only [Sem.run_bind,Sem.run_pure,Result.andThen_ok]
                rw [hc0,h1']
                simp [newRow]
              · rw [if_neg h0]
                simp only [Sem.run_bind,Sem.run_pure,Result.andThen_ok,hzr]
                rw [hcells z.cells (.inl rfl),h1']
                simp [newRow]
    | _ => rw [hu] at hc; simp at hc
theorem mk_mkSl (R : Rel E e h a w nt) {t : TypeId} {x y : Operand} {so : SO} {v : Value} (hc : Wz P (.makeSlice t x y) = some so) (hr : so.run e h = some (v,h')) : Vq E h w ((execOp a.eval ⟨d,.makeSlice t x y,ty,p,af,g⟩).run P w) v h' := by
  simp only [Wz] at hc
  split at hc
  · rename_i X Y el h1 h2 hu
    split at hc
    · rename_i s b z hs hb hz
      cases hbb : !(s.beq 0) && z.cells.toList.length.beq s with
      | false => rw [hbb] at hc; simp at hc
      | true =>
        rw [hbb] at hc
        simp only [cond_true,Option.some.injEq] at hc; subst hc
        simp only [Bool.and_eq_true,Bool.not_eq_true',Ww,decide_eq_true_eq,decide_eq_false_iff_not] at hbb
        obtain ⟨hs0,hzs⟩ := hbb
        obtain ⟨hzr,hf,_,_⟩ := Yf (P := P) hz w
        obtain ⟨ti,hti,htb⟩ := Uc hb w
        simp only [SO.run] at hr
        split at hr
        · rename_i kl l kc c h3 h4
          split at hr
          · rename_i hcond
            obtain ⟨c1,c2,c3,c4⟩ := hcond
            simp only [Option.some.injEq,Prod.mk.injEq] at hr
            obtain ⟨rfl,rfl⟩ := hr
            have e1 := Wx R h1 h3
            have e2 := Wx R h2 h4
            have hlen : (Xt z.cells.toList c.toNat).length = c.toNat * s := by rw [Zd,hzs]
            simp only [execOp,Xw]
            refine make_slice (el := el) _ (capEnd _ _) (Qa (E := E) hf c.toNat) hlen l.toNat (by omega) ?_
            have a1 : a.eval x = .int kl l := by cases hap : a.eval x <;> rw [hap] at e1 <;> cases e1; rfl
            have a2 : a.eval y = .int kc c := by cases hap : a.eval y <;> rw [hap] at e2 <;> cases e2; rfl
            have wl : IntKind.i64.wrap l = l := by
              simp only [IntKind.wrap,IntKind.bits,IntKind.signed]
              have : l % (2 ^ 64) = l := Int.emod_eq_of_lt c1 (by omega)
              simp [this]; omega
            have wc : IntKind.i64.wrap c = c := by
              simp only [IntKind.wrap,IntKind.bits,IntKind.signed]
              have : c % (2 ^ 64) = c := Int.emod_eq_of_lt (by omega) (by omega)
              simp [this]; omega
            unfold Instr.makeSlice
            simp only [Sem.run_bind,Wq hu,Result.andThen_ok,a1,a2,asInt,asIntOf,Sem.run_pure,hti,wl,wc,htb]
            have t1 : (decide (c < 0) || decide ((b : Int) * c > 2 ^ 48)) = false := by
              simp; refine ⟨by omega,?_⟩
              rw [Int.mul_comm]; omega
            have t2 : ((decide (c < 0) || decide ((b : Int) * c > 2 ^ 48)) || decide (l < 0) || decide (l > c)) = false := by
              rw [t1]; simp; omega
            simp only [t2,Bool.false_eq_true,if_false]
            simp only [Sem.run_bind,run_askRoom,Result.andThen_ok,Xv hs]
            by_cases h0 : c.toNat * s = 0
            · have hc0 : c.toNat = 0 := by
                rcases Nat.mul_eq_zero.1 h0 with q | q
                · exact q
                · exact absurd q hs0
              rw [hc0]
              simp [newRow,Xt]
              congr 2
              apply Array.ext'
              simp
            · simp only [h0,if_false,Sem.run_bind,hzr,Sem.run_pure,Result.andThen_ok,newRow,run_newObj]
              have : ((Array.range (c.toNat * s)).map (z.cells[· % z.cells.size]!)) = ⟨Xt z.cells.toList c.toNat⟩ := by
                rw [Vi,← Zz,hzs]
              rw [this]
          · cases hr
        · cases hr
    · cases hc
  · cases hc
theorem mk_bytes (R : Rel E e h a w nt) {s t : TypeId} {x : Operand} {X : Arg} {v : Value} (hc : Wz P (.convert s t x) = some (.toBytes X)) (hr : (SO.toBytes X).run e h = some (v,h')) : Vq E h w ((execOp a.eval ⟨d,.convert s t x,ty,p,af,g⟩).run P w) v h' := by
  simp only [Wz] at hc
  split at hc
  · cases hc
  · rename_i X el h1 hs ht
    cases hi : Vz P .u8 el with
    | false => rw [hi] at hc; simp at hc
    | true =>
      rw [hi] at hc
      simp only [cond_true,Option.some.injEq] at hc; cases hc
      have hel := Kv hi
      simp only [SO.run] at hr
      split at hr
      · rename_i str hv
        simp only [Option.some.injEq,Prod.mk.injEq] at hr
        obtain ⟨rfl,rfl⟩ := hr
        have hp := Wx R h1 hv
        cases hap : a.eval x with
        | string s2 =>
          rw [hap] at hp
          cases hp
          simp only [execOp,Xw]
          -- the row that is made
          obtain ⟨cap,hcap⟩ : ∃ cap,cap = (Question.appendCap str.size 0 el).cut (w.tape w.drawn (Question.appendCap str.size 0 el)) := ⟨_,rfl⟩
          have hcs : str.size ≤ cap := by rw [hcap]; simp only [Question.cut]; omega
          obtain ⟨cells,hcells⟩ : ∃ cells : List Value,cells = Xu str.data.toList ++ List.replicate (cap - str.size) (.int .u8 0) := ⟨_,rfl⟩
          have hlen : (Xu str.data.toList).length = str.size := by rw [Qp]; rfl
          have hsz : cells.length = cap := by rw [hcells,List.length_append,hlen,List.length_replicate]; omega
          have hw1 : ({ w with drawn := w.drawn + 1,heap := w.heap.push (.cells ⟨cells⟩ el) } : World).heap[w.heap.size]? = some (.cells ⟨cells⟩ el (0,0)) := by simp
          obtain ⟨f1,f2⟩ := Kw (E := E) (h := h) hw1 (n := cells.length) rfl
          have hg : Grew w (World.freeze { w with drawn := w.drawn + 1,heap := w.heap.push (.cells ⟨cells⟩ el) } ⟨w.heap.size,cells.length,none⟩ 1) (.cells ⟨cells⟩ el (cells.length,cells.length + 1)) := by
            refine ⟨?_,rfl,rfl,rfl⟩
            apply Array.ext'
            apply List.ext_getElem?
            intro i
            rw [Array.getElem?_toList,Array.getElem?_toList]
            by_cases hi : i = w.heap.size
            · subst hi
              rw [f1]; simp
            · rw [f2 i hi]
              simp only [Array.getElem?_push,if_neg hi]
          refine ⟨_,_,⟨w.heap.size,0,str.size,cap,1,false,false⟩,.slice (some ⟨w.heap.size,0,none⟩) str.size cap,.cells (Xu str.data.toList) 1 false,MkS.sl str.size 1,rfl,rfl,?_,hg,rfl,fun E' hE' => ⟨?_,?_⟩⟩
          rotate_left
          · refine ⟨rfl,rfl,rfl,⟨hlen,hcs⟩,_,_,_,hg.new,by simp; omega,?_,?_⟩
            · intro i u hu
              obtain ⟨u',hu',hru⟩ := VRL.get (Qt (E := E') str.data.toList) hu
              have hi := (List.getElem?_eq_some_iff.1 hu).1
              refine ⟨u',?_,hru⟩
              simp only [List.getElem?_toArray,Nat.zero_add,hcells]
              rw [List.getElem?_append_left hi]; exact hu'
            · intro _; right; simp; omega
          · intro id hid
            exact .sl id 0 str.size 1 _ _ cap hid rfl hcs (fun q => by cases q) (fun _ _ => ⟨by simp,fun _ => by simpa using hcs,fun q => absurd q (by decide)⟩) (fun _ => by simp)
          · have hfor : (Question.appendCap str.size 0 el).forced = false := rfl
            rw [hap]
            simp only [convert,Sem.run_bind,Wq hs,Wq ht,Result.andThen_ok,Wq hel]
            unfold Conv.stringToBytes
            simp only [Sem.run_bind,run_choose,hfor,Bool.false_eq_true,if_false,Result.andThen_ok,newRow,run_newObj,Sem.run_pure,markStringish,run_shape,← hcap]
            have hcl : (Array.map (fun (b : UInt8) => Value.int .u8 (b.toNat : Int)) str.data ++ Array.replicate (cap - str.size) (.int .u8 0)) = ⟨cells⟩ := by
              apply Array.ext'
              rw [hcells,Jb]; simp
            rw [hcl]
            have hshape : World.shape? { w with drawn := w.drawn + 1,heap := w.heap.push (.cells ⟨cells⟩ el) } w.heap.size = some (el,cells.length) := by
              simp [World.shape?]
            simp only [hshape,run_freeze,Result.andThen_ok]
        | _ => rw [hap] at hp; cases hp
      · cases hr
  · revert hc
    cases Vz P .u8 _ <;> simp
  · obtain ⟨_,_,_,_,hso⟩ := Ju hc; cases hso
  · cases hc
theorem mk_map (R : Rel E e h a w nt) {t : TypeId} {v : Value} (hr : SO.mkMap.run e h = some (v,h')) : Vq E h w ((execOp a.eval ⟨d,.makeMap t none,ty,p,af,g⟩).run P w) v h' := by
  simp only [SO.run,Option.some.injEq,Prod.mk.injEq] at hr
  obtain ⟨rfl,rfl⟩ := hr
  have hg : Grew w { w with heap := w.heap.push (.map #[] 0) } (.map #[] 0) := ⟨rfl,rfl,rfl,rfl⟩
  refine ⟨_,_,⟨w.heap.size,0,0,0,0,false,true⟩,.map (some w.heap.size),.map [],MkS.map,rfl,rfl,?_,hg,rfl,fun E' hE' => ⟨⟨rfl,rfl,_,_,hg.new,trivial⟩,fun id hid => .mp id _ hid rfl⟩⟩
  simp [execOp,Instr.makeMap]
theorem compBin_noMake {op : BinOp} {t : TypeId} {x y : Arg} {so : SO} (hc : Ul P op t x y = some so) : so.cls ≠ .make := by
  unfold Ul at hc
  repeat' (split at hc)
  all_goals first
    | (cases hc; done)
    | (cases hc; simp [SO.cls]; done)
    | (obtain ⟨_,_,_,_,_,rfl⟩ := Ka hc; simp [SO.cls]; done)
theorem Kb {b : Builtin} {ts : List TypeId} {xs : List Arg} {so : SO} (hc : Zn P b ts xs = some so) : so.cls ≠ .make := by
  unfold Zn at hc
  simp only [cond_eq_ite] at hc
  repeat' (split at hc)
  all_goals first
    | (cases hc; done)
    | (cases hc; simp [SO.cls]; done)
    | (obtain ⟨_,_,rfl⟩ := Xr hc; simp [SO.cls]; done)
theorem make_ok {o : Oper} {so : SO} {v : Value} (R : Rel E e h a w nt) (hc : Wz P o.op = some so) (hm : so.cls = .make) (hr : so.run e h = some (v,h')) : Vq E h w ((execOp a.eval o).run P w) v h' := by
  obtain ⟨dst,op,type,pos,after,guard⟩ := o
  cases op with
  | alloc t => simp only [Wz] at hc; obtain ⟨z,hz,rfl⟩ := Xr hc; exact mk_alloc R hz hr
  | box t x => simp only [Wz] at hc; obtain ⟨X,hX,rfl⟩ := Xr hc; exact mk_box R hX hr
  | buildSlice t n ps => exact mk_bslice R hc hr
  | makeSlice t x y => exact mk_mkSl R hc hr
  | makeMap t r =>
    cases r with
    | none => simp only [Wz,Option.some.injEq] at hc; subst hc; exact mk_map R hr
    | some r => simp [Wz] at hc
  | convert s t x =>
    have hso : ∃ X,so = .toBytes X := by
      have hc2 := hc
      simp only [Wz,cond_eq_ite] at hc2
      repeat' (split at hc2)
      all_goals first
        | (cases hc2; done)
        | (cases hc2; simp [SO.cls] at hm; done)
        | (cases hc2; exact ⟨_,rfl⟩)
        | (obtain ⟨_,_,_,_,rfl⟩ := Ju hc2; simp [SO.cls] at hm; done)
    obtain ⟨X,rfl⟩ := hso
    exact mk_bytes R hc hr
  | binOp b t x y yt =>
    simp only [Wz] at hc
    split at hc
    · exact absurd hm (compBin_noMake hc)
    · cases hc
  | call c =>
    simp only [Wz] at hc
    repeat' (split at hc)
    all_goals first
      | (cases hc; done)
      | (cases hc; simp [SO.cls] at hm; done)
      | (obtain ⟨_,_,rfl⟩ := Xr hc; simp [SO.cls] at hm; done)
      | exact absurd hm (Kb hc)
  | _ =>
    exfalso
    simp only [Wz,cond_eq_ite] at hc
    repeat' (split at hc)
    all_goals first
      | (cases hc; done)
      | (cases hc; simp [SO.cls] at hm; done)
      | (obtain ⟨_,_,rfl⟩ := Xr hc; simp [SO.cls] at hm; done)
end
end Go.Dx
