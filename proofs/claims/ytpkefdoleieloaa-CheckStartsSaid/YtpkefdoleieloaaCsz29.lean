/- A deterministic reading of the model's code: arguments as slices of numbers; what is apart; more steps. -/
import Derived.Test.YtpkefdoleieloaaCsz28
import Derived.Carry
namespace Go.Dx
set_option linter.unusedVariables false
set_option linter.unusedSimpArgs false
/-! ### What came in -/
theorem flatH_get {L : List (List Value)} {i : Nat} {l : List Value} (h : L[i]? = some l) : At (flatH L) (i + 1) (.cells l 0 true) := by
  have hi := (List.getElem?_eq_some_iff.1 h).1
  show Heap.get _ _ = _
  unfold Heap.get flatH Gk
  have h1 : (i + 1).blt (L.length + 1) = true := by rw [Zq]; simp; omega
  simp only [h1,cond_true,Ua,h,Option.map_some]
theorem flatH_next (L : List (List Value)) : (flatH L).next = L.length + 1 := rfl
structure InS (h : Heap) (a : Option Addr) (n c : Nat) (l : List Value) : Prop where
  sl : SlA h 1 a n c l
  lt : ∀ i,Blk a i → i < h.next
theorem flat_slice {P : Program} {k : Nat} {t e : TypeId} {ts : List TypeId} {vs : List Value} {L0 L L' : List (List Value)} (ht : P.underlying t = some (.slice e)) (hL : L = L0 ++ L') (hk : L0.length = k) (hG : Qx P k (t :: ts) vs L') :
    ∃ a n c l r k2 L2 L3,vs = .slice a n c :: r ∧ InS (flatH L) a n c l ∧ (∀ x ∈ l,Zw P e x) ∧ L = L2 ++ L3 ∧ L2.length = k2 ∧ Qx P k2 ts r L3 := by
  unfold Qx at hG
  obtain ⟨v,r,rfl,hG⟩ := hG
  rw [ht] at hG
  rcases hG with ⟨rfl | rfl,hF⟩ | ⟨l,L2,rfl,rfl,hl,hF⟩
  · exact ⟨none,0,0,[],r,k,L0,L',rfl,⟨SlA.none,fun i q => absurd q Blk.none⟩,fun x hx => (by cases hx),hL,hk,hF⟩
  · refine ⟨some ⟨0,0,none⟩,0,0,[],r,k,L0,L',rfl,⟨⟨rfl,fun q => (by cases q),fun p q => (by cases q; rfl),rfl,fun p q => .inl rfl⟩,fun i q => ?_⟩,fun x hx => (by cases hx),hL,hk,hF⟩
    rw [Blk.at] at q; subst q; exact Nat.succ_pos _
  · refine ⟨some ⟨k + 1,0,none⟩,l.length,1,l,r,k + 1,L0 ++ [l],L2,rfl,⟨?_,fun i q => ?_⟩,hl,by rw [hL]; simp,by simp [hk],hF⟩
    · have g : At (flatH L) (k + 1) (.cells l 0 true) := flatH_get (by rw [hL,List.getElem?_append_right (by omega)]; simp [hk])
      have := SlA.mk' (n := l.length) (c := 1) (sz := 1) (off := 0) g (by omega) (.inl rfl)
      simpa using this
    · rw [Blk.at] at q; subst q
      rw [flatH_next,hL]; simp; omega
theorem flat_scal {P : Program} {k : Nat} {t : TypeId} {ts : List TypeId} {vs : List Value} {L' : List (List Value)} (ht : ∀ e,P.underlying t ≠ some (.slice e)) (hG : Qx P k (t :: ts) vs L') : ∃ v r,vs = v :: r ∧ Zw P t v ∧ Qx P k ts r L' := by
  unfold Qx at hG
  obtain ⟨v,r,rfl,hG⟩ := hG
  split at hG
  · rename_i e he; exact absurd he (ht e)
  · exact ⟨v,r,rfl,hG.1,hG.2⟩
theorem scal_int {P : Program} {t : TypeId} {k : IntKind} {v : Value} (ht : P.underlying t = some (.int k)) (h : Zw P t v) : ∃ n,v = .int k n ∧ (Lit.int k n).wf = true := by
  unfold Zw at h; rw [ht] at h; exact h
theorem scal_bool {P : Program} {t : TypeId} {v : Value} (ht : P.underlying t = some .bool) (h : Zw P t v) : ∃ b,v = .bool b := by
  unfold Zw at h; rw [ht] at h; exact h
theorem scal_ints {P : Program} {t : TypeId} {k : IntKind} {l : List Value} (ht : P.underlying t = some (.int k)) (h : ∀ x ∈ l,Zw P t x) : ∃ xs : List Int,l = xs.map (.int k) ∧ ∀ x ∈ xs,(Lit.int k x).wf = true := by
  induction l with
  | nil => exact ⟨[],rfl,fun x hx => (by cases hx)⟩
  | cons v l ih =>
    obtain ⟨xs,rfl,hw⟩ := ih fun x hx => h x (by simp [hx])
    obtain ⟨n,rfl,hn⟩ := scal_int ht (h v (by simp))
    exact ⟨n :: xs,rfl,fun x hx => by rcases List.mem_cons.1 hx with rfl | hx; exact hn; exact hw x hx⟩
theorem wf_u8 {x : Int} (h : (Lit.int .u8 x).wf = true) : 0 ≤ x ∧ x ≤ 255 := by
  simp [Lit.wf,IntKind.min,IntKind.max,IntKind.signed,IntKind.bits] at h; omega
theorem flat_nil {P : Program} {k : Nat} {vs : List Value} {L : List (List Value)} (h : Qx P k [] vs L) : vs = [] := h.1
/-! ### What is one's own, and apart -/
structure Turn (h h' : Heap) (S S' : Nat → Prop) : Prop where
  ext : Ext S h h'
  own : ∀ i,S' i → S i ∨ h.next ≤ i
theorem Turn.refl (h : Heap) (S : Nat → Prop) : Turn h h S S := ⟨Ext.refl _ _,fun i q => .inl q⟩
theorem Turn.trans {h h' h'' : Heap} {S S' S'' : Nat → Prop} (t : Turn h h' S S') (u : Turn h' h'' S' S'') : Turn h h'' S S'' :=
  ⟨t.ext.then u.ext t.own,fun i q => (u.own i q).elim (t.own i) fun r => .inr (Nat.le_trans t.ext.next r)⟩
section
variable {P : Program} {d : Option Nat} {r : List SOp} {e : Env} {h : Heap} {Q : Env → Heap → Prop}
theorem Wops_neq {x y : Arg} {k : IntKind} {a b : Int} {v : Bool} (hx : x.ev e = some (.int k a)) (hy : y.ev e = some (.int k b)) (hv : (a != b) = v) (hq : Xd P r (e.put d (.bool v)) h Q) : Xd P (⟨d,none,.bin .neq x y⟩ :: r) e h Q := by
  subst hv
  refine Wa (v := .bool (a != b)) (h' := h) rfl ?_ hq
  have hb : binV .neq (.int k a) (.int k b) = some (.bool (a != b)) := by simp [binV,intV]
  simp only [SO.run,hx,hy,hb,Option.map_some]
theorem Wi {o : SO} {v w : Value} (hc : o.asCall = none) (hr : o.run e h = some (v,h)) (he : v = w) (hq : Xd P r (e.put d w) h Q) : Xd P (⟨d,none,o⟩ :: r) e h Q := by
  subst he; exact Wa hc hr hq
end
end Go.Dx
namespace Go.Dx
set_option linter.unusedVariables false
set_option linter.unusedSimpArgs false
theorem trodAll_below {H : Type} {enc : TypeId × Value → H} {P : Program} (hl : Go.laidOutB P = true) {W W' : World} (hb : Go.RowKit.Below W.heap.size W W') : ∀ {ts : List TypeId} {vs : List Value} {ds : List (DataW H)} {ps : List MemPlace},
    ts.all (fun t => P.readableRec t && decide (t < P.types.size)) = true → DataW.TrodAll enc P W 0 (fun _ => true) true ts vs ds ps → (∀ x ∈ ps,x.block < W.heap.size) → DataW.TrodAll enc P W' 0 (fun b => decide (b < W.heap.size)) true ts vs ds ps
  | [],[],[],_,_,h,_ => h
  | [],[],_ :: _,_,_,h,_ => h.elim
  | [],_ :: _,_,_,_,h,_ => h.elim
  | _ :: _,[],_,_,_,h,_ => h.elim
  | _ :: _,_ :: _,[],_,_,h,_ => h.elim
  | t :: ts,v :: vs,d :: ds,ps,hr,⟨p,q,h1,h2,e⟩,hlt => by
    simp only [List.all_cons,Bool.and_eq_true,decide_eq_true_eq] at hr
    subst e
    exact ⟨p,q,Go.RowKit.Below.trod hl hr.1.1 hr.1.2 h1 hb (fun x hx => hlt x (by simp [hx])),trodAll_below hl hb hr.2 h2 (fun x hx => hlt x (by simp [hx])),rfl⟩
end Go.Dx
namespace Go.Dx
set_option linter.unusedVariables false
set_option linter.unusedSimpArgs false
section
variable {P : Program} {kn kr : Kn} {kx : Nat → Kn} {e : Env} {h : Heap}
end
end Go.Dx
namespace Go.Dx
set_option linter.unusedVariables false
set_option linter.unusedSimpArgs false
section
variable {P : Program} {r : List SOp} {e : Env} {h : Heap} {Q : Env → Heap → Prop}
theorem Wops_idxF {sz off n c t1 t2 : Nat} {d3 : Option Nat} {x i : Arg} {a : Option Addr} {l : List Value} {k : IntKind} {j : Int} {u : Value} (hx : x.ev e = some (.slice a n c)) (hi : i.ev e = some (.int k j)) (s : SlA h sz a n c l) (hj : 0 ≤ j ∧ j < n) (ho : off < sz) (hu : l[j.toNat * sz + off]? = some u)
    (hq : ∀ p q,Xd P r (Env.put (Env.put (Env.put e (some t1) p) (some t2) q) d3 u) h Q) : Xd P (⟨some t1,.none,.iaV sz x i⟩ :: ⟨some t2,.none,.fa off (.t t1)⟩ :: ⟨d3,.none,.ld 1 false (.t t2)⟩ :: r) e h Q := by
  refine Gf hx hi s hj fun id o vs ez ro _ h1 h2 h3 => ?_
  refine Wa (v := .pointer (some ⟨id,o + j.toNat * sz + off,.none⟩)) (h' := h) rfl (by simp [SO.run,Arg.ev,Env.put,Env.get]) ?_
  refine We (v := u) (off := o + j.toNat * sz + off) (id := id) (by simp [Arg.ev,Env.put,Env.get]) h1 ?_ (hq _ _)
  have hlt : j.toNat * sz + off < n * sz := by
    have h5 : (j.toNat + 1) * sz ≤ n * sz := Nat.mul_le_mul_right _ (by omega)
    rw [Nat.add_mul] at h5; omega
  rw [Nat.add_assoc,h3 _ hlt]; exact hu
end
end Go.Dx
