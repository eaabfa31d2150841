/- A deterministic reading of the model's code: slices, strings, what is made. -/
import Derived.Test.YtpkefdoleieloaaCsz5
namespace Go.Dx
set_option linter.unusedVariables false
set_option linter.unusedSimpArgs false
theorem natOf_ok {m : Nat} {v : Value} {n : Nat} (h : Ur m v = some n) : ∃ k : IntKind,v = .int k n ∧ n ≤ m := by
  unfold Ur at h
  split at h
  · rename_i k i
    split at h
    · rename_i hi
      simp only [Option.some.injEq] at h
      refine ⟨k,?_,by omega⟩
      congr 1; omega
    · cases h
  · cases h
theorem Ji {E : Emb} {m : Nat} {v v' : Value} {n : Nat} (h : Ur m v = some n) (hv : VR E v v') : ∃ k : IntKind,v' = .int k n ∧ n ≤ m := by
  obtain ⟨k,rfl,hn⟩ := natOf_ok h
  cases hv
  exact ⟨k,rfl,hn⟩
theorem Yg {P : Program} {k : IntKind} {n y : Nat} {c : BoundsCode} {w : World} (h : n ≤ y) : (Instr.sliceBound (.int k n) y c).run P w = .ok n w := by
  unfold Instr.sliceBound
  simp [asIntOf,h]
inductive OptR (E : Emb) : Option Value → Option Value → Prop
  | none : OptR E none none
  | some (v v' : Value) : VR E v v' → OptR E (some v) (some v')
theorem bounds_ok {P : Program} {E : Emb} {len top : Nat} {lo hi lo' hi' : Option Value} {l h : Nat} (isS : Bool) {cap : Nat} {w : World} (hb : Yz len top lo hi = some (l,h)) (hlo : OptR E lo lo') (hhi : OptR E hi hi')
    (htop : top ≤ cap) : (Instr.sliceBounds isS len cap lo' hi' none).run P w = .ok (l,h,cap) w ∧ l ≤ h ∧ (hi = none → h = len) ∧ (hi ≠ none → h ≤ top) := by
  unfold Yz at hb
  have hH : ∃ hh,hiOf len top hi = some hh := by
    cases hx : hiOf len top hi with
    | none => rw [hx] at hb; simp at hb
    | some hh => exact ⟨hh,rfl⟩
  obtain ⟨hh,hH⟩ := hH
  rw [hH] at hb
  simp only at hb
  have hL : ∃ ll,Gj hh lo = some ll := by
    cases hx : Gj hh lo with
    | none => rw [hx] at hb; simp at hb
    | some ll => exact ⟨ll,rfl⟩
  obtain ⟨ll,hL⟩ := hL
  rw [hL] at hb
  simp only [Option.some.injEq,Prod.mk.injEq] at hb
  obtain ⟨rfl,rfl⟩ := hb
  unfold Instr.sliceBounds
  cases hhi with
  | none =>
    simp only [hiOf,Option.some.injEq] at hH
    subst hH
    cases hlo with
    | none =>
      simp only [Gj,Option.some.injEq] at hL
      subst hL
      simp
    | some v v' hv =>
      obtain ⟨k,rfl,hle⟩ := Ji (by simpa only [Gj] using hL) hv
      simp [Yg hle,hle]
  | some u u' hu =>
    obtain ⟨k,rfl,hle⟩ := Ji (by simpa only [hiOf] using hH) hu
    cases hlo with
    | none =>
      simp only [Gj,Option.some.injEq] at hL
      subst hL
      simp [Yg (Nat.le_trans hle htop),hle]
    | some v v' hv =>
      obtain ⟨k',rfl,hle'⟩ := Ji (by simpa only [Gj] using hL) hv
      simp [Yg (Nat.le_trans hle htop),Yg hle',hle,hle']
theorem bounds3_ok {P : Program} {E : Emb} {len m : Nat} {lo hi lo' hi' : Option Value} {km : IntKind} {l h : Nat} {cap : Nat} {w : World} (hb : Yz len m lo hi = some (l,h)) (hlo : OptR E lo lo') (hhi : OptR E hi hi')
    (hne : hi ≠ none) (hm : m ≤ cap) : (Instr.sliceBounds true len cap lo' hi' (some (.int km m))).run P w = .ok (l,h,m) w ∧ l ≤ h ∧ h ≤ m := by
  unfold Yz at hb
  have hH : ∃ hh,hiOf len m hi = some hh := by
    cases hx : hiOf len m hi with
    | none => rw [hx] at hb; simp at hb
    | some hh => exact ⟨hh,rfl⟩
  obtain ⟨hh,hH⟩ := hH
  rw [hH] at hb
  simp only at hb
  have hL : ∃ ll,Gj hh lo = some ll := by
    cases hx : Gj hh lo with
    | none => rw [hx] at hb; simp at hb
    | some ll => exact ⟨ll,rfl⟩
  obtain ⟨ll,hL⟩ := hL
  rw [hL] at hb
  simp only [Option.some.injEq,Prod.mk.injEq] at hb
  obtain ⟨rfl,rfl⟩ := hb
  unfold Instr.sliceBounds
  cases hhi with
  | none => exact absurd rfl hne
  | some u u' hu =>
    obtain ⟨k,rfl,hle⟩ := Ji (by simpa only [hiOf] using hH) hu
    cases hlo with
    | none =>
      simp only [Gj,Option.some.injEq] at hL
      subst hL
      simp [Yg hm,Yg hle,hle]
    | some v v' hv =>
      obtain ⟨k',rfl,hle'⟩ := Ji (by simpa only [Gj] using hL) hv
      simp [Yg hm,Yg hle,Yg hle',hle,hle']
theorem slOk_ent {E : Emb} {h : Heap} {w : World} (hw : WR E h w) {size id off len cap : Nat} {en : Ent} (he : E id = some en) (hs : Jy h size (.slice (some ⟨id,off,none⟩) len cap) = true) :
    cap = 0 ∨ en.ro = true ∨ en.esz = 0 ∨ en.esz = size := by
  simp only [Jy] at hs
  by_cases hc0 : cap = 0
  · exact .inl hc0
  have hcb : cap.beq 0 = false := by rw [Ww]; simp [hc0]
  rw [hcb,Bool.false_or] at hs
  refine .inr ?_
  cases hg : h.get id with
  | none => rw [hg] at hs; simp at hs
  | some o =>
    cases o with
    | map es => rw [hg] at hs; simp at hs
    | cells vs e ro =>
      rw [hg] at hs
      obtain ⟨_,h2,h3,_⟩ := hw.obj id en _ he hg
      simp [Ww] at hs
      simp only [h2,h3]
      rcases hs with (h | h) | h
      · exact .inl h
      · exact .inr (.inl h)
      · exact .inr (.inr h)
theorem capM_ne {cap : Nat} (h : cap ≠ 0) : capM cap ≠ 0 := by
  unfold capM; cases cap.ble 1 <;> simp [h]
theorem capM_lt (cap : Nat) : ¬ 2 ≤ capM cap := by
  unfold capM
  cases h : cap.ble 1 with
  | true => have := Nat.le_of_ble_eq_true h; simp; omega
  | false => simp
theorem slice_VR {E : Emb} {id off len cap l hh size cap' : Nat} {en : Ent} {a' : Addr} {m : Nat} (he : E id = some en) (hm : en.mp = false) (hlen : len ≤ cap')
    (hcap : cap = 0 → cap' = 0) (hb : en.ro = false → en.esz ≠ 0 → off + cap' * en.esz ≤ en.lim ∧ (cap ≠ 0 → en.cnt ≤ off + cap' * en.esz) ∧ (2 ≤ cap → off + cap' * en.esz + 2 = cap)) (ha : cap' ≠ 0 → a' = ⟨en.block,en.base + off,none⟩)
    (hsz : cap = 0 ∨ en.ro = true ∨ en.esz = 0 ∨ en.esz = size) (hl : l ≤ hh) (hle : hh ≤ cap') :
    VR E (.slice (some ⟨id,off + l * size,none⟩) (hh - l) cap) (.slice (if cap' = l then some a' else (some a').map (·.add (l * size))) (hh - l) (cap' - l)) := by
  have hv : ∀ b' : Addr,(cap' - l ≠ 0 → b' = ⟨en.block,en.base + (off + l * size),none⟩) → VR E (.slice (some ⟨id,off + l * size,none⟩) (hh - l) cap) (.slice (some b') (hh - l) (cap' - l)) := fun b' hb' => by
    refine .sl id _ _ _ en b' _ he hm (by omega) (fun c => by have := hcap c; omega) (fun hr hz => ?_) hb'
    obtain ⟨b1,b2,b3⟩ := hb hr hz
    by_cases hc0 : cap = 0
    · have c0 := hcap hc0
      have l0 : l = 0 := by omega
      subst l0
      rw [c0] at b1 ⊢
      exact ⟨by simpa using b1,fun q => absurd hc0 q,fun q => by omega⟩
    have hz2 : en.esz = size := by
      rcases hsz with q | q | q | q
      · exact absurd q hc0
      · rw [q] at hr; cases hr
      · exact absurd q hz
      · exact q
    rw [hz2] at b1 b2 b3 ⊢
    have : l * size + (cap' - l) * size = cap' * size := by rw [← Nat.add_mul]; congr 1; omega
    refine ⟨by omega,fun c => ?_,fun c => ?_⟩
    · have := b2 c
      omega
    · have := b3 c
      omega
  by_cases hc : cap' = l
  · rw [if_pos hc]
    exact hv a' (fun q => by omega)
  · rw [if_neg hc]
    refine hv _ (fun q => ?_)
    rw [ha (by omega)]; simp only [Qk,Nat.add_assoc]
theorem slB_some {h : Heap} {size : Nat} {a : Option Addr} {len cap : Nat} {lo hi : Option Value} {b : Nat × Nat} (hb : slB h size a len cap lo hi = some b) : Yz len len lo hi = some b ∨ Yz len (Uv h size a len cap) lo hi = some b := by
  unfold slB at hb
  split at hb
  · rename_i b' h1
    cases hb; exact .inl h1
  · exact .inr hb
theorem roomOf_le {E : Emb} {h : Heap} {w : World} (hw : WR E h w) {size id off len cap cap' : Nat} {en : Ent} (he : E id = some en) (hlen : len ≤ cap')
    (hbd : en.ro = false → en.esz ≠ 0 → off + cap' * en.esz ≤ en.lim ∧ (cap ≠ 0 → en.cnt ≤ off + cap' * en.esz) ∧ (2 ≤ cap → off + cap' * en.esz + 2 = cap)) : Uv h size (some ⟨id,off,none⟩) len cap ≤ cap' := by
  unfold Uv
  simp only
  cases hc : (cap.beq 0 || size.beq 0) with
  | true => exact hlen
  | false =>
    simp only [cond_false]
    rw [Bool.or_eq_false_iff] at hc
    have hc0 : cap ≠ 0 := by have := hc.1; rw [Ww] at this; simpa using this
    have hs0 : size ≠ 0 := by have := hc.2; rw [Ww] at this; simpa using this
    split
    · rename_i vs e hg
      cases hb : e.beq size with
      | false => exact hlen
      | true =>
        have hes : e = size := by rw [Ww] at hb; simpa using hb
        simp only [cond_true]
        cases hl : len.ble ((vs.length - off) / size) with
        | false => exact hlen
        | true =>
          simp only [cond_true]
          obtain ⟨_,h2,h3,⟨h4,_⟩,_⟩ := hw.obj id en _ he hg
          obtain ⟨_,b2,_⟩ := hbd h3 (by rw [h2,hes]; exact hs0)
          have := b2 hc0
          rw [h2,hes,← h4] at this
          exact Nat.div_le_of_le_mul (by rw [Nat.mul_comm]; omega)
    · exact hlen
theorem tipOf_ent {E : Emb} {h : Heap} {w : World} (hw : WR E h w) {size m id off cap : Nat} {en : Ent} (he : E id = some en) (ht : tipOf h size m (some ⟨id,off,none⟩) cap = true) : cap ≠ 0 ∧ size ≠ 0 ∧ en.ro = false ∧ en.esz = size ∧ en.cnt ≤ off + m * size := by
  unfold tipOf at ht
  simp only at ht
  cases hc : (cap.beq 0 || size.beq 0) with
  | true => rw [hc] at ht; simp at ht
  | false =>
    rw [hc] at ht
    simp only [cond_false] at ht
    rw [Bool.or_eq_false_iff] at hc
    have hc0 : cap ≠ 0 := by have := hc.1; rw [Ww] at this; simpa using this
    have hs0 : size ≠ 0 := by have := hc.2; rw [Ww] at this; simpa using this
    split at ht
    · rename_i vs e hg
      cases hb : e.beq size with
      | false => rw [hb] at ht; simp at ht
      | true =>
        rw [hb] at ht
        simp only [cond_true] at ht
        have hes : e = size := by rw [Ww] at hb; simpa using hb
        obtain ⟨_,h2,h3,⟨h4,_⟩,_⟩ := hw.obj id en _ he hg
        exact ⟨hc0,hs0,h3,by rw [h2,hes],by rw [← h4]; exact Nat.le_of_ble_eq_true ht⟩
    · cases ht
theorem slVV_ok {P : Program} {E : Emb} {h : Heap} {w : World} (hw : WR E h w) {t el : TypeId} {size : Nat} (ht : P.underlying t = some (.slice el)) (hs : Zs P el = some size)
    {s s' v : Value} {lo hi mx lo' hi' mx' : Option Value} (hsv : VR E s s') (hlo : OptR E lo lo') (hhi : OptR E hi hi') (hmx : OptR E mx mx') (hne : mx ≠ none → hi ≠ none) (hv : slVV h size s lo hi mx = some v) :
    ∃ v',(Instr.sliceAt t s' lo' hi' mx').run P w = .ok v' w ∧ VR E v v' := by
  have hred : (Instr.sliceAt t s' lo' hi' mx').run P w = (Instr.slice t s' lo' hi' mx').run P w := by
    unfold Instr.sliceAt
    simp [Wq ht]
  rw [hred]
  unfold slVV at hv
  cases hsv with
  | snil =>
    simp only [Jy,Bool.not_true,cond_false] at hv
    cases hmx with
    | none =>
      simp only [Option.map_eq_some_iff] at hv
      obtain ⟨⟨l,hh⟩,hb,rfl⟩ := hv
      have hb : Yz 0 0 lo hi = some (l,hh) := (slB_some hb).elim id id
      obtain ⟨h1,h2,h3,h4⟩ := bounds_ok (P := P) (E := E) (w := w) true hb hlo hhi (Nat.le_refl 0)
      have : hh = 0 := by
        by_cases q : hi = none
        · exact h3 q
        · have := h4 q; omega
      subst this
      have : l = 0 := by omega
      subst this
      refine ⟨.slice none 0 0,?_,.snil⟩
      unfold Instr.slice
      simp [Wq ht,h1,Xv hs]
    | some m m' hm =>
      simp only at hv
      cases hm2 : Ur 0 m with
      | none => rw [hm2] at hv; simp at hv
      | some k =>
        rw [hm2] at hv
        simp only at hv
        obtain ⟨km,rfl,hk⟩ := Ji hm2 hm
        have : k = 0 := by omega
        subst this
        cases hb : Yz 0 0 lo hi with
        | none => rw [hb] at hv; simp at hv
        | some b =>
          obtain ⟨l,hh⟩ := b
          rw [hb] at hv
          obtain ⟨h1,h2,h3⟩ := bounds3_ok (P := P) (E := E) (w := w) (km := km) hb hlo hhi (hne (by simp)) (Nat.le_refl 0)
          have : hh = 0 := by omega
          subst this
          have : l = 0 := by omega
          subst this
          simp only [Nat.sub_self,show Nat.beq 0 0 = true from rfl,cond_true,Option.some.injEq] at hv
          subst hv
          refine ⟨.slice none 0 0,?_,.snil⟩
          unfold Instr.slice
          simp at h1
          simp [Wq ht,h1,Xv hs]
  | sl id off len cap en a' cap' he hm hlen hcap hbd ha =>
    cases hok : Jy h size (.slice (some ⟨id,off,none⟩) len cap) with
    | false => rw [hok] at hv; simp at hv
    | true =>
      rw [hok] at hv
      simp only [Bool.not_true,cond_false] at hv
      have hsz := slOk_ent hw he hok
      cases hmx with
      | none =>
        simp only [Option.map_eq_some_iff] at hv
        obtain ⟨⟨l,hh⟩,hb,rfl⟩ := hv
        obtain ⟨top,htop,hb⟩ : ∃ top,top ≤ cap' ∧ Yz len top lo hi = some (l,hh) := (slB_some hb).elim (fun q => ⟨len,hlen,q⟩) fun q => ⟨_,roomOf_le hw he hlen hbd,q⟩
        obtain ⟨h1,h2,h3,h4⟩ := bounds_ok (P := P) (E := E) (w := w) true hb hlo hhi htop
        have hle : hh ≤ cap' := by
          by_cases q : hi = none
          · rw [h3 q]; exact hlen
          · have := h4 q; omega
        refine ⟨_,?_,slice_VR (m := 0) he hm hlen hcap hbd ha hsz h2 hle⟩
        unfold Instr.slice
        simp [Wq ht,h1,Xv hs]
      | some m m' hmv =>
        simp only at hv
        cases hm2 : Ur len m with
        | none => rw [hm2] at hv; simp at hv
        | some k =>
          rw [hm2] at hv
          simp only at hv
          obtain ⟨km,rfl,hk⟩ := Ji hm2 hmv
          cases hb : Yz len k lo hi with
          | none => rw [hb] at hv; simp at hv
          | some b =>
            obtain ⟨l,hh⟩ := b
            rw [hb] at hv
            obtain ⟨h1,h2,h3⟩ := bounds3_ok (P := P) (E := E) (w := w) (km := km) hb hlo hhi (hne (by simp)) (Nat.le_trans hk hlen)
            cases hz : (k - l).beq 0 with
            | false =>
              simp only [hz,cond_false] at hv
              cases htp : tipOf h size k (some ⟨id,off,none⟩) cap with
              | false => rw [htp] at hv; simp at hv
              | true =>
                rw [htp] at hv
                simp only [cond_true,Option.some.injEq] at hv
                subst hv
                obtain ⟨t1,t2,t3,t4,t5⟩ := tipOf_ent hw he htp
                have hkl : k - l ≠ 0 := by rw [Ww] at hz; simpa using hz
                refine ⟨.slice ((some a').map (·.add (l * size))) (hh - l) (k - l),?_,?_⟩
                · unfold Instr.slice
                  simp [Wq ht,h1,Xv hs,show ¬ k = l by omega]
                · obtain ⟨b1,_⟩ := hbd t3 (by rw [t4]; exact t2)
                  rw [t4] at b1
                  have e1 : l * size + (k - l) * size = k * size := by rw [← Nat.add_mul]; congr 1; omega
                  have e2 : k * size ≤ cap' * size := Nat.mul_le_mul_right _ (by omega)
                  refine .sl id _ _ _ en _ _ he hm (by omega) (fun q => absurd q (capM_ne t1)) (fun _ _ => ?_) (fun _ => ?_)
                  · rw [t4]
                    show off + l * size + (k - l) * size ≤ en.lim ∧ (capM cap ≠ 0 → en.cnt ≤ off + l * size + (k - l) * size) ∧ (2 ≤ capM cap → off + l * size + (k - l) * size + 2 = capM cap)
                    exact ⟨by omega,fun _ => by omega,fun q => absurd q (capM_lt _)⟩
                  · rw [ha (by omega)]; simp only [Qk,Nat.add_assoc]
            | true =>
              simp only [hz,cond_true,Option.some.injEq] at hv
              subst hv
              have hkl : k - l = 0 := by simpa [Ww] using hz
              have : hh = k := by omega
              subst this
              refine ⟨.slice (if hh = l then some a' else (some a').map (·.add (l * size))) (hh - l) (hh - l),?_,?_⟩
              · unfold Instr.slice
                simp [Wq ht,h1,Xv hs]
              · rw [if_pos (by omega),hkl]
                refine .sl id _ _ _ en a' _ he hm (Nat.le_refl _) (fun _ => rfl) (fun hr hz2 => ?_) (fun q => absurd rfl q)
                refine ⟨?_,fun q => absurd rfl q,fun q => by omega⟩
                obtain ⟨b1,_⟩ := hbd hr hz2
                by_cases hc0 : cap = 0
                · have c0 := hcap hc0
                  have l0 : l = 0 := by omega
                  subst l0
                  rw [c0] at b1
                  simpa using b1
                have hz3 : en.esz = size := by
                  rcases hsz with q | q | q | q
                  · exact absurd q hc0
                  · rw [q] at hr; cases hr
                  · exact absurd q hz2
                  · exact q
                rw [hz3] at b1
                have : l * size ≤ cap' * size := Nat.mul_le_mul_right _ (by omega)
                simp; omega
  | _ => simp at hv
end Go.Dx
