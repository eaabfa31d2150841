/- A deterministic reading of the model's code: arguments that are scalars, or slices of scalars, in a heap that is known to the last number. -/
import Derived.Test.YtpkefdoleieloaaCsz22
namespace Go.Dx
set_option linter.unusedVariables false
set_option linter.unusedSimpArgs false
def scalT (P : Program) (t : TypeId) : Bool := match P.underlying t with
  | some .bool => true
  | some (.int _) => true
  | some .string => true
  | _ => false
def Zw (P : Program) (t : TypeId) (v : Value) : Prop := match P.underlying t with
  | some .bool => ∃ x,v = .bool x
  | some (.int k) => ∃ n,v = .int k n ∧ (Lit.int k n).wf = true
  | some .string => ∃ s,v = .string s ∧ s.size ≤ maxLen
  | _ => False
def flatT (P : Program) (t : TypeId) : Bool := match P.underlying t with
  | some (.slice e) => scalT P e && (P.cellsOf e).beq 1
  | _ => scalT P t
theorem Zw.any {P : Program} {t : TypeId} {v v' : Value} (h : Zw P t v) {E : Emb} (hv : VR E v v') (E' : Emb) : VR E' v v' := by
  unfold Zw at h
  split at h
  · obtain ⟨x,rfl⟩ := h; cases hv; exact .bool _
  · obtain ⟨x,rfl,_⟩ := h; cases hv; exact .int _ _
  · obtain ⟨x,rfl,_⟩ := h; cases hv; exact .str _
  · exact h.elim
theorem Zw.of_GV {P : Program} {b : Qw} {d : Nat} {t : TypeId} {cs : List Value} (hs : scalT P t = true) (h : GV P b d t cs) : ∃ v,cs = [v] ∧ Zw P t v := by
  cases d with
  | zero => exact h.elim
  | succ d =>
    unfold scalT at hs
    unfold GV at h
    unfold Zw
    split at hs <;> rename_i ht
    · rw [ht] at h; obtain ⟨x,rfl⟩ := h; exact ⟨_,rfl,_,rfl⟩
    · rw [ht] at h; obtain ⟨x,rfl,q⟩ := h; exact ⟨_,rfl,_,rfl,q⟩
    · rw [ht] at h; obtain ⟨x,rfl,q⟩ := h; exact ⟨_,rfl,_,rfl,q⟩
    · cases hs
theorem okT_of_flat {P : Program} {t : TypeId} (h : flatT P t = true) : okT P 2 t = true := by
  unfold flatT at h
  unfold okT
  have hsc : ∀ {e d},scalT P e = true → okT P (d + 1) e = true := by
    intro e d hs
    unfold scalT at hs
    unfold okT
    split at hs <;> rename_i ht
    · rw [ht]
    · rw [ht]
    · rw [ht]
    · cases hs
  split at h
  · rename_i e ht
    rw [ht]
    simp only [Bool.and_eq_true] at h
    have hz : (P.cellsOf e).beq 0 = false := by
      have := Nat.eq_of_beq_eq_true h.2
      rw [this]; rfl
    show (bif (P.cellsOf e).beq 0 then false else okT P 1 e) = true
    rw [hz]
    exact hsc h.1
  · exact hsc (d := 1) h
def Ua (L : List (List Value)) : Qw := fun i => match i with
  | 0 => none
  | i + 1 => L[i]?
def flatH (L : List (List Value)) : Heap := Gk (Ua L) (L.length + 1)
theorem flatB_more (L : List (List Value)) (l : List Value) : Ua (L ++ [l]) = (Ua L).more (L.length + 1) l := by
  funext i
  unfold Qw.more
  cases i with
  | zero => simp [Ua]
  | succ i =>
    simp only [Ua]
    by_cases hi : i = L.length
    · subst hi; simp
    · rw [if_neg (by omega)]
      by_cases h2 : i < L.length
      · rw [List.getElem?_append_left h2]
      · rw [List.getElem?_eq_none (by simp; omega),List.getElem?_eq_none (by omega)]
def Qx (P : Program) : Nat → List TypeId → List Value → List (List Value) → Prop
  | _,[],vs,L => vs = [] ∧ L = []
  | k,t :: ts,vs,L => ∃ v r,vs = v :: r ∧ match P.underlying t with
    | some (.slice e) => ((v = .slice none 0 0 ∨ v = .slice (some ⟨0,0,none⟩) 0 0) ∧ Qx P k ts r L) ∨
        ∃ l L2,v = .slice (some ⟨k + 1,0,none⟩) l.length 1 ∧ L = l :: L2 ∧ (∀ c ∈ l,Zw P e c) ∧ Qx P (k + 1) ts r L2
    | _ => Zw P t v ∧ Qx P k ts r L
section
variable {H : Type} {enc : TypeId × Value → H} {P : Program} {w : World}
theorem rows_scal {e : TypeId} {G : List Value → Prop} (hG : ∀ c,G c → ∃ v,c = [v] ∧ Zw P e v) {sz : Nat} : ∀ {n : Nat} {l : List Value},Rows G sz n l → l.length = n ∧ ∀ c ∈ l,Zw P e c
  | _,_,.nil => ⟨rfl,fun c h => by cases h⟩
  | _,_,.cons c l n h1 h2 h3 => by
    obtain ⟨v,rfl,hv⟩ := hG c h2
    obtain ⟨a,b⟩ := rows_scal hG h3
    refine ⟨by simp [a],fun c hc => ?_⟩
    simp at hc
    rcases hc with rfl | hc
    · exact hv
    · exact b c hc
theorem args_flat {r : Reach} {b0 : Nat} : ∀ (ts : List TypeId) (vs : List Value) (ds : List (DataW H)) (ps : List MemPlace),DataW.TrodAll enc P w 0 (fun _ => true) true ts vs ds ps →
    (∀ (j : Nat) t v,ts[j]? = some t → vs[j]? = some v → Value.okWide P w r b0 t v) → ts.all (flatT P) = true → ∀ L E,In w (L.length + 1) (Ua L) E →
    ∃ L' E' vs',In w ((L ++ L').length + 1) (Ua (L ++ L')) E' ∧ (∀ id en,E id = some en → E' id = some en) ∧ VRL E' vs' vs ∧ Qx P L.length ts vs' L'
  | [],vs,ds,ps,hA,_,_,L,E,hI => by
    obtain ⟨rfl,_,_⟩ := Go.ChangeShapes.trodAll_nil hA
    exact ⟨[],E,[],by simpa using hI,fun _ _ h => h,.nil,rfl,rfl⟩
  | t :: ts,vs,ds,ps,hA,hval,hok,L,E,hI => by
    simp only [List.all_cons,Bool.and_eq_true] at hok
    obtain ⟨v,vs2,d0,ds2,p,q,rfl,rfl,rfl,h0,r0⟩ := Go.ChangeShapes.trodAll_cons hA
    have hval' : ∀ (j : Nat) t v,ts[j]? = some t → vs2[j]? = some v → Value.okWide P w r b0 t v := fun j t v a b => hval (j + 1) t v (by simpa using a) (by simpa using b)
    obtain ⟨N1,b1,E1,u,i1,g1,v1,G1⟩ := one_open (hval 0 t v rfl rfl) h0 (okT_of_flat hok.1) In.start
    have same : ∀ u,(∀ E,VR E u v ∨ ∃ E1,VR E1 u v ∧ Zw P t u) → True := fun _ _ => trivial
    have cont : ∀ u,(∀ E' : Emb,(∀ id en,E id = some en → E' id = some en) → VR E' u v) → (∀ r L',Qx P L.length ts r L' → Qx P L.length (t :: ts) (u :: r) L') →
        ∃ L' E' vs',In w ((L ++ L').length + 1) (Ua (L ++ L')) E' ∧ (∀ id en,E id = some en → E' id = some en) ∧ VRL E' vs' (v :: vs2) ∧ Qx P L.length (t :: ts) vs' L' := by
      intro u hu hg
      obtain ⟨L',E',us,i2,e2,v2,G2⟩ := args_flat ts vs2 ds2 q r0 hval' hok.2 L E hI
      exact ⟨L',E',u :: us,i2,e2,.cons _ _ _ _ (hu E' e2) v2,hg _ _ G2⟩
    have hflat := hok.1
    unfold flatT at hflat
    unfold GA at G1
    split at hflat
    · rename_i e ht
      rw [ht] at G1
      simp only at G1
      simp only [Bool.and_eq_true] at hflat
      unfold GV at G1
      rw [ht] at G1
      simp only [List.cons.injEq,and_true] at G1
      rcases G1 with rfl | rfl | ⟨id,l,n,rfl,hb,hn,hR⟩
      · cases v1
        exact cont (.slice none 0 0) (fun _ _ => .snil) (fun r L' hF => ⟨_,_,rfl,by rw [ht]; exact .inl ⟨.inl rfl,hF⟩⟩)
      · refine cont (.slice (some ⟨0,0,none⟩) 0 0) (fun E' hE' => ?_) (fun r L' hF => ⟨_,_,rfl,by rw [ht]; exact .inl ⟨.inr rfl,hF⟩⟩)
        cases v1 with
        | sl _ _ _ _ en a' cap' he hm hl hc hbd ha =>
          refine .sl 0 0 0 0 _ a' cap' (hE' _ _ hI.dead) rfl hl hc (fun q => by cases q) (fun q => absurd (hc rfl) q)
      · obtain ⟨hll,hls⟩ := rows_scal (fun c hc => Zw.of_GV hflat.1 hc) hR
        cases v1 with
        | sl _ _ _ _ en a' cap' he hm hl hc hbd ha =>
          obtain ⟨o1,c,el,fr,o2,o3,o4⟩ := i1.obj id en l he hb
          obtain ⟨i2,g2⟩ := hI.add (l := l) (en := en) (i1.ent id en he) o1 ⟨c,el,fr,o2,o3,fun i x hx => by
            obtain ⟨x',q1,q2⟩ := o4 i x hx
            exact ⟨x',q1,(hls x (List.mem_of_getElem? hx)).any q2 _⟩⟩
          rw [← flatB_more] at i2 g2
          obtain ⟨L',E',us,i3,e3,v3,G3⟩ := args_flat ts vs2 ds2 q r0 hval' hok.2 (L ++ [l]) _ (by simpa using i2)
          refine ⟨l :: L',E',.slice (some ⟨L.length + 1,0,none⟩) n 1 :: us,by simpa using i3,fun i x hx => e3 i x (g2.ent i x hx),.cons _ _ _ _ ?_ v3,?_⟩
          · exact .sl _ 0 n 1 en a' cap' (e3 _ _ (Emb.more_same _ _ _)) hm hl (fun q => by cases q) (fun q => by rw [(i1.ent id en he).1] at q; cases q) ha
          · refine ⟨_,_,rfl,?_⟩
            rw [ht]
            refine .inr ⟨l,L',by rw [hll],rfl,hls,?_⟩
            have : (L ++ [l]).length = L.length + 1 := by simp
            rw [this] at G3
            exact G3
    · rename_i hns
      have hG : Zw P t u := by
        split at G1
        · rename_i fs hfs
          unfold scalT at hflat
          rw [hfs] at hflat
          cases hflat
        · obtain ⟨x,hx,hs⟩ := Zw.of_GV hflat G1
          simp only [List.cons.injEq,and_true] at hx
          subst hx; exact hs
      refine cont u (fun E' _ => hG.any v1 E') (fun r L' hF => ⟨_,_,rfl,?_⟩)
      split
      · rename_i e he; exact absurd he (hns e)
      · exact ⟨hG,hF⟩
theorem calls_flat {f : Nat} {r : Reach} {b0 : Nat} {ts : List TypeId} {args : Array Value} {ds : List (DataW H)} {ps : List MemPlace} (hA : DataW.TrodAll enc P w 0 (fun _ => true) true ts args.toList ds ps)
    (hval : ∀ (j : Nat) t v,ts[j]? = some t → args.toList[j]? = some v → Value.okWide P w r b0 t v) (hok : ts.all (flatT P) = true)
    (hf : ∀ (L : List (List Value)) (vs : List Value),Qx P 0 ts vs L → Fn P f vs (flatH L) fun v _ => v = .bool true) :
    Calls P f args w fun e w' => e = .returned (.bool true) ∧ Go.RowKit.Below w.heap.size w w' := by
  have hB : Ua [] = fun _ => none := by funext i; cases i <;> simp [Ua]
  obtain ⟨L,E,vs,hI,_,hv,hG⟩ := args_flat ts args.toList ds ps hA hval hok [] _ (by rw [hB]; exact In.start)
  simp only [List.nil_append] at hI
  refine ((hf L vs hG).2 E w args.toList hI.wr hv).mono ?_
  rintro en w' ⟨v,h',E',v',rfl,rfl,hv,hw,hs⟩
  cases hv
  refine ⟨rfl,hs.below fun blk hb => ?_⟩
  obtain ⟨id,en,o,_,hg,hr,_⟩ := hb
  obtain ⟨_,l,hl,rfl⟩ := Uy hg
  simp [AObj.rw] at hr
end
end Go.Dx
