/- A deterministic reading of the model's code: arguments that came in, as abstract blocks that are only read. -/
import Derived.Test.YtpkefdoleieloaaCsz21
import Derived.WideShapes
import Derived.ChangeArms
import Derived.ChangeShapes
import Derived.DataReads
namespace Go.Dx
set_option linter.unusedVariables false
set_option linter.unusedSimpArgs false
abbrev Qw := Nat → Option (List Value)
structure In (w : World) (N : Nat) (b : Qw) (E : Emb) : Prop where
  pos : 0 < N
  dead : E 0 = some ⟨0,0,0,0,0,true,false⟩
  hole : b 0 = none
  dom : ∀ id en,E id = some en → id < N
  bdom : ∀ id l,b id = some l → id < N
  ent : ∀ id en,E id = some en → en.ro = true ∧ en.mp = false ∧ en.esz = 0
  obj : ∀ id en l,E id = some en → b id = some l → (l.length = en.cnt ∧ en.cnt ≤ en.lim) ∧ ∃ c el fr,w.heap[en.block]? = some (.cells c el fr) ∧ en.base + en.lim ≤ c.size ∧ ∀ i v,l[i]? = some v → ∃ v',c[en.base + i]? = some v' ∧ VR E v v'
structure Grow (N : Nat) (b : Qw) (E : Emb) (N' : Nat) (b' : Qw) (E' : Emb) : Prop where
  le : N ≤ N'
  ent : ∀ id en,E id = some en → E' id = some en
  blk : ∀ id l,b id = some l → b' id = some l
theorem Grow.refl (N : Nat) (b : Qw) (E : Emb) : Grow N b E N b E := ⟨Nat.le_refl _,fun _ _ h => h,fun _ _ h => h⟩
theorem Grow.trans {N N' N2 : Nat} {b b' b2 : Qw} {E E' E2 : Emb} (h : Grow N b E N' b' E') (k : Grow N' b' E' N2 b2 E2) : Grow N b E N2 b2 E2 :=
  ⟨Nat.le_trans h.le k.le,fun i e q => k.ent i e (h.ent i e q),fun i e q => k.blk i e (h.blk i e q)⟩
def Qw.more (b : Qw) (id : Nat) (l : List Value) : Qw := fun i => if i = id then some l else b i
theorem In.add {w : World} {N : Nat} {b : Qw} {E : Emb} (h : In w N b E) {l : List Value} {en : Ent} (h1 : en.ro = true ∧ en.mp = false ∧ en.esz = 0) (h2 : l.length = en.cnt ∧ en.cnt ≤ en.lim)
    (h3 : ∃ c el fr,w.heap[en.block]? = some (.cells c el fr) ∧ en.base + en.lim ≤ c.size ∧ ∀ i v,l[i]? = some v → ∃ v',c[en.base + i]? = some v' ∧ VR E v v') :
    In w (N + 1) (b.more N l) (E.more N en) ∧ Grow N b E (N + 1) (b.more N l) (E.more N en) := by
  have hN := h.pos
  have g : Grow N b E (N + 1) (b.more N l) (E.more N en) := by
    refine ⟨by omega,fun i e q => ?_,fun i e q => ?_⟩
    · rw [Emb.more_ne _ _ (by have := h.dom i e q; omega)]; exact q
    · unfold Qw.more; rw [if_neg (by have := h.bdom i e q; omega)]; exact q
  refine ⟨⟨by omega,g.ent _ _ h.dead,?_,?_,?_,?_,?_⟩,g⟩
  · unfold Qw.more; rw [if_neg (by omega)]; exact h.hole
  · intro i e q
    by_cases hi : i = N
    · omega
    · rw [Emb.more_ne _ _ hi] at q; have := h.dom i e q; omega
  · intro i e q
    unfold Qw.more at q
    by_cases hi : i = N
    · omega
    · rw [if_neg hi] at q; have := h.bdom i e q; omega
  · intro i e q
    by_cases hi : i = N
    · subst hi; rw [Emb.more_same] at q; cases q; exact h1
    · rw [Emb.more_ne _ _ hi] at q; exact h.ent i e q
  · intro i e l' q1 q2
    unfold Qw.more at q2
    by_cases hi : i = N
    · subst hi; rw [Emb.more_same] at q1; rw [if_pos rfl] at q2; cases q1; cases q2
      obtain ⟨c,el,fr,a1,a2,a3⟩ := h3
      refine ⟨h2,c,el,fr,a1,a2,fun i v hv => ?_⟩
      obtain ⟨v',b1,b2⟩ := a3 i v hv
      exact ⟨v',b1,b2.mono g.ent⟩
    · rw [Emb.more_ne _ _ hi] at q1; rw [if_neg hi] at q2
      obtain ⟨a0,c,el,fr,a1,a2,a3⟩ := h.obj i e l' q1 q2
      refine ⟨a0,c,el,fr,a1,a2,fun i v hv => ?_⟩
      obtain ⟨v',b1,b2⟩ := a3 i v hv
      exact ⟨v',b1,b2.mono g.ent⟩
/-! ### Which cells stand for a type -/
def Gn (P : Program) : List Field → Nat → Option Nat
  | [],n => some n
  | f :: r,n => bif f.offset.beq n then Gn P r (n + P.cellsOf f.type) else none
def okT (P : Program) : Nat → TypeId → Bool
  | 0,_ => false
  | d + 1,t => match P.underlying t with
    | some .bool => true
    | some (.int _) => true
    | some .string => true
    | some (.slice e) => bif (P.cellsOf e).beq 0 then false else okT P d e
    | some (.struct fs) => bif decide (Gn P fs.toList 0 = some (P.cellsOf t)) then fs.toList.all fun f => okT P d f.type else false
    | _ => false
inductive Rows (G : List Value → Prop) (sz : Nat) : Nat → List Value → Prop
  | nil : Rows G sz 0 []
  | cons (c l : List Value) (n : Nat) : c.length = sz → G c → Rows G sz n l → Rows G sz (n + 1) (c ++ l)
def Jx (G : TypeId → List Value → Prop) (sz : TypeId → Nat) : List Field → List Value → Prop
  | [],cs => cs = []
  | f :: r,cs => ∃ c rest,cs = c ++ rest ∧ c.length = sz f.type ∧ G f.type c ∧ Jx G sz r rest
def GV (P : Program) (b : Qw) : Nat → TypeId → List Value → Prop
  | 0,_,_ => False
  | d + 1,t,cs => match P.underlying t with
    | some .bool => ∃ x,cs = [.bool x]
    | some (.int k) => ∃ n,cs = [.int k n] ∧ (Lit.int k n).wf = true
    | some .string => ∃ s,cs = [.string s] ∧ s.size ≤ maxLen
    | some (.slice e) => cs = [.slice none 0 0] ∨ cs = [.slice (some ⟨0,0,none⟩) 0 0] ∨ ∃ id l n,cs = [.slice (some ⟨id,0,none⟩) n 1] ∧ b id = some l ∧ n ≤ maxLen ∧ Rows (fun c => GV P b d e c) (P.cellsOf e) n l
    | some (.struct fs) => Jx (fun t c => GV P b d t c) P.cellsOf fs.toList cs
    | _ => False
theorem Rows.mono {G G' : List Value → Prop} {sz : Nat} (h : ∀ c,G c → G' c) : ∀ {n : Nat} {l : List Value},Rows G sz n l → Rows G' sz n l
  | _,_,.nil => .nil
  | _,_,.cons c l n h1 h2 h3 => .cons c l n h1 (h c h2) (h3.mono h)
theorem Rows.length {G : List Value → Prop} {sz : Nat} : ∀ {n : Nat} {l : List Value},Rows G sz n l → l.length = n * sz
  | _,_,.nil => by simp
  | _,_,.cons c l n h1 _ h3 => by rw [List.length_append,h3.length,h1,Nat.add_mul]; omega
theorem Jx.mono {G G' : TypeId → List Value → Prop} {sz : TypeId → Nat} (h : ∀ t c,G t c → G' t c) : ∀ {fs : List Field} {l : List Value},Jx G sz fs l → Jx G' sz fs l
  | [],_,h' => h'
  | f :: r,_,⟨c,rest,h1,h2,h3,h4⟩ => ⟨c,rest,h1,h2,h _ _ h3,Jx.mono h h4⟩
theorem GV.mono {P : Program} {b b' : Qw} (hb : ∀ id l,b id = some l → b' id = some l) : ∀ {d : Nat} {t : TypeId} {cs : List Value},GV P b d t cs → GV P b' d t cs
  | 0,_,_,h => h
  | d + 1,t,cs,h => by
    unfold GV at h ⊢
    split at h
    · exact h
    · exact h
    · exact h
    · rcases h with h | h | ⟨id,l,n,h1,h2,h3,h4⟩
      · exact .inl h
      · exact .inr (.inl h)
      · exact .inr (.inr ⟨id,l,n,h1,hb _ _ h2,h3,h4.mono fun c q => GV.mono hb q⟩)
    · exact Jx.mono (fun t c q => GV.mono hb q) h
    · exact h
/-! ### Out of a reading -/
section
variable {H : Type} {enc : TypeId × Value → H} {P : Program} {w : World}
def Opens (enc : TypeId × Value → H) (P : Program) (w : World) (fuel d : Nat) (t : TypeId) : Prop :=
  ∀ cs x,DataW.trod enc P w 0 (fun _ => true) true fuel t cs = some x → okT P d t = true → ∀ N b E,In w N b E → ∃ N' b' E' cs',In w N' b' E' ∧ Grow N b E N' b' E' ∧ VRL E' cs' cs ∧ GV P b' d t cs'
theorem rows_open {fuel d : Nat} {e : TypeId} {sz : Nat} (ih : Opens enc P w fuel d e) (hok : okT P d e = true) : ∀ (n : Nat) (S : List Value),S.length = n * sz → (∀ i,i < n → ∃ x,DataW.trod enc P w 0 (fun _ => true) true fuel e ((S.drop (i * sz)).take sz) = some x) →
    ∀ N b E,In w N b E → ∃ N' b' E' cs',In w N' b' E' ∧ Grow N b E N' b' E' ∧ VRL E' cs' S ∧ Rows (fun c => GV P b' d e c) sz n cs'
  | 0,S,hS,_,N,b,E,hI => by
    have : S = [] := List.eq_nil_of_length_eq_zero (by omega)
    subst this
    exact ⟨N,b,E,[],hI,Grow.refl _ _ _,.nil,.nil⟩
  | n + 1,S,hS,hx,N,b,E,hI => by
    have hS' : sz ≤ S.length := by rw [hS,Nat.add_mul]; omega
    obtain ⟨x,h0⟩ := hx 0 (by omega)
    simp only [Nat.zero_mul,List.drop_zero] at h0
    obtain ⟨N1,b1,E1,c1,i1,g1,v1,G1⟩ := ih _ _ h0 hok N b E hI
    obtain ⟨N2,b2,E2,c2,i2,g2,v2,G2⟩ := rows_open (sz := sz) ih hok n (S.drop sz) (by rw [List.length_drop,hS,Nat.add_mul]; omega) (fun i hi => by
      obtain ⟨x,q⟩ := hx (i + 1) (by omega)
      exact ⟨x,by rw [List.drop_drop]; rw [show sz + i * sz = (i + 1) * sz by rw [Nat.add_mul]; omega]; exact q⟩) N1 b1 E1 i1
    refine ⟨N2,b2,E2,c1 ++ c2,i2,g1.trans g2,?_,.cons c1 c2 n ?_ (G1.mono g2.blk) G2⟩
    · rw [← List.take_append_drop sz S]
      exact (v1.mono g2.ent).append v2
    · rw [v1.length]; simp; omega
theorem fields_open {fuel d : Nat} {cs : List Value} (ih : ∀ t,Opens enc P w fuel d t) : ∀ (fs : List Field) (n m : Nat),Gn P fs n = some m → m = cs.length → (∀ f ∈ fs,okT P d f.type = true) →
    (∀ f ∈ fs,∃ x,DataW.trod enc P w 0 (fun _ => true) true fuel f.type ((cs.drop f.offset).take (P.cellsOf f.type)) = some x) →
    ∀ N b E,In w N b E → ∃ N' b' E' cs',In w N' b' E' ∧ Grow N b E N' b' E' ∧ n ≤ m ∧ VRL E' cs' (cs.drop n) ∧ Jx (fun t c => GV P b' d t c) P.cellsOf fs cs'
  | [],n,m,hc,hm,_,_,N,b,E,hI => by
    simp only [Gn,Option.some.injEq] at hc
    subst hc; subst hm
    exact ⟨N,b,E,[],hI,Grow.refl _ _ _,Nat.le_refl _,by simp; exact .nil,rfl⟩
  | f :: fs,n,m,hc,hm,hok,hx,N,b,E,hI => by
    simp only [Gn] at hc
    cases hb : f.offset.beq n with
    | false => rw [hb] at hc; simp at hc
    | true =>
      rw [hb] at hc
      simp only [cond_true] at hc
      have hoff : f.offset = n := Nat.eq_of_beq_eq_true hb
      obtain ⟨x,h0⟩ := hx f (by simp)
      obtain ⟨N1,b1,E1,c1,i1,g1,v1,G1⟩ := ih f.type _ _ h0 (hok f (by simp)) N b E hI
      obtain ⟨N2,b2,E2,c2,i2,g2,hle,v2,G2⟩ := fields_open ih fs (n + P.cellsOf f.type) m hc hm (fun g hg => hok g (by simp [hg])) (fun g hg => hx g (by simp [hg])) N1 b1 E1 i1
      refine ⟨N2,b2,E2,c1 ++ c2,i2,g1.trans g2,by omega,?_,c1,c2,rfl,?_,G1.mono g2.blk,G2⟩
      · rw [hoff] at v1
        rw [← List.take_append_drop (P.cellsOf f.type) (cs.drop n),List.drop_drop]
        exact (v1.mono g2.ent).append v2
      · rw [v1.length,hoff]; simp; omega
theorem cells_seg {a : Addr} {sz : Nat} {cs : List Value} {c : Array Value} {el : TypeId} {fr : Nat × Nat} (h : w.cells? 0 a sz = some cs) (hs : a.spot = none) (hb : w.heap[a.block]? = some (.cells c el fr)) (hz : 0 < sz) :
    cs = (c.toList.drop a.off).take sz ∧ a.off + sz ≤ c.size := by
  obtain ⟨_,h1,h2⟩ := World.cells?_some h
  have h3 : ∀ i,i < sz → c[a.off + i]? = cs[i]? := by
    intro i hi
    rw [← h2 i hi]
    unfold World.cell? Addr.add
    by_cases h0 : i = 0
    · subst h0; simp [hb,hs]
    · simp [h0,hb]
  have hlast := h3 (sz - 1) (by omega)
  rw [List.getElem?_eq_getElem (by omega : sz - 1 < cs.length)] at hlast
  have hlt := (Array.getElem?_eq_some_iff.1 hlast).1
  refine ⟨?_,by omega⟩
  apply List.ext_getElem?
  intro i
  by_cases hi : i < sz
  · rw [List.getElem?_take_of_lt hi,List.getElem?_drop,← h3 i hi]; simp
  · rw [List.getElem?_eq_none (by omega),List.getElem?_eq_none (by simp; omega)]
theorem elem_block {a : Addr} {sz : Nat} {cs : List Value} (h : w.cells? 0 a sz = some cs) (hz : 0 < sz) : a.spot = none ∧ ∃ c el fr,w.heap[a.block]? = some (.cells c el fr) ∧ a.off < c.size := by
  obtain ⟨_,h1,h2⟩ := World.cells?_some h
  have h3 := h2 0 hz
  rw [List.getElem?_eq_getElem (by omega : 0 < cs.length)] at h3
  have h4 : w.cell? a = some cs[0] := by simpa [Addr.add] using h3
  refine ⟨World.cell?_spot h4,?_⟩
  unfold World.cell? at h4
  split at h4
  · rename_i c el fr hb
    split at h4
    · cases h4
    · exact ⟨c,el,fr,hb,(Array.getElem?_eq_some_iff.1 h4).1⟩
  · cases h4
theorem Gg : ∀ (fuel d : Nat) (t : TypeId),Opens enc P w fuel d t
  | 0,d,t => fun cs x h => by simp [DataW.trod] at h
  | fuel + 1,0,t => fun cs x h hok => by simp [okT] at hok
  | fuel + 1,d + 1,t => fun cs x h hok N b E hI => by
    unfold okT at hok
    split at hok
    · rename_i ht
      unfold DataW.trod at h
      rw [ht] at h
      split at h <;> simp_all
      exact ⟨N,b,E,hI,Grow.refl _ _ _,_,.cons _ _ _ _ (.bool _) .nil,by unfold GV; rw [ht]; exact ⟨_,rfl⟩⟩
    · rename_i k ht
      obtain ⟨n,rfl,_,hw⟩ := DataW.trod_int ht h
      exact ⟨N,b,E,[.int k n],hI,Grow.refl _ _ _,.cons _ _ _ _ (.int _ _) .nil,by unfold GV; rw [ht]; exact ⟨_,rfl,hw⟩⟩
    · rename_i ht
      unfold DataW.trod at h
      rw [ht] at h
      split at h <;> simp_all
      exact ⟨N,b,E,hI,Grow.refl _ _ _,_,.cons _ _ _ _ (.str _) .nil,by unfold GV; rw [ht]; exact ⟨_,rfl,by omega⟩⟩
    · rename_i e ht
      cases hz : (P.cellsOf e).beq 0 with
      | true => rw [hz] at hok; simp at hok
      | false =>
        rw [hz] at hok
        simp only [cond_false] at hok
        have hz0 : 0 < P.cellsOf e := by have := Nat.ne_of_beq_eq_false hz; omega
        unfold DataW.trod at h
        rw [ht] at h
        split at h <;> try (simp_all; done)
        · exact ⟨N,b,E,[.slice none 0 0],hI,Grow.refl _ _ _,.cons _ _ _ _ .snil .nil,by unfold GV; rw [ht]; exact .inl rfl⟩
        · rename_i e' a len cap heq
          obtain rfl : e = e' := by simpa using heq
          simp only at h
          split at h
          · rename_i hc
            obtain ⟨_,hc2,hc3⟩ := hc
            simp only [Option.bind_eq_some_iff,Option.map_eq_some_iff] at h
            obtain ⟨elems,he,rest,hr,hx⟩ := h
            simp only [if_true] at hr
            have hE : ∀ i,i < len → ∃ c x,w.cells? 0 (a.add (i * P.cellsOf e)) (P.cellsOf e) = some c ∧ DataW.trod enc P w 0 (fun _ => true) true fuel e c = some x := by
              intro i hi
              have q := mapM_some_get he i i (by simp [hi])
              have ql := mapM_some_length he
              rw [List.getElem?_eq_getElem (by simp at ql; omega)] at q
              obtain ⟨c,q1,q2⟩ := Option.bind_eq_some_iff.1 q
              exact ⟨c,_,q1,q2⟩
            by_cases hcap : cap = 0
            · subst hcap
              have : len = 0 := by omega
              subst this
              refine ⟨N,b,E,[.slice (some ⟨0,0,none⟩) 0 0],hI,Grow.refl _ _ _,.cons _ _ _ _ ?_ .nil,?_⟩
              · exact .sl 0 0 0 0 _ a 0 hI.dead rfl (Nat.le_refl _) (fun _ => rfl) (fun q => by cases q) (fun q => absurd rfl q)
              · unfold GV; rw [ht]; exact .inr (.inl rfl)
            · have h0 : ∃ c,w.cells? 0 a (P.cellsOf e) = some c := by
                by_cases hl : len = 0
                · subst hl
                  have q := mapM_some_get hr 0 0 (by rw [List.getElem?_range (by omega)])
                  have ql := mapM_some_length hr
                  have ql2 : 0 < rest.length := by rw [ql]; simp; omega
                  rw [List.getElem?_eq_getElem ql2] at q
                  obtain ⟨c,q1,q2⟩ := Option.bind_eq_some_iff.1 q
                  exact ⟨c,by simpa [Addr.add] using q1⟩
                · obtain ⟨c,_,q1,_⟩ := hE 0 (by omega)
                  exact ⟨c,by simpa [Addr.add] using q1⟩
              obtain ⟨c0,hc0⟩ := h0
              obtain ⟨hsp,c,el,fr,hblk,hoff⟩ := elem_block hc0 hz0
              have hseg : ∀ i,i < len → (∃ x,DataW.trod enc P w 0 (fun _ => true) true fuel e ((c.toList.drop (a.off + i * P.cellsOf e)).take (P.cellsOf e)) = some x) ∧ a.off + i * P.cellsOf e + P.cellsOf e ≤ c.size := by
                intro i hi
                obtain ⟨ci,x,q1,q2⟩ := hE i hi
                have hsp' : (a.add (i * P.cellsOf e)).spot = none := by unfold Addr.add; split <;> simp [hsp]
                have hbk : (a.add (i * P.cellsOf e)).block = a.block := by unfold Addr.add; split <;> rfl
                have hof : (a.add (i * P.cellsOf e)).off = a.off + i * P.cellsOf e := by unfold Addr.add; split <;> simp [*]
                obtain ⟨r1,r2⟩ := cells_seg q1 hsp' (by rw [hbk]; exact hblk) hz0
                rw [hof] at r1 r2
                exact ⟨⟨x,by rw [← r1]; exact q2⟩,r2⟩
              have hlim : a.off + len * P.cellsOf e ≤ c.size := by
                by_cases hl : len = 0
                · subst hl; simp; omega
                · have := (hseg (len - 1) (by omega)).2
                  have e1 : (len - 1) * P.cellsOf e + P.cellsOf e = len * P.cellsOf e := by
                    rw [← Nat.succ_mul]; congr 1; omega
                  omega
              have hSl : ((c.toList.drop a.off).take (len * P.cellsOf e)).length = len * P.cellsOf e := by simp; omega
              obtain ⟨N1,b1,E1,c1,i1,g1,v1,G1⟩ := rows_open (sz := P.cellsOf e) (Gg fuel d e) hok len _ hSl (fun i hi => by
                obtain ⟨⟨x,q⟩,_⟩ := hseg i hi
                refine ⟨x,?_⟩
                rw [List.drop_take,List.take_take,List.drop_drop]
                have : min (P.cellsOf e) (len * P.cellsOf e - i * P.cellsOf e) = P.cellsOf e := by
                  rw [← Nat.sub_mul]
                  have : 1 * P.cellsOf e ≤ (len - i) * P.cellsOf e := Nat.mul_le_mul_right _ (by omega)
                  omega
                rw [this]; exact q) N b E hI
              obtain ⟨i2,g2⟩ := i1.add (l := c1) (en := ⟨a.block,a.off,len * P.cellsOf e,len * P.cellsOf e,0,true,false⟩) ⟨rfl,rfl,rfl⟩ ⟨G1.length,Nat.le_refl _⟩ ⟨c,el,fr,hblk,hlim,fun i v hv => by
                obtain ⟨v',q1,q2⟩ := v1.get hv
                have hi := (List.getElem?_eq_some_iff.1 q1).1
                rw [List.getElem?_take_of_lt (by rw [hSl] at hi; exact hi),List.getElem?_drop] at q1
                exact ⟨v',by simpa using q1,q2⟩⟩
              refine ⟨N1 + 1,_,_,[.slice (some ⟨N1,0,none⟩) len 1],i2,g1.trans g2,.cons _ _ _ _ ?_ .nil,?_⟩
              · refine .sl N1 0 len 1 _ a cap (Emb.more_same _ _ _) rfl hc2 (fun q => by cases q) (fun q => by cases q) (fun _ => ?_)
                cases a; simp_all
              · unfold GV; rw [ht]
                exact .inr (.inr ⟨N1,c1,len,rfl,by simp [Qw.more],by omega,G1.mono fun c q => q.mono g2.blk⟩)
          · cases h
    · rename_i fs ht
      by_cases hcs : Gn P fs.toList 0 = some (P.cellsOf t)
      · rw [decide_eq_true hcs] at hok
        simp only [cond_true,List.all_eq_true] at hok
        unfold DataW.trod at h
        rw [ht] at h
        split at h <;> try (simp_all; done)
        rename_i cs0 x0 cs1 fs' heq
        obtain rfl : fs = fs' := by simpa using heq
        split at h
        · rename_i hlen
          obtain ⟨xs,hxs,_⟩ := Option.map_eq_some_iff.1 h
          obtain ⟨N1,b1,E1,c1,i1,g1,_,v1,G1⟩ := fields_open (cs := cs0) (Gg fuel d) fs.toList 0 (P.cellsOf t) hcs hlen.symm hok (fun f hf => by
            obtain ⟨i,hi,rfl⟩ := List.getElem_of_mem hf
            have q := mapM_some_get hxs i _ (List.getElem?_eq_getElem hi)
            have ql := mapM_some_length hxs
            rw [List.getElem?_eq_getElem (by omega)] at q
            exact ⟨_,q⟩) N b E hI
          simp only [List.drop_zero] at v1
          exact ⟨N1,b1,E1,c1,i1,g1,v1,by unfold GV; rw [ht]; exact G1⟩
        · cases h
      · rw [decide_eq_false hcs] at hok; simp at hok
    · cases hok
/-! ### All arguments -/
def GA (P : Program) (b : Qw) (d : Nat) (t : TypeId) (v : Value) : Prop := match P.underlying t with
  | some (.struct _) => ∃ cs,v = .agg ⟨cs⟩ ∧ GV P b d t cs
  | _ => GV P b d t [v]
theorem one_open {r : Reach} {b0 d : Nat} {t : TypeId} {v : Value} {x : DataW H} {ps : List MemPlace} (hval : Value.okWide P w r b0 t v) (hd : DataW.Trod enc P w 0 (fun _ => true) true t v x ps) (hok : okT P d t = true) {N : Nat} {b : Qw} {E : Emb} (hI : In w N b E) :
    ∃ N' b' E' v',In w N' b' E' ∧ Grow N b E N' b' E' ∧ VR E' v' v ∧ GA P b' d t v' := by
  obtain ⟨fuel,hf⟩ := hd
  obtain ⟨N1,b1,E1,c1,i1,g1,v1,G1⟩ := Gg fuel d t _ _ hf hok N b E hI
  have single : v.cells = #[v] → (∀ fs,P.underlying t ≠ some (.struct fs)) → ∃ N' b' E' v',In w N' b' E' ∧ Grow N b E N' b' E' ∧ VR E' v' v ∧ GA P b' d t v' := by
    intro hc hns
    rw [hc] at v1
    cases v1 with
    | cons u _ l _ hu hl =>
      cases hl
      refine ⟨N1,b1,E1,u,i1,g1,hu,?_⟩
      unfold GA
      split
      · rename_i fs hfs; exact absurd hfs (hns fs)
      · exact G1
  cases d with
  | zero => simp [okT] at hok
  | succ d =>
    unfold okT at hok
    split at hok
    · rename_i ht; obtain ⟨y,rfl⟩ := Go.WideShapes.okWide_bool ht hval; exact single rfl (by rw [ht]; simp)
    · rename_i k ht; obtain ⟨y,rfl⟩ := Go.WideShapes.okWide_int ht hval; exact single rfl (by rw [ht]; simp)
    · rename_i ht; obtain ⟨y,rfl⟩ := Go.WideShapes.okWide_string ht hval; exact single rfl (by rw [ht]; simp)
    · rename_i e ht; obtain ⟨y,n,c,rfl⟩ := Go.WideShapes.okWide_slice ht hval; exact single rfl (by rw [ht]; simp)
    · rename_i fs ht
      obtain ⟨⟨cs⟩,rfl,_⟩ := Go.WideShapes.okWide_struct ht hval
      refine ⟨N1,b1,E1,.agg ⟨c1⟩,i1,g1,.agg _ _ v1,?_⟩
      unfold GA
      rw [ht]
      exact ⟨c1,rfl,G1⟩
    · cases hok
def Gk (b : Qw) (N : Nat) : Heap := ⟨b,N,.nil,0⟩
theorem Uy {b : Qw} {N id : Nat} {o : AObj} (h : (Gk b N).get id = some o) : id < N ∧ ∃ l,b id = some l ∧ o = .cells l 0 true := by
  unfold Heap.get Gk at h
  simp only [Zq] at h
  by_cases hi : id < N
  · simp [hi] at h
    obtain ⟨l,h1,h2⟩ := h
    exact ⟨hi,l,h1,h2.symm⟩
  · simp [hi] at h
theorem In.wr {N : Nat} {b : Qw} {E : Emb} (h : In w N b E) : WR E (Gk b N) w := by
  refine ⟨fun id en o he hg => ?_,fun id id' en en' o o' _ _ _ hg _ hr => ?_,fun id en he => ?_⟩
  · obtain ⟨_,l,hl,rfl⟩ := Uy hg
    obtain ⟨a0,a1⟩ := h.obj id en l he hl
    obtain ⟨r1,r2,r3⟩ := h.ent id en he
    obtain ⟨c,el,fr,q1,q2,q3⟩ := a1
    exact ⟨r2,r3,r1,a0,c,el,fr,q1,q2,q3,fun q => by cases q⟩
  · obtain ⟨_,l,hl,rfl⟩ := Uy hg
    simp [AObj.rw] at hr
  · have := h.dom id en he
    simpa [Heap.next,Gk] using this
theorem In.start : In w 1 (fun _ => none) (Emb.more (fun _ => none) 0 ⟨0,0,0,0,0,true,false⟩) := by
  refine ⟨by omega,Emb.more_same _ _ _,rfl,fun id en h => ?_,fun id l h => (by cases h),fun id en h => ?_,fun id en l _ h => (by cases h)⟩
  · by_cases hi : id = 0
    · omega
    · rw [Emb.more_ne _ _ hi] at h; cases h
  · by_cases hi : id = 0
    · subst hi; rw [Emb.more_same] at h; cases h; exact ⟨rfl,rfl,rfl⟩
    · rw [Emb.more_ne _ _ hi] at h; cases h
end
end Go.Dx
