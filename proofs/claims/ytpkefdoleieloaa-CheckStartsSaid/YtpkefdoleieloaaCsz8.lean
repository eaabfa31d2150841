/- A deterministic reading of the model's code: what is made; maps; the rest. -/
import Derived.Test.YtpkefdoleieloaaCsz7
import Derived.Laws.BytesString
import Derived.Laws.BytesArg
namespace Go.Dx
set_option linter.unusedVariables false
set_option linter.unusedSimpArgs false
theorem bytes_beq (a b : ByteArray) : (a == b) = decide (a = b) := by
  cases a with | mk x => cases b with | mk y =>
  show ByteArray.beq _ _ = _
  unfold ByteArray.beq
  rw [Bool.eq_iff_iff]
  simp
/-! ### Parts -/
theorem foldl_putL : ∀ (vs : List Value) (cells : List Value) (off k : Nat),(vs.zipIdx k).foldl (fun (cs : Array Value) (p : Value × Nat) => cs.setIfInBounds (off + p.2) p.1) ⟨cells⟩ = ⟨putL cells (off + k) vs⟩
  | [],cells,off,k => rfl
  | v :: vs,cells,off,k => by
    simp only [List.zipIdx_cons,List.foldl_cons,putL]
    have : (({ toList := cells } : Array Value).setIfInBounds (off + k) v) = ⟨cells.set (off + k) v⟩ := by simp
    rw [this,foldl_putL vs _ off (k + 1)]
    rfl
theorem fill_ok {E : Emb} {e : Env} {h : Heap} {a : Act} {w : World} {nt : Nat} (R : Rel E e h a w nt) (place : Nat → Option (Nat × Nat)) : ∀ (l : List (Nat × Operand)) (cl : List (Nat × Nat × Arg)) (ps : List (Nat × Nat × Value)) (za zc r : List Value),
    Zp place l = some cl → Yk e cl = some ps → VRL E za zc → Jk za ps = some r → ∃ r',Instr.fill place ⟨zc⟩ (l.map fun p => (p.1,a.eval p.2)) = some ⟨r'⟩ ∧ VRL E r r'
  | [],cl,ps,za,zc,r,hc,hp,hz,hf => by
    simp only [Zp,Option.some.injEq] at hc; subst hc
    simp only [Yk,Option.some.injEq] at hp; subst hp
    simp only [Jk,Option.some.injEq] at hf; subst hf
    exact ⟨zc,rfl,hz⟩
  | (i,x) :: l,cl,ps,za,zc,r,hc,hp,hz,hf => by
    simp only [Zp] at hc
    cases h1 : place i with
    | none => rw [h1] at hc; simp at hc
    | some os =>
      obtain ⟨o,s⟩ := os
      cases h2 : Wv x with
      | none => rw [h1,h2] at hc; simp at hc
      | some X =>
        cases h3 : Zp place l with
        | none => rw [h1,h2,h3] at hc; simp at hc
        | some cl2 =>
          rw [h1,h2,h3] at hc; simp at hc; subst hc
          simp only [Yk] at hp
          cases h4 : X.ev e with
          | none => rw [h4] at hp; simp at hp
          | some v =>
            cases h5 : Yk e cl2 with
            | none => rw [h4,h5] at hp; simp at hp
            | some ps2 =>
              rw [h4,h5] at hp; simp at hp; subst hp
              simp only [Jk] at hf
              cases h6 : v.cells.size.beq s && (o + s).ble za.length with
              | false => rw [h6] at hf; simp at hf
              | true =>
                rw [h6] at hf
                simp only [cond_true] at hf
                simp only [Bool.and_eq_true,Ww,decide_eq_true_eq] at h6
                have h7 := Nat.le_of_ble_eq_true h6.2
                have hv := Wx R h2 h4
                have hcl := VRL.length hv.cells
                have hzl := VRL.length hz
                obtain ⟨r',hr',hrr⟩ := fill_ok R place l cl2 ps2 _ (putL zc o (a.eval x).cells.toList) r h3 h5 (VRL.putL o hz hv.cells) hf
                refine ⟨r',?_,hrr⟩
                simp only [List.map_cons,Instr.fill,h1]
                have c1 : ¬ ((a.eval x).cells.size ≠ s) := by
                  rw [← Array.length_toList,← hcl,Array.length_toList]; simp [h6.1]
                have c2 : ¬ (o + (a.eval x).cells.size > zc.length) := by
                  rw [← Array.length_toList,← hcl,Array.length_toList,← hzl]; omega
                simp only [List.size_toArray]
                rw [if_neg (by simpa using ⟨by simpa using c1,by simpa using c2⟩)]
                rw [← hr']
                congr 1
                have := foldl_putL (a.eval x).cells.toList zc o 0
                rw [Nat.add_zero] at this
                rw [← this,← Array.foldl_toList]
                congr 1
                simp
theorem Zz : ∀ (z : List Value) (n : Nat),(List.range (n * z.length)).map (fun i => z[i % z.length]!) = Xt z n
  | z,0 => by simp [Xt]
  | z,n + 1 => by
    rw [Nat.add_mul,Nat.one_mul,Nat.add_comm,List.range_add,List.map_append,List.map_map,Xt,← Zz z n]
    congr 1
    · apply List.ext_getElem (by simp)
      intro i h1 h2
      simp at h1
      simp [Nat.mod_eq_of_lt h1,h1]
    · apply List.map_congr_left
      intro i _
      simp
theorem Zd (z : List Value) : ∀ n,(Xt z n).length = n * z.length
  | 0 => by simp [Xt]
  | n + 1 => by rw [Xt,List.length_append,Zd z n,Nat.add_mul]; omega
theorem Qa {E : Emb} {z : List Value} (hz : z.all (Yx 0) = true) : ∀ n,VRL E (Xt z n) (Xt z n)
  | 0 => .nil
  | n + 1 => VRL.append (Zj 0 z hz) (Qa hz n)
theorem Kf {z : List Value} (hz : z.all isCell = true) : ∀ n,(Xt z n).all isCell = true
  | 0 => rfl
  | n + 1 => by rw [Xt,List.all_append,hz,Kf hz n]; rfl
theorem Vi (z : Array Value) (m : Nat) : (Array.range m).map (fun i => z[i % z.size]!) = ⟨(List.range m).map fun i => z.toList[i % z.toList.length]!⟩ := by
  apply Array.ext'
  simp only [Array.toList_map,Array.toList_range]
  apply List.map_congr_left
  intro i _
  simp [getElem!_def]
theorem Kg (z : Array Value) (n : Nat) : Builtin.zeroCells z n = ⟨Xt z.toList n⟩ := by
  unfold Builtin.zeroCells
  rw [Vi,← Zz]
  simp
theorem new_ok {E : Emb} {h : Heap} {w : World} (hw : WR E h w) {cs cs' : List Value} {el : TypeId} {size : Nat} (hc : VRL E cs cs') :
    let en : Ent := ⟨w.heap.size,0,cs.length,cs.length,size,false,false⟩
    WR (E.more h.next en) (h.add (.cells cs size false)) { w with heap := w.heap.push (.cells ⟨cs'⟩ el) } ∧ Stp E h w (E.more h.next en) (h.add (.cells cs size false)) { w with heap := w.heap.push (.cells ⟨cs'⟩ el) } := by
  have hl := VRL.length hc
  have g : Grew w { w with heap := w.heap.push (.cells ⟨cs'⟩ el) } (.cells ⟨cs'⟩ el) := ⟨rfl,rfl,rfl,rfl⟩
  refine hw.add (en := ⟨w.heap.size,0,cs.length,cs.length,size,false,false⟩) g rfl ⟨rfl,rfl,rfl,⟨rfl,Nat.le_refl _⟩,_,_,_,g.new,by simp; omega,?_,?_⟩
  · intro i u hu
    obtain ⟨u',hu',hr⟩ := VRL.get hc hu
    exact ⟨u',by simpa using hu',hr.mono (Emb.more_ext hw _)⟩
  · intro _; exact .inl rfl
theorem new_slice {E : Emb} {h : Heap} {w : World} {n size : Nat} {k : Nat} (cc : Nat) (hcc : (cc = 0 → n = 0) ∧ (2 ≤ cc → n * size + 2 = cc)) (hk : k = n * size) (m : Nat) (hm : m ≤ n) :
    let en : Ent := ⟨w.heap.size,0,k,k,size,false,false⟩
    VR (E.more h.next en) (.slice (some ⟨h.next,0,none⟩) m cc) (.slice (some ⟨w.heap.size,0,none⟩) m n) := by
  exact .sl h.next 0 m _ _ _ n (Emb.more_same _ _ _) rfl hm hcc.1 (fun _ _ => ⟨by simp; omega,fun _ => by simp; omega,fun q => by have := hcc.2 q; simp; omega⟩) (fun _ => by simp)
theorem capOne (n size : Nat) : ((bif n.beq 0 then 0 else 1) = 0 → n = 0) ∧ (2 ≤ (bif n.beq 0 then 0 else 1) → n * size + 2 = (bif n.beq 0 then 0 else 1)) := by
  rw [Ww]
  by_cases hn : n = 0 <;> simp [hn]
theorem capEnd (n size : Nat) : ((bif n.beq 0 then 0 else n * size + 2) = 0 → n = 0) ∧ (2 ≤ (bif n.beq 0 then 0 else n * size + 2) → n * size + 2 = (bif n.beq 0 then 0 else n * size + 2)) := by
  rw [Ww]
  by_cases hn : n = 0 <;> simp [hn]
theorem new_ptr {E : Emb} {h : Heap} {w : World} {k size : Nat} :
    let en : Ent := ⟨w.heap.size,0,k,k,size,false,false⟩
    VR (E.more h.next en) (.pointer (some ⟨h.next,0,none⟩)) (.pointer (some ⟨w.heap.size,0,none⟩)) :=
  .ptr h.next 0 _ (Emb.more_same _ _ _) rfl
/-! ### Parts of values -/
theorem part_ok {P : Program} {E : Emb} {t : TypeId} {n : Nat} {g : Bool} {cs cs' : List Value} {off : Nat} {v : Value} {w : World} (hn : Zs P t = some n) (hg : aggT P t = some g) (hc : VRL E cs cs')
    (hv : Km cs off n g = some v) : ∃ v',(part t ⟨cs'⟩ off).run P w = .ok v' w ∧ VR E v v' := by
  unfold part
  cases g with
  | true =>
    simp only [Km] at hv
    cases hb : (off + n).ble cs.length with
    | false => rw [hb] at hv; simp at hv
    | true =>
      rw [hb] at hv
      simp only [cond_true,Option.some.injEq] at hv
      subst hv
      refine ⟨.agg ⟨(cs'.drop off).take n⟩,?_,.agg _ _ (VRL.take n (VRL.drop off hc))⟩
      simp [Ke hg,Xv hn]
  | false =>
    simp only [Km] at hv
    obtain ⟨v',h1,h2⟩ := VRL.get hc hv
    refine ⟨v',?_,h2⟩
    simp [Ke hg,h1]
/-! ### Maps -/
theorem Zy {P : Program} {w : World} {r : Nat} {es : Array MapEntry} {clock : Nat} (h : w.heap[r]? = some (.map es clock)) : (getObj r).run P w = .ok (.map es clock) w := by
  simp [getObj,Sem.run,h]
theorem Vm {P : Program} {w : World} {r : Nat} {es : Array MapEntry} {clock : Nat} (o : Obj) (h : w.heap[r]? = some (.map es clock)) : (setObj r o).run P w = .ok () (Ym w r o) := by
  simp [setObj,Sem.run,h,Ym]
theorem Jj {P : Program} {t : TypeId} {s : Bool} (h : keyT P t = some s) : (s = false ∧ ∃ k,P.underlying t = some (.int k)) ∨ (s = true ∧ P.underlying t = some .string) := by
  unfold keyT at h
  cases hu : P.underlying t with
  | none => rw [hu] at h; simp at h
  | some d =>
    rw [hu] at h
    cases d <;> simp at h <;> subst h <;> simp
theorem Zc {P : Program} {t : TypeId} {s : Bool} (h : keyT P t = some s) (b : Bool) (n : Nat) (v : Value) (w : World) : (Instr.checkKey b (n + 1) t v).run P w = .ok () w := by
  rcases Jj h with ⟨_,k,hu⟩ | ⟨_,hu⟩ <;> simp [Instr.checkKey,Wq hu]
theorem Gm {P : Program} {E : Emb} {t : TypeId} {s : Bool} {d : TypeDesc} (h : keyT P t = some s) (hd : P.underlying t = some d) {k k' : Value} {r : Bool} (he : Vr s k k' = some r) : Instr.sameNow d k k' = some r ∧ VR E k k ∧ (r = true → k = k') ∧ Js s k = true := by
  unfold Vr at he
  rcases Jj h with ⟨rfl,j,hu⟩ | ⟨rfl,hu⟩
  · rw [hd] at hu; cases hu
    split at he
    · split at he
      · rename_i hk
        subst hk
        simp only [Option.some.injEq] at he; subst he
        exact ⟨by simp [Instr.sameNow],.int _ _,fun q => by simpa using q,rfl⟩
      · cases he
    · simp_all
    · cases he
  · rw [hd] at hu; cases hu
    split at he
    · simp_all
    · simp only [Option.some.injEq] at he; subst he
      refine ⟨by simp [Instr.sameNow],.str _,fun q => by rw [bytes_beq,decide_eq_true_eq] at q; rw [q],rfl⟩
    · cases he
theorem find_ok {P : Program} {E : Emb} {t : TypeId} {s : Bool} {d : TypeDesc} (h : keyT P t = some s) (hd : P.underlying t = some d) {k : Value} : ∀ (es : List (Value × Value)) (es' : List MapEntry) (i : Nat) (r : Option Value),EsR E es es' → Ks s k es = some r →
    ∃ r',Instr.findNow d k es' i = some r' ∧ (match r,r' with | none,none => True | some v,some (_,v') => VR E v v' | _,_ => False)
  | [],[],i,r,_,hl => by simp [Ks] at hl; subst hl; exact ⟨none,rfl,trivial⟩
  | [],_ :: _,_,_,h,_ => h.elim
  | _ :: _,[],_,_,h,_ => by simp [EsR] at h
  | (k',v) :: es,e :: es',i,r,hr,hl => by
    obtain ⟨h1,h2,h3,h4⟩ := hr
    simp only [Ks] at hl
    cases he : Vr s k k' with
    | none => rw [he] at hl; simp at hl
    | some b =>
      obtain ⟨hn,_,_,_⟩ := Gm (E := E) h hd he
      rw [he] at hl
      simp only [Instr.findNow,h1,hn]
      cases b with
      | true => simp at hl; subst hl; exact ⟨some (i,e.val),rfl,h3⟩
      | false => simp at hl; exact find_ok h hd es es' (i + 1) r h4 hl
theorem sameBits_key {s : Bool} {k : Value} (h : Js s k = true) (n : Nat) : Instr.sameBits n k k = true := by
  cases k <;> simp [Js] at h <;> simp [Instr.sameBits,bytes_beq]
theorem EsR.length {E : Emb} : ∀ {a : List (Value × Value)} {a' : List MapEntry},EsR E a a' → a.length = a'.length
  | [],[],_ => rfl
  | [],_ :: _,h => h.elim
  | (_,_) :: _,[],h => by simp [EsR] at h
  | (_,_) :: _,_ :: _,h => by simp [EsR.length h.2.2.2]
theorem isKey_free {s : Bool} {k : Value} (h : Js s k = true) : Yx 1 k = true := by cases k <;> simp [Js] at h <;> rfl
theorem put_ok {P : Program} {E : Emb} {t : TypeId} {s : Bool} {d : TypeDesc} (h : keyT P t = some s) (hd : P.underlying t = some d) {k v v' : Value} (hk : Js s k = true) (hv : VR E v v') (born : Nat) : ∀ (es : List (Value × Value)) (es' : List MapEntry) (i : Nat) (r : List (Value × Value)),EsR E es es' → putE s k v es = some r →
    ∃ r',Instr.findNow d k es' i = some r' ∧ (match r' with
      | none => EsR E r (es' ++ [{ key := k,val := v',born }])
      | some (j,_) => i ≤ j ∧ (∃ e,es'[j - i]? = some e ∧ e.key = k) ∧ EsR E r (es'.modify (j - i) fun e => { e with key := k,val := v' }))
  | [],[],i,r,_,hl => by
    simp [putE] at hl; subst hl
    exact ⟨none,rfl,rfl,isKey_free hk,hv,trivial⟩
  | [],_ :: _,_,_,h,_ => h.elim
  | _ :: _,[],_,_,h,_ => by simp [EsR] at h
  | (k',u) :: es,e :: es',i,r,hr,hl => by
    obtain ⟨h1,h2,h3,h4⟩ := hr
    simp only [putE] at hl
    cases he : Vr s k k' with
    | none => rw [he] at hl; simp at hl
    | some b =>
      obtain ⟨hn,_,hsame,_⟩ := Gm (E := E) h hd he
      rw [he] at hl
      simp only [Instr.findNow,h1,hn]
      cases b with
      | true =>
        simp at hl; subst hl
        refine ⟨some (i,e.val),rfl,Nat.le_refl _,⟨e,by simp,by rw [h1,hsame rfl]⟩,?_⟩
        simp only [Nat.sub_self,List.modify_zero_cons]
        exact ⟨rfl,isKey_free hk,hv,h4⟩
      | false =>
        simp only [Option.map_eq_some_iff] at hl
        obtain ⟨r2,hl2,rfl⟩ := hl
        obtain ⟨r',hf,hm⟩ := put_ok h hd hk hv born es es' (i + 1) r2 h4 hl2
        refine ⟨r',hf,?_⟩
        cases r' with
        | none => exact ⟨h1,h2,h3,hm⟩
        | some jv =>
          obtain ⟨j,u2⟩ := jv
          obtain ⟨hij,⟨e2,he2,hek⟩,hm2⟩ := hm
          refine ⟨by omega,⟨e2,by rw [show j - i = (j - (i + 1)) + 1 by omega]; simpa using he2,hek⟩,?_⟩
          rw [show j - i = (j - (i + 1)) + 1 by omega,List.modify_succ_cons]
          exact ⟨h1,h2,h3,hm2⟩
theorem del_ok {P : Program} {E : Emb} {t : TypeId} {s : Bool} {d : TypeDesc} (h : keyT P t = some s) (hd : P.underlying t = some d) {k : Value} : ∀ (es : List (Value × Value)) (es' : List MapEntry) (i : Nat) (r : List (Value × Value)),EsR E es es' → delE s k es = some r →
    ∃ r',Instr.findNow d k es' i = some r' ∧ (match r' with
      | none => EsR E r es'
      | some (j,_) => i ≤ j ∧ EsR E r (es'.eraseIdx (j - i)))
  | [],[],i,r,_,hl => by simp [delE] at hl; subst hl; exact ⟨none,rfl,trivial⟩
  | [],_ :: _,_,_,h,_ => h.elim
  | _ :: _,[],_,_,h,_ => by simp [EsR] at h
  | (k',u) :: es,e :: es',i,r,hr,hl => by
    obtain ⟨h1,h2,h3,h4⟩ := hr
    simp only [delE] at hl
    cases he : Vr s k k' with
    | none => rw [he] at hl; simp at hl
    | some b =>
      obtain ⟨hn,_,hsame,_⟩ := Gm (E := E) h hd he
      rw [he] at hl
      simp only [Instr.findNow,h1,hn]
      cases b with
      | true =>
        simp at hl; subst hl
        exact ⟨some (i,e.val),rfl,Nat.le_refl _,by simpa using h4⟩
      | false =>
        simp only [Option.map_eq_some_iff] at hl
        obtain ⟨r2,hl2,rfl⟩ := hl
        obtain ⟨r',hf,hm⟩ := del_ok h hd es es' (i + 1) r2 h4 hl2
        refine ⟨r',hf,?_⟩
        cases r' with
        | none => exact ⟨h1,h2,h3,hm⟩
        | some jv =>
          obtain ⟨j,u2⟩ := jv
          obtain ⟨hij,hm2⟩ := hm
          refine ⟨by omega,?_⟩
          rw [show j - i = (j - (i + 1)) + 1 by omega,List.eraseIdx_cons_succ]
          exact ⟨h1,h2,h3,hm2⟩
end Go.Dx
