/- A deterministic reading of the model's code: an operation that is no call does what is read, the rest. -/
import Derived.Test.YtpkefdoleieloaaCsz9
namespace Go.Dx
set_option linter.unusedVariables false
set_option linter.unusedSimpArgs false
section
variable {P : Program} {E : Emb} {e : Env} {h h' : Heap} {a : Act} {w : World} {nt : Nat} {d : Option Tmp} {ty : TypeId} {p : String} {af : Array Edge} {g : Option (Nat × Bool)}
theorem ok_move (R : Rel E e h a w nt) {x : Operand} {X : Arg} {v : Value} (hx : Wv x = some X) (hr : (SO.mov X).run e h = some (v,h')) : Did E h w (.ok (.value (a.eval x)) w) v h' := by
  simp only [SO.run] at hr
  obtain ⟨u,hu,hq⟩ := Xr hr
  simp only [Prod.mk.injEq] at hq
  obtain ⟨rfl,rfl⟩ := hq
  exact Did.quiet R.wr rfl (Wx R hx hu)
theorem ok_pick (R : Rel E e h a w nt) {c x y : Operand} {so : SO} {v : Value} (hc : Wz P (.pick c x y) = some so) (hr : so.run e h = some (v,h')) : Did E h w ((execOp a.eval ⟨d,.pick c x y,ty,p,af,g⟩).run P w) v h' := by
  simp only [Wz] at hc
  split at hc
  · rename_i C X Y h1 h2 h3
    simp only [Option.some.injEq] at hc; subst hc
    simp only [SO.run] at hr
    split at hr
    · rename_i h4
      obtain ⟨u,hu,hq⟩ := Xr hr
      simp only [Prod.mk.injEq] at hq
      obtain ⟨rfl,rfl⟩ := hq
      have hb := Wx R h1 h4
      cases hap : a.eval c with
      | bool b =>
        rw [hap] at hb
        cases hb
        refine Did.quiet R.wr (v' := a.eval x) ?_ (Wx R h2 hu)
        simp [execOp,asBool,hap]
      | _ => rw [hap] at hb; cases hb
    · rename_i h4
      obtain ⟨u,hu,hq⟩ := Xr hr
      simp only [Prod.mk.injEq] at hq
      obtain ⟨rfl,rfl⟩ := hq
      have hb := Wx R h1 h4
      cases hap : a.eval c with
      | bool b =>
        rw [hap] at hb
        cases hb
        refine Did.quiet R.wr (v' := a.eval y) ?_ (Wx R h3 hu)
        simp [execOp,asBool,hap]
      | _ => rw [hap] at hb; cases hb
    · cases hr
  · cases hc
theorem ok_un (R : Rel E e h a w nt) {op : UnOp} {t : TypeId} {x : Operand} {X : Arg} {v : Value} (hx : Wv x = some X) (hr : (SO.un op X).run e h = some (v,h')) : Did E h w ((execOp a.eval ⟨d,.unOp op t x,ty,p,af,g⟩).run P w) v h' := by
  simp only [SO.run] at hr
  split at hr
  · rename_i u hu
    obtain ⟨v1,hv1,hq⟩ := Xr hr
    simp only [Prod.mk.injEq] at hq
    obtain ⟨rfl,rfl⟩ := hq
    obtain ⟨h1,h2⟩ := unV_ok (P := P) (w := w) hv1 (Wx R hx hu)
    simp only [execOp,Xw]
    exact Xq h1 h2 R.wr (Stp.refl _ _ _)
  · cases hr
theorem Vs : ∀ (l : List Value) (bs : List UInt8),Yh l = some bs → ∃ ns : List Int,l = ns.map (Value.int .u8) ∧ bs = ns.map fun n => UInt8.ofNat n.toNat
  | [],bs,h => by simp only [Yh,Option.some.injEq] at h; subst h; exact ⟨[],rfl,rfl⟩
  | v :: l,bs,h => by
    unfold Yh at h
    split at h
    · rename_i heq; cases heq
    · rename_i n r heq
      cases heq
      obtain ⟨b2,h2,rfl⟩ := Xr h
      obtain ⟨ns,h3,h4⟩ := Vs l b2 h2
      exact ⟨n :: ns,by simp [h3],by simp [h4]⟩
    · cases h
theorem VRL_ints {E : Emb} : ∀ (ns : List Int) (l' : List Value),VRL E (ns.map (Value.int .u8)) l' → l' = ns.map (Value.int .u8)
  | [],l',h => by cases h; rfl
  | n :: ns,l',h => by
    cases h with
    | cons _ v' _ l2 h1 h2 =>
      cases h1
      rw [VRL_ints ns l2 h2]; rfl
theorem Kv {t : TypeId} (h : Vz P .u8 t = true) : P.underlying t = some (.int .u8) := by
  unfold Vz at h
  split at h
  · rename_i k hu; simp at h; rw [hu,← h]
  · cases h
theorem Kw {E : Emb} {h : Heap} {w : World} {r n : Nat} {c : Array Value} {el : TypeId} (hb : w.heap[r]? = some (.cells c el (0,0))) (hn : n = c.size) :
    (w.freeze ⟨r,n,none⟩ 1).heap[r]? = some (.cells c el (n,n + 1)) ∧ ∀ i,i ≠ r → (w.freeze ⟨r,n,none⟩ 1).heap[i]? = w.heap[i]? := by
  unfold World.freeze
  simp only [Nat.succ_ne_zero,if_false]
  constructor
  · simp [Array.getElem?_modify,hb]
  · intro i hi
    simp [Array.getElem?_modify]
    intro q; exact absurd q.symm hi
theorem Ju {s t : TypeId} {x : Arg} {so : SO} (hc : compMark P s t x = some so) : ∃ el,s = t ∧ P.underlying t = some (.slice el) ∧ Vz P .u8 el = true ∧ so = .mark x := by
  unfold compMark at hc
  cases hb : s.beq t with
  | false => rw [hb] at hc; simp at hc
  | true =>
    rw [hb] at hc
    simp only [cond_true] at hc
    split at hc
    · rename_i el hu
      cases hi : Vz P .u8 el with
      | false => rw [hi] at hc; simp at hc
      | true => rw [hi] at hc; simp only [cond_true,Option.some.injEq] at hc; exact ⟨el,by rw [Ww] at hb; simpa using hb,hu,hi,hc.symm⟩
    · cases hc
theorem ok_conv (R : Rel E e h a w nt) {s t : TypeId} {x : Operand} {so : SO} {v : Value} (hc : Wz P (.convert s t x) = some so) (hr : so.run e h = some (v,h')) : Did E h w ((execOp a.eval ⟨d,.convert s t x,ty,p,af,g⟩).run P w) v h' := by
  simp only [Wz] at hc
  split at hc
  · rename_i X k1 k2 h1 hs ht
    simp only [Option.some.injEq] at hc; subst hc
    simp only [SO.run] at hr
    split at hr
    · rename_i k n hv
      simp only [Option.some.injEq,Prod.mk.injEq] at hr
      obtain ⟨rfl,rfl⟩ := hr
      have hp := Wx R h1 hv
      simp only [execOp,Xw]
      refine Xq (v' := .int k2 (k2.wrap n)) ?_ (.int _ _) R.wr (Stp.refl _ _ _)
      cases hap : a.eval x with
      | int k' n' =>
        rw [hap] at hp
        cases hp
        simp [convert,Wq hs,Wq ht,Conv.intToInt]
      | _ => rw [hap] at hp; cases hp
    · cases hr
  · rename_i X el h1 hs ht
    cases hi : Vz P .u8 el with
    | false => rw [hi] at hc; simp at hc
    | true =>
      rw [hi] at hc
      simp only [cond_true,Option.some.injEq] at hc; subst hc
      have hel := Kv hi
      simp only [SO.run] at hr
      split at hr
      · rename_i str hv
        simp only [Option.some.injEq,Prod.mk.injEq] at hr
        obtain ⟨rfl,rfl⟩ := hr
        have hp := Wx R h1 hv
        cases hap : a.eval x with
        | string s2 =>
          rw [hap] at hp
          cases hp
          simp only [execOp,Xw]
          -- the row that is made
          obtain ⟨cap,hcap⟩ : ∃ cap,cap = (Question.appendCap str.size 0 el).cut (w.tape w.drawn (Question.appendCap str.size 0 el)) := ⟨_,rfl⟩
          have hcs : str.size ≤ cap := by rw [hcap]; simp only [Question.cut]; omega
          obtain ⟨cells,hcells⟩ : ∃ cells : List Value,cells = Xu str.data.toList ++ List.replicate (cap - str.size) (.int .u8 0) := ⟨_,rfl⟩
          have hlen : (Xu str.data.toList).length = str.size := by rw [Qp]; rfl
          have hsz : cells.length = cap := by rw [hcells,List.length_append,hlen,List.length_replicate]; omega
          have hw1 : ({ w with drawn := w.drawn + 1,heap := w.heap.push (.cells ⟨cells⟩ el) } : World).heap[w.heap.size]? = some (.cells ⟨cells⟩ el (0,0)) := by simp
          obtain ⟨f1,f2⟩ := Kw (E := E) (h := h) hw1 (n := cells.length) rfl
          have hg : Grew w (World.freeze { w with drawn := w.drawn + 1,heap := w.heap.push (.cells ⟨cells⟩ el) } ⟨w.heap.size,cells.length,none⟩ 1) (.cells ⟨cells⟩ el (cells.length,cells.length + 1)) := by
            refine ⟨?_,rfl,rfl,rfl⟩
            apply Array.ext'
            apply List.ext_getElem?
            intro i
            rw [Array.getElem?_toList,Array.getElem?_toList]
            by_cases hi : i = w.heap.size
            · subst hi
              rw [f1]; simp
            · rw [f2 i hi]
              simp only [Array.getElem?_push,if_neg hi]
          obtain ⟨hw2,hst⟩ := R.wr.add (o := .cells (Xu str.data.toList) 1 false) (en := ⟨w.heap.size,0,str.size,cap,1,false,false⟩) hg rfl (by
            refine ⟨rfl,rfl,rfl,⟨hlen,hcs⟩,_,_,_,hg.new,by simp; omega,?_,?_⟩
            · intro i u hu
              obtain ⟨u',hu',hru⟩ := VRL.get (Qt (E := E.more h.next ⟨w.heap.size,0,str.size,cap,1,false,false⟩) str.data.toList) hu
              have hi := (List.getElem?_eq_some_iff.1 hu).1
              refine ⟨u',?_,hru⟩
              simp only [List.getElem?_toArray,Nat.zero_add,hcells]
              rw [List.getElem?_append_left hi]; exact hu'
            · intro _; right; simp; omega)
          refine Xq (v' := .slice (some ⟨w.heap.size,0,none⟩) str.size cap) ?_ ?_ hw2 hst
          · have hfor : (Question.appendCap str.size 0 el).forced = false := rfl
            rw [hap]
            simp only [convert,Sem.run_bind,Wq hs,Wq ht,Result.andThen_ok,Wq hel]
            unfold Conv.stringToBytes
            simp only [Sem.run_bind,run_choose,hfor,Bool.false_eq_true,if_false,Result.andThen_ok,newRow,run_newObj,Sem.run_pure,markStringish,run_shape,← hcap]
            have hcl : (Array.map (fun (b : UInt8) => Value.int .u8 (b.toNat : Int)) str.data ++ Array.replicate (cap - str.size) (.int .u8 0)) = ⟨cells⟩ := by
              apply Array.ext'
              rw [hcells,Jb]; simp
            rw [hcl]
            have hshape : World.shape? { w with drawn := w.drawn + 1,heap := w.heap.push (.cells ⟨cells⟩ el) } w.heap.size = some (el,cells.length) := by
              simp [World.shape?]
            simp only [hshape,run_freeze,Result.andThen_ok]
          · refine .sl h.next 0 str.size 1 _ _ cap (Emb.more_same _ _ _) rfl hcs (fun q => by cases q) (fun _ _ => ⟨by simp,fun _ => by simpa using hcs,fun q => absurd q (by decide)⟩) (fun _ => by simp)
        | _ => rw [hap] at hp; cases hp
      · cases hr
  · rename_i X el h1 hs ht
    cases hi : Vz P .u8 el with
    | false => rw [hi] at hc; simp at hc
    | true =>
      rw [hi] at hc
      simp only [cond_true,Option.some.injEq] at hc; subst hc
      have hel := Kv hi
      have hred : ∀ ad l c,a.eval x = .slice ad l c → ((execOp a.eval ⟨d,.convert s t x,ty,p,af,g⟩).run P w) = ((Conv.bytesToString (.slice ad l c)).run P w).andThen fun a w1 => .ok (.value a) w1 := by
        intro ad l c hap
        simp only [execOp,Xw,hap]
        rw [run_convert_bytes_string w s t el ad l c hs hel ht]
      simp only [SO.run] at hr
      split at hr
      · rename_i l c hv
        simp only [Option.some.injEq,Prod.mk.injEq] at hr
        obtain ⟨rfl,rfl⟩ := hr
        have hp := Wx R h1 hv
        cases hap : a.eval x with
        | slice ad l2 c2 =>
          rw [hap] at hp
          cases hp
          rw [hred _ _ _ hap]
          exact Xq (v' := .string .empty) rfl (.str _) R.wr (Stp.refl _ _ _)
        | _ => rw [hap] at hp; cases hp
      · rename_i id off len c hv
        have hp := Wx R h1 hv
        cases hap : a.eval x with
        | slice ad l2 c2 =>
          rw [hap] at hp
          rw [hred _ _ _ hap]
          cases hp with
          | sl _ _ _ _ en a' cap' he hm hle hcap hbd ha =>
            by_cases hl0 : len = 0
            · subst hl0
              simp only [Nat.beq,cond_true,Option.some.injEq,Prod.mk.injEq] at hr
              obtain ⟨rfl,rfl⟩ := hr
              refine Xq (v' := .string .empty) ?_ (.str _) R.wr (Stp.refl _ _ _)
              rw [run_bytesToString w a' 0 c2 [] (by simp [loadCells,loadCellsFrom])]
              rfl
            · have hlb : len.beq 0 = false := by rw [Ww]; simp [hl0]
              rw [hlb] at hr
              simp only [cond_false] at hr
              cases hrd : rd h id off len with
              | none => rw [hrd] at hr; simp at hr
              | some l =>
                rw [hrd] at hr
                simp only at hr
                obtain ⟨bs,hbs,hq⟩ := Xr hr
                simp only [Prod.mk.injEq] at hq
                obtain ⟨rfl,rfl⟩ := hq
                obtain ⟨ns,hns,hbs2⟩ := Vs l bs hbs
                obtain ⟨l',hl1,hl2⟩ := rd_ok (P := P) R.wr he hrd
                rw [hns] at hl2
                have := VRL_ints ns l' hl2
                subst this
                refine Xq (v' := .string ⟨⟨bs⟩⟩) ?_ (.str _) R.wr (Stp.refl _ _ _)
                rw [ha (by omega)]
                rw [run_bytesToString w _ len c2 ns hl1,foldl_push_bytes,hbs2]
                congr 2
                simp [ByteArray.empty,ByteArray.emptyWithCapacity]
                rfl
        | _ => rw [hap] at hp; cases hp
      · cases hr
  · rename_i X h1 _ _ _
    obtain ⟨el,hst,ht,hi,hso⟩ := Ju hc
    subst hst
    have hs := ht
    · subst hso
      have hel := Kv hi
      simp only [SO.run] at hr
      split at hr
      · rename_i id off len cap hv
        cases hlb : len.beq 0 with
        | true => rw [hlb] at hr; simp at hr
        | false =>
          rw [hlb] at hr
          simp only [cond_false] at hr
          split at hr
          · rename_i vs esz hg
            simp only [Option.some.injEq,Prod.mk.injEq] at hr
            obtain ⟨rfl,rfl⟩ := hr
            have hl0 : len ≠ 0 := by rw [Ww] at hlb; simpa using hlb
            have hp := Wx R h1 hv
            cases hap : a.eval x with
            | slice ad l2 c2 =>
              rw [hap] at hp
              have hp2 := hp
              cases hp with
              | sl _ _ _ _ en a' cap' he hm hle hcap hbd ha =>
                have hce : c2 ≠ 0 := by omega
                have ha := ha hce
                subst ha
                have ho := R.wr.obj id en _ he hg
                obtain ⟨o1,o2,o3,o4,c,el2,fr,o5,o6,o7,o8⟩ := ho
                have hb := (Array.getElem?_eq_some_iff.1 o5).1
                obtain ⟨fr2,hfr2,hfz⟩ : ∃ fr2 : Nat × Nat,fr2 = (if fr.1 == fr.2 then (c.size,c.size + 1) else (min fr.1 c.size,max fr.2 (c.size + 1))) ∧ World.freeze w ⟨en.block,c.size,none⟩ 1 = Ym w en.block (.cells c el2 fr2) := by
                  refine ⟨_,rfl,?_⟩
                  unfold World.freeze Ym
                  simp only [Nat.succ_ne_zero,if_false]
                  congr 1
                  apply Array.ext'
                  apply List.ext_getElem?
                  intro i
                  rw [Array.getElem?_toList,Array.getElem?_toList]
                  by_cases hi : en.block = i
                  · subst hi
                    have e1 : (w.heap.setIfInBounds en.block (.cells c el2 (if fr.1 == fr.2 then (c.size,c.size + 1) else (min fr.1 c.size,max fr.2 (c.size + 1)))))[en.block]? = some (.cells c el2 (if fr.1 == fr.2 then (c.size,c.size + 1) else (min fr.1 c.size,max fr.2 (c.size + 1)))) := by
                      simp [Array.getElem?_setIfInBounds,hb]
                    rw [e1]
                    simp only [Array.getElem?_modify,if_true,o5,Option.map_some]
                  · simp [Array.getElem?_modify,Array.getElem?_setIfInBounds,hi]
                obtain ⟨w2,s2⟩ := R.wr.put (o' := .cells vs esz false) he hg rfl rfl (Qr w en.block (.cells c el2 fr2)) ⟨o1,o2,o3,o4,c,el2,fr2,Vc _ _ _ hb,o6,o7,by
                  intro q
                  right
                  rw [hfr2]
                  have h6 := o6
                  rcases o8 q with z | z
                  · simp [z]; exact h6
                  · by_cases hz : fr.1 = fr.2
                    · simp [hz]; exact h6
                    · have hzb : (fr.1 == fr.2) = false := by simp [hz]
                      rw [if_neg (by simp [hz])]
                      simp only
                      omega⟩
                have hsame : ∀ j,(h.put id (some (.cells vs esz false))).get j = h.get j := fun j => by
                  rw [Heap.get_put hg rfl]
                  by_cases hj : j = id
                  · rw [if_pos hj,hj,hg]
                  · rw [if_neg hj]
                have w3 : WR E h (Ym w en.block (.cells c el2 fr2)) := ⟨fun i n o q1 q2 => w2.obj i n o q1 (by rw [hsame]; exact q2),fun i i' n n' o o' q1 q2 q3 q4 q5 => w2.inj i i' n n' o o' q1 q2 q3 (by rw [hsame]; exact q4) (by rw [hsame]; exact q5),fun i n q => by have := w2.dom i n q; rw [Heap.next_put] at this; exact this⟩
                have s3 : Stp E h w E h (Ym w en.block (.cells c el2 fr2)) :=
                  ⟨s2.ext,fun i q1 q2 => ⟨q2,rfl⟩,Nat.le_refl _,fun i q1 q2 => q2,fun i o o' q1 q2 => (by rw [q1] at q2; cases q2; rfl),fun b q => .inl q,s2.size,s2.fr,s2.os,s2.tape,s2.output⟩
                simp only [execOp,Xw]
                refine Xq (v' := .slice (some ⟨en.block,en.base + off,none⟩) len c2) ?_ hp2 w3 s3
                simp only [hap,convert,Sem.run_bind,Wq hs,Wq ht,Result.andThen_ok,Wq hel,beq_self_eq_true,markStringish,run_shape]
                have hshape : World.shape? w en.block = some (el2,c.size) := by simp [World.shape?,o5]
                simp only [hshape,run_freeze,Result.andThen_ok,Sem.run_pure,hfz]
            | _ => rw [hap] at hp; cases hp
          · cases hr
      · cases hr
  · cases hc
theorem ok_mkF (R : Rel E e h a w nt) {fn : Go.Fn} {x y : Array Operand} {so : SO} {v : Value} (hc : Wz P (.makeFunc fn x y) = some so) (hr : so.run e h = some (v,h')) : Did E h w ((execOp a.eval ⟨d,.makeFunc fn x y,ty,p,af,g⟩).run P w) v h' := by
  simp only [Wz] at hc
  split at hc
  · rename_i X Y h1 h2
    simp only [Option.some.injEq] at hc; subst hc
    simp only [SO.run] at hr
    split at hr
    · rename_i A B h3 h4
      simp only [Option.some.injEq,Prod.mk.injEq] at hr
      obtain ⟨rfl,rfl⟩ := hr
      have e1 := args_ok R h1 h3
      have e2 := args_ok R h2 h4
      refine Did.quiet R.wr (v' := .func fn ⟨x.toList.map a.eval⟩ ⟨y.toList.map a.eval⟩) ?_ (.fn _ _ _ _ _ e1 e2)
      simp only [execOp,Xw,Instr.makeFunc,Sem.run_pure,Result.andThen_ok]
      congr 3
      · apply Array.ext'; simp
      · apply Array.ext'; simp
    · cases hr
  · cases hc
theorem ok_mkMap (R : Rel E e h a w nt) {t : TypeId} {v : Value} (hr : SO.mkMap.run e h = some (v,h')) : Did E h w ((execOp a.eval ⟨d,.makeMap t none,ty,p,af,g⟩).run P w) v h' := by
  simp only [SO.run,Option.some.injEq,Prod.mk.injEq] at hr
  obtain ⟨rfl,rfl⟩ := hr
  have hg : Grew w { w with heap := w.heap.push (.map #[] 0) } (.map #[] 0) := ⟨rfl,rfl,rfl,rfl⟩
  obtain ⟨hw,hs⟩ := R.wr.add (o := .map []) (en := ⟨w.heap.size,0,0,0,0,false,true⟩) hg rfl ⟨rfl,rfl,_,_,hg.new,trivial⟩
  simp only [execOp,Xw]
  refine Xq (v' := .map (some w.heap.size)) ?_ ?_ hw hs
  · simp [Instr.makeMap]
  · exact .mp h.next _ (Emb.more_same _ _ _) rfl
theorem ok_mkSl (R : Rel E e h a w nt) {t : TypeId} {x y : Operand} {so : SO} {v : Value} (hc : Wz P (.makeSlice t x y) = some so) (hr : so.run e h = some (v,h')) : Did E h w ((execOp a.eval ⟨d,.makeSlice t x y,ty,p,af,g⟩).run P w) v h' := by
  simp only [Wz] at hc
  split at hc
  · rename_i X Y el h1 h2 hu
    split at hc
    · rename_i s b z hs hb hz
      cases hbb : !(s.beq 0) && z.cells.toList.length.beq s with
      | false => rw [hbb] at hc; simp at hc
      | true =>
        rw [hbb] at hc
        simp only [cond_true,Option.some.injEq] at hc; subst hc
        simp only [Bool.and_eq_true,Bool.not_eq_true',Ww,decide_eq_true_eq,decide_eq_false_iff_not] at hbb
        obtain ⟨hs0,hzs⟩ := hbb
        obtain ⟨hzr,hf,_,_⟩ := Yf (P := P) hz w
        obtain ⟨ti,hti,htb⟩ := Uc hb w
        simp only [SO.run] at hr
        split at hr
        · rename_i kl l kc c h3 h4
          split at hr
          · rename_i hcond
            obtain ⟨c1,c2,c3,c4⟩ := hcond
            simp only [Option.some.injEq,Prod.mk.injEq] at hr
            obtain ⟨rfl,rfl⟩ := hr
            have e1 := Wx R h1 h3
            have e2 := Wx R h2 h4
            have hlen : (Xt z.cells.toList c.toNat).length = c.toNat * s := by rw [Zd,hzs]
            obtain ⟨hw,hst⟩ := new_ok R.wr (el := el) (size := s) (Qa (E := E) hf c.toNat)
            simp only [execOp,Xw]
            refine Xq (v' := .slice (some ⟨w.heap.size,0,none⟩) l.toNat c.toNat) ?_ (new_slice _ (capEnd _ _) hlen l.toNat (by omega)) hw hst
            have a1 : a.eval x = .int kl l := by cases hap : a.eval x <;> rw [hap] at e1 <;> cases e1; rfl
            have a2 : a.eval y = .int kc c := by cases hap : a.eval y <;> rw [hap] at e2 <;> cases e2; rfl
            have wl : IntKind.i64.wrap l = l := by
              simp only [IntKind.wrap,IntKind.bits,IntKind.signed]
              have : l % (2 ^ 64) = l := Int.emod_eq_of_lt c1 (by omega)
              simp [this]; omega
            have wc : IntKind.i64.wrap c = c := by
              simp only [IntKind.wrap,IntKind.bits,IntKind.signed]
              have : c % (2 ^ 64) = c := Int.emod_eq_of_lt (by omega) (by omega)
              simp [this]; omega
            unfold Instr.makeSlice
            simp only [Sem.run_bind,Wq hu,Result.andThen_ok,a1,a2,asInt,asIntOf,Sem.run_pure,hti,wl,wc,htb]
            have t1 : (decide (c < 0) || decide ((b : Int) * c > 2 ^ 48)) = false := by
              simp; refine ⟨by omega,?_⟩
              rw [Int.mul_comm]; omega
            have t2 : ((decide (c < 0) || decide ((b : Int) * c > 2 ^ 48)) || decide (l < 0) || decide (l > c)) = false := by
              rw [t1]; simp; omega
            simp only [t2,Bool.false_eq_true,if_false]
            simp only [Sem.run_bind,run_askRoom,Result.andThen_ok,Xv hs]
            by_cases h0 : c.toNat * s = 0
            · have hc0 : c.toNat = 0 := by
                rcases Nat.mul_eq_zero.1 h0 with q | q
                · exact q
                · exact absurd q hs0
              rw [hc0]
              simp [newRow,Xt]
              congr 2
              apply Array.ext'
              simp
            · simp only [h0,if_false,Sem.run_bind,hzr,Sem.run_pure,Result.andThen_ok,newRow,run_newObj]
              have : ((Array.range (c.toNat * s)).map (z.cells[· % z.cells.size]!)) = ⟨Xt z.cells.toList c.toNat⟩ := by
                rw [Vi,← Zz,hzs]
              rw [this]
          · cases hr
        · cases hr
    · cases hc
  · cases hc
end
end Go.Dx
