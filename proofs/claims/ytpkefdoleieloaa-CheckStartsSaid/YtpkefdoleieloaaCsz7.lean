/- A deterministic reading of the model's code: append, copy, clear. -/
import Derived.Test.YtpkefdoleieloaaCsz6
namespace Go.Dx
set_option linter.unusedVariables false
set_option linter.unusedSimpArgs false
theorem Qp : ∀ l : List UInt8,(Xu l).length = l.length
  | [] => rfl
  | _ :: r => by simp [Xu,Qp r]
theorem Jb : ∀ l : List UInt8,Xu l = l.map fun b => .int .u8 b.toNat
  | [] => rfl
  | _ :: r => by simp [Xu,Jb r]
theorem Qt {E : Emb} : ∀ l : List UInt8,VRL E (Xu l) (Xu l)
  | [] => .nil
  | _ :: r => .cons _ _ _ _ (.int _ _) (Qt r)
theorem take_bytes (s : ByteArray) (n : Nat) : (s.extract 0 n).data.toList = s.data.toList.take n := by
  simp
theorem Je {P : Program} {E : Emb} {h : Heap} {w : World} (hw : WR E h w) {size n : Nat} {x x' : Value} {l : List Value} (hx : VR E x x') (hl : Zk h size n x = some l) (hlen : ∀ m,Qv x = some m → n ≤ m) :
    ∃ l',(Builtin.firstCells size n x').run P w = .ok ⟨l'⟩ w ∧ VRL E l l' := by
  unfold Zk at hl
  cases hx with
  | snil => simp only [Option.some.injEq] at hl; subst hl; exact ⟨[],rfl,.nil⟩
  | str s =>
    simp only [Option.some.injEq] at hl; subst hl
    refine ⟨Xu (s.data.toList.take n),?_,Qt _⟩
    unfold Builtin.firstCells
    simp only [Sem.run_pure]
    congr 1
    rw [Jb,← take_bytes]
    apply Array.ext'
    simp
  | sl id off len cap en a' cap' he hm hle hcap hbd ha =>
    simp only [Ww] at hl
    by_cases hn : n = 0
    · subst hn
      simp only [decide_true,cond_true,Option.some.injEq] at hl; subst hl
      refine ⟨[],?_,.nil⟩
      unfold Builtin.firstCells
      simp [loadCells,loadCellsFrom]
    · simp only [hn,decide_false,cond_false] at hl
      have h1 : n ≤ len := hlen len rfl
      obtain ⟨l',h2,h3⟩ := rd_ok (P := P) hw he hl
      refine ⟨l',?_,h3⟩
      unfold Builtin.firstCells
      rw [ha (by omega)]
      exact h2
  | _ => simp at hl
theorem growBy_le : ∀ (r c n : Nat),256 ≤ c → c ≤ Builtin.growBy n r c ∧ Builtin.growBy n r c ≤ 2 ^ r * c
  | 0,c,n,h => by simp [Builtin.growBy]
  | r + 1,c,n,h => by
    unfold Builtin.growBy
    split
    · refine ⟨Nat.le_refl _,?_⟩
      have : 1 ≤ 2 ^ (r + 1) := Nat.one_le_two_pow
      calc c = 1 * c := by omega
        _ ≤ 2 ^ (r + 1) * c := Nat.mul_le_mul_right _ this
    · have h2 : c + (c + 768) / 4 ≤ 2 * c := by omega
      obtain ⟨h3,h4⟩ := growBy_le r (c + (c + 768) / 4) n (by omega)
      refine ⟨by omega,?_⟩
      calc Builtin.growBy n r (c + (c + 768) / 4) ≤ 2 ^ r * (c + (c + 768) / 4) := h4
        _ ≤ 2 ^ r * (2 * c) := Nat.mul_le_mul_left _ h2
        _ = 2 ^ (r + 1) * c := by rw [Nat.pow_succ,Nat.mul_assoc]
theorem next_le {need cap b : Nat} (h1 : need * b ≤ 1099511627776) (h2 : cap < need) : Builtin.nextslicecap need cap * b ≤ 2 ^ 48 := by
  have key : Builtin.nextslicecap need cap ≤ 16 * need := by
    unfold Builtin.nextslicecap
    split
    · omega
    · split
      · omega
      · have := (growBy_le 4 cap need (by omega)).2
        omega
  calc Builtin.nextslicecap need cap * b ≤ 16 * need * b := Nat.mul_le_mul_right _ key
    _ = 16 * (need * b) := by rw [Nat.mul_assoc]
    _ ≤ 2 ^ 48 := by omega
theorem zeroCells_size (z : Array Value) (n : Nat) : (Builtin.zeroCells z n).size = n * z.size := by simp [Builtin.zeroCells]
def Qj (P : Program) (elem : TypeId) (size : Nat) (zs : Bool) (base : Option Addr) (s x : Value) (sLen sCap n : Nat) (appended : Sem (Array Value)) : Sem Value :=
  let need := sLen + n
  if need ≤ sCap then do
    let new ← appended
    if let some a := base then storeCells (a.add (sLen * size)) new.toList
    pure (.slice base need sCap)
  else do
    if (need : Int) > IntKind.i64.max ∧ (zs ∨ (← typeInfo elem).bytes = 0) then runtimePanic (.error "growslice: len out of range")
    if Builtin.nextslicecap need sCap * (← typeInfo elem).bytes > 2 ^ 48 then (if zs then runtimePanic (.error "growslice: len out of range") else do
      if !(← Builtin.mayShare size sLen n base x) then mark .noRoom
      unsupported (.resourceLimit "append: a slice or a string whose bytes no memory bears"))
    let newCap ← choose (.appendCap need sCap elem)
    askRoom (newCap * (← typeInfo elem).bytes)
    let old ← Builtin.firstCells size sLen s
    let new ← appended
    let rest := Builtin.zeroCells (← zeroValue elem).cells (newCap - need)
    pure (.slice (some (← newRow elem (old ++ new ++ rest))) need newCap)
theorem Yf {P : Program} {t : TypeId} {z : Value} (h : Zh P t = some z) (w : World) : (zeroValue t).run P w = .ok z w ∧ z.cells.toList.all (Yx 0) = true ∧ z.cells.toList.all isCell = true ∧ Yx 1 z = true := by
  unfold Zh at h
  unfold zeroValue typeInfo
  cases hi : P.info? t with
  | none => rw [hi] at h; simp at h
  | some i =>
    rw [hi] at h
    simp only at h
    cases hz : i.zero with
    | none => rw [hz] at h; simp at h
    | some v =>
      rw [hz] at h
      simp only at h
      cases hb : v.cells.toList.all (Yx 0) && v.cells.toList.all isCell && Yx 1 v with
      | false => rw [hb] at h; simp at h
      | true =>
        rw [hb] at h
        simp only [cond_true,Option.some.injEq] at h
        subst h
        simp only [Bool.and_eq_true] at hb
        exact ⟨by simp [hi,hz],hb.1.1,hb.1.2,hb.2⟩
theorem Uc {P : Program} {t : TypeId} {b : Nat} (h : byOf P t = some b) (w : World) : ∃ i,(typeInfo t).run P w = .ok i w ∧ i.bytes = b := by
  unfold byOf at h
  unfold typeInfo
  cases hi : P.info? t with
  | none => rw [hi] at h; simp at h
  | some i => rw [hi] at h; simp at h; exact ⟨i,by simp [hi],h⟩
theorem grow_run {P : Program} {elem : TypeId} {size bytes : Nat} {z : Value} (hz : Zh P elem = some z) (hzs : z.cells.toList.length = size) (hb : byOf P elem = some bytes) {zs : Bool} {base : Option Addr} {s x : Value} {sLen sCap n : Nat}
    {appended : Sem (Array Value)} {w : World} {old new : List Value} (hneed : sCap < sLen + n) (h1 : (sLen + n) * bytes ≤ 1099511627776) (h2 : sLen + n ≤ 1099511627776)
    (ho : (Builtin.firstCells size sLen s).run P { w with drawn := w.drawn + 1 } = .ok ⟨old⟩ { w with drawn := w.drawn + 1 }) (hn : appended.run P { w with drawn := w.drawn + 1 } = .ok ⟨new⟩ { w with drawn := w.drawn + 1 }) :
    ∃ newCap rest w',(Qj P elem size zs base s x sLen sCap n appended).run P w = .ok (.slice (some ⟨w.heap.size,0,none⟩) (sLen + n) newCap) w' ∧ sLen + n ≤ newCap ∧ rest.length = (newCap - (sLen + n)) * size ∧
      Grew w w' (.cells ⟨old ++ new ++ rest⟩ elem) := by
  obtain ⟨ti,hti,hbt⟩ := Uc hb w
  obtain ⟨hzr,_⟩ := Yf hz w
  have hforce : (Question.appendCap (sLen + n) sCap elem).forced = false := rfl
  obtain ⟨nc,hnc⟩ : ∃ nc,nc = (Question.appendCap (sLen + n) sCap elem).cut (w.tape w.drawn (Question.appendCap (sLen + n) sCap elem)) := ⟨_,rfl⟩
  refine ⟨nc,(Builtin.zeroCells z.cells (nc - (sLen + n))).toList,{ w with drawn := w.drawn + 1,heap := w.heap.push (.cells ⟨old ++ new ++ (Builtin.zeroCells z.cells (nc - (sLen + n))).toList⟩ elem) },?_,?_,?_,?_⟩
  · unfold Qj
    have hmax : IntKind.i64.max = 9223372036854775807 := by decide
    have c1 : ¬ (((sLen + n : Nat) : Int) > IntKind.i64.max) := by rw [hmax]; omega
    have c2 : ¬ (Builtin.nextslicecap (sLen + n) sCap * bytes > 2 ^ 48) := by have := next_le (cap := sCap) h1 hneed; omega
    have c0 : ¬ (sLen + n ≤ sCap) := by omega
    have hti2 : ∀ w' : World,(typeInfo elem).run P w' = .ok ti w' := fun w' => by
      obtain ⟨ti',h',hb'⟩ := Uc hb w'
      have : ti' = ti := by
        unfold typeInfo at h' hti
        cases hi : P.info? elem with
        | none => simp [hi] at h'
        | some i => simp [hi] at h' hti; exact h'.symm.trans hti
      rw [this] at h'; exact h'
    have hz2 : ∀ w' : World,(zeroValue elem).run P w' = .ok z w' := fun w' => (Yf hz w').1
    simp only [c0,if_false,Sem.run_bind,hti2,Result.andThen_ok,c1,false_and,if_false,hbt,c2,Sem.run_pure,run_choose,hforce,Bool.false_eq_true,run_askRoom]
    rw [ho]
    simp only [Result.andThen_ok]
    rw [hn]
    simp only [Result.andThen_ok,hz2,newRow,Sem.run_bind,run_newObj,Sem.run_pure,← hnc]
    have harr : ((⟨old⟩ : Array Value) ++ ⟨new⟩ ++ Builtin.zeroCells z.cells (nc - (sLen + n))) = ⟨old ++ new ++ (Builtin.zeroCells z.cells (nc - (sLen + n))).toList⟩ := by apply Array.ext'; simp
    rw [harr]
  · rw [hnc]; simp only [Question.cut]; omega
  · rw [Array.length_toList,zeroCells_size]; rw [← hzs]; simp
  · exact ⟨rfl,rfl,rfl,rfl⟩
theorem append_eq {P : Program} {t u elem : TypeId} {d : TypeDesc} {size n : Nat} {ty : TypeId} {base : Option Addr} {sLen sCap : Nat} {x : Value} {w : World} (ht : P.underlying t = some (.slice elem)) (hu : P.underlying u = some d)
    (hd : ∀ k,d ≠ .int k) (hs : Zs P elem = some size) (hx : (Builtin.lenOf x).run P w = .ok n w) :
    (Builtin.append_ #[t,u] ty #[.slice base sLen sCap,x]).run P w = (Qj P elem size false base (.slice base sLen sCap) x sLen sCap n (Builtin.firstCells size n x)).run P w := by
  have hz : (match d with | .int _ => true | _ => false) = false := by cases d <;> first | rfl | exact absurd rfl (hd _)
  have e0 : (#[t,u] : Array TypeId)[0]? = some t := rfl
  have e1 : (#[t,u] : Array TypeId)[1]? = some u := rfl
  have e2 : (#[.slice base sLen sCap,x] : Array Value)[0]? = some (.slice base sLen sCap) := rfl
  have e3 : (#[.slice base sLen sCap,x] : Array Value)[1]? = some x := rfl
  unfold Builtin.append_
  simp only [e0,e1,e2,e3]
  simp only [Sem.run_bind,Wq ht,Result.andThen_ok,Xv hs,Wq hu,Sem.run_pure]
  simp only [Bool.false_eq_true,if_false,Sem.run_bind,hx,Result.andThen_ok,Bool.not_false,if_true]
  unfold Qj
  simp only [Bool.false_eq_true,if_false,false_or]
  rfl
theorem WR.of_heap {E : Emb} {h : Heap} {w w' : World} (hw : WR E h w) (he : w'.heap = w.heap) : WR E h w' :=
  ⟨fun id en o h1 h2 => (hw.obj id en o h1 h2).mono (fun _ _ x => x) (by rw [he]),hw.inj,hw.dom⟩
theorem lenOf_ok {P : Program} {E : Emb} {x x' : Value} {n : Nat} {w : World} (hx : VR E x x') (h : Qv x = some n) : (Builtin.lenOf x').run P w = .ok n w := by
  unfold Qv at h
  cases hx <;> simp at h <;> subst h <;> rfl
theorem appL_ok {P : Program} {E : Emb} {h h' : Heap} {w : World} (hw : WR E h w) {elem : TypeId} {size bytes : Nat} {z : Value} (hz : Zh P elem = some z) (hzs : z.cells.toList.length = size) (hb : byOf P elem = some bytes)
    {zs : Bool} {s v x' : Value} {base : Option Addr} {sLen sCap n : Nat} {appended : Sem (Array Value)} {new new0 new1 : List Value} (hs : VR E s (.slice base sLen sCap)) (hr : appL h size bytes s n new = some (v,h'))
    (hn0 : appended.run P w = .ok ⟨new0⟩ w) (hv0 : VRL E new new0)
    (hn1 : appended.run P { w with drawn := w.drawn + 1 } = .ok ⟨new1⟩ { w with drawn := w.drawn + 1 }) (hv1 : VRL E new new1) (hnew0 : n = 0 → new = []) :
    ∃ v' E' w',(Qj P elem size zs base (.slice base sLen sCap) x' sLen sCap n appended).run P w = .ok v' w' ∧ VR E' v v' ∧ WR E' h' w' ∧ Stp E h w E' h' w' := by
  have hw1 : WR E h { w with drawn := w.drawn + 1 } := hw.of_heap rfl
  unfold appL at hr
  by_cases hn : n = 0
  · -- nothing to append
    subst hn
    have hnil := hnew0 rfl
    subst hnil
    cases hv0
    have hle : sLen ≤ sCap := by cases hs <;> first | assumption | exact Nat.le_refl _
    have hsl : ∃ a l c,s = .slice a l c := by cases hs <;> exact ⟨_,_,_,rfl⟩
    obtain ⟨a,l,c,rfl⟩ := hsl
    simp [Nat.beq] at hr
    obtain ⟨rfl,rfl⟩ := hr
    refine ⟨.slice base sLen sCap,E,w,?_,hs,hw,Stp.refl _ _ _⟩
    unfold Qj
    cases base <;> simp [hle,hn0,storeCells]
  · have hnb : n.beq 0 = false := by rw [Ww]; simp [hn]
    cases hs with
    | snil =>
      simp only [hnb,cond_false,Nat.zero_add] at hr
      cases hc : (!((n * bytes).ble 1099511627776) || !(n.ble 1099511627776) || !(new.length.beq (n * size))) with
      | true => rw [hc] at hr; simp at hr
      | false =>
        rw [hc] at hr
        simp only [cond_false,Option.some.injEq,Prod.mk.injEq] at hr
        obtain ⟨rfl,rfl⟩ := hr
        simp only [Bool.or_eq_false_iff,Bool.not_eq_false'] at hc
        have c1 := Nat.le_of_ble_eq_true hc.1.1
        have c2 := Nat.le_of_ble_eq_true hc.1.2
        have c3 : new.length = n * size := by simpa [Ww] using hc.2
        obtain ⟨nc,rest,w',hrun,hnc,hrest,hg⟩ := grow_run (P := P) (zs := zs) (base := none) (s := .slice none 0 0) (x := x') (sLen := 0) (sCap := 0) (n := n) (appended := appended) (w := w) (old := []) (new := new1) hz hzs hb
          (by omega) (by simpa using c1) (by simpa using c2) rfl hn1
        simp only [Nat.zero_add,List.nil_append] at hrun hnc hrest hg
        have hl1 := VRL.length hv1
        have hmul : n * size + (nc - n) * size = nc * size := by rw [← Nat.add_mul]; congr 1; omega
        obtain ⟨hw2,hst⟩ := hw.add (o := .cells new size false) (en := ⟨w.heap.size,0,n * size,nc * size,size,false,false⟩) hg rfl (by
          refine ⟨rfl,rfl,rfl,⟨c3,by simp; omega⟩,_,_,_,hg.new,by simp; omega,?_,?_⟩
          · intro i u hu
            have hi : i < new.length := (List.getElem?_eq_some_iff.1 hu).1
            obtain ⟨u',hu',hru⟩ := VRL.get hv1 hu
            exact ⟨u',by simp; rw [List.getElem?_append_left (by omega)]; exact hu',hru.mono (Emb.more_ext hw _)⟩
          · intro _; exact .inl rfl)
        refine ⟨_,_,_,hrun,?_,hw2,hst⟩
        refine .sl h.next 0 n 1 _ _ nc (Emb.more_same _ _ _) rfl hnc (fun q => by cases q) (fun _ _ => ⟨by simp,fun _ => by simp; omega,fun q => absurd q (by decide)⟩) (fun _ => by simp)
    | sl id off len cap en a' cap' he hm hle hcap hbd ha =>
      simp only [hnb,cond_false] at hr
      cases hc : (!(((sLen + n) * bytes).ble 1099511627776) || !((sLen + n).ble 1099511627776) || !(new.length.beq (n * size))) with
      | true => rw [hc] at hr; simp at hr
      | false =>
        rw [hc] at hr
        simp only [cond_false] at hr
        simp only [Bool.or_eq_false_iff,Bool.not_eq_false'] at hc
        have c1 := Nat.le_of_ble_eq_true hc.1.1
        have c2 := Nat.le_of_ble_eq_true hc.1.2
        have c3 : new.length = n * size := by simpa [Ww] using hc.2
        cases hf : Zk h size sLen (.slice (some ⟨id,off,none⟩) sLen cap) with
        | none => rw [hf] at hr; simp at hr
        | some old =>
          rw [hf] at hr
          simp only at hr
          have hsv : VR E (.slice (some ⟨id,off,none⟩) sLen cap) (.slice (some a') sLen sCap) := .sl id off sLen cap en a' sCap he hm hle hcap hbd ha
          obtain ⟨old1,ho1,hvo1⟩ := Je (P := P) hw1 hsv hf (fun m q => by simp [Qv] at q; omega)
          have hlo1 := VRL.length hvo1
          have hl1 := VRL.length hv1
          have grown : ∀ (hgrow : sCap < sLen + n) (holdl : old.length = sLen * size),∃ (nc : Nat) (rest : List Value) (w' : World),(Qj P elem size zs (some a') (.slice (some a') sLen sCap) x' sLen sCap n appended).run P w = .ok (.slice (some ⟨w.heap.size,0,none⟩) (sLen + n) nc) w' ∧
              sLen + n ≤ nc ∧ ∃ ob,Grew w w' ob ∧ ∀ (E1 : Emb),(∀ i e,E i = some e → E1 i = some e) → Jc E1 w' ⟨w.heap.size,0,(sLen + n) * size,nc * size,size,false,false⟩ (.cells (old ++ new) size false) := by
            intro hgrow holdl
            obtain ⟨nc,rest,w',hrun,hnc,hrest,hg⟩ := grow_run (P := P) (zs := zs) (base := some a') (s := .slice (some a') sLen sCap) (x := x') (sLen := sLen) (sCap := sCap) (n := n) (appended := appended) (w := w) (old := old1) (new := new1) hz hzs hb
              hgrow c1 c2 ho1 hn1
            have hmul : (sLen + n) * size + (nc - (sLen + n)) * size = nc * size := by rw [← Nat.add_mul]; congr 1; omega
            have hmul2 : (sLen + n) * size = sLen * size + n * size := Nat.add_mul _ _ _
            refine ⟨nc,rest,w',hrun,hnc,_,hg,fun E1 hE1 => ?_⟩
            refine ⟨rfl,rfl,rfl,⟨by simp; omega,by simp; omega⟩,_,_,_,hg.new,by simp; omega,?_,?_⟩
            · intro i u hu
              have hi : i < (old ++ new).length := (List.getElem?_eq_some_iff.1 hu).1
              obtain ⟨u',hu',hru⟩ := VRL.get (VRL.append hvo1 hv1) hu
              refine ⟨u',?_,hru.mono hE1⟩
              simp only [List.getElem?_toArray,Nat.zero_add]
              rw [List.getElem?_append_left (by simp at hi ⊢; omega)]; exact hu'
            · intro _; exact .inl rfl
          have hold : ∀ (hcz : sCap = 0 ∨ ∃ vs e ro,h.get id = some (.cells vs e ro)),old.length = sLen * size := by
            intro _
            simp only [Zk] at hf
            by_cases hs0 : sLen = 0
            · subst hs0; simp at hf; subst hf; simp
            · have : sLen.beq 0 = false := by rw [Ww]; simp [hs0]
              rw [this] at hf
              simp only [cond_false] at hf
              unfold rd at hf
              split at hf
              · cases hq : (off + sLen * size).ble (List.length _) with
                | false => rw [hq] at hf; simp at hf
                | true =>
                  rw [hq] at hf
                  have := Nat.le_of_ble_eq_true hq
                  simp at hf; subst hf; simp; omega
              · cases hf
          by_cases hcz : cap = 0
          · -- known to have no room
            have hcb : cap.beq 0 = true := by rw [Ww]; simp [hcz]
            rw [hcb] at hr
            simp only [cond_true,Option.some.injEq,Prod.mk.injEq] at hr
            obtain ⟨rfl,rfl⟩ := hr
            have hc0 := hcap hcz
            subst hc0
            obtain ⟨nc,rest,w',hrun,hnc,ob,hg,hob⟩ := grown (by omega) (hold (.inl rfl))
            obtain ⟨hw2,hst⟩ := hw.add (en := ⟨w.heap.size,0,(sLen + n) * size,nc * size,size,false,false⟩) hg rfl (hob _ (Emb.more_ext hw _))
            refine ⟨_,_,_,hrun,?_,hw2,hst⟩
            exact .sl h.next 0 (sLen + n) 1 _ _ nc (Emb.more_same _ _ _) rfl hnc (fun q => by cases q) (fun _ _ => ⟨by simp,fun _ => by simp; exact Nat.mul_le_mul_right _ hnc,fun q => absurd q (by decide)⟩) (fun _ => by simp)
          · have hcb : cap.beq 0 = false := by rw [Ww]; simp [hcz]
            rw [hcb] at hr
            simp only [cond_false] at hr
            cases hg : h.get id with
            | none => rw [hg] at hr; simp at hr
            | some o =>
              cases o with
              | map es => rw [hg] at hr; simp at hr
              | cells vs e ro =>
                cases ro with
                | true => rw [hg] at hr; simp at hr
                | false =>
                  rw [hg] at hr
                  simp only at hr
                  cases hes : (!(e.beq size) || size.beq 0) with
                  | true => rw [hes] at hr; simp at hr
                  | false =>
                    rw [hes] at hr
                    simp only [cond_false] at hr
                    simp only [Bool.or_eq_false_iff,Bool.not_eq_false',Ww,decide_eq_true_eq,decide_eq_false_iff_not] at hes
                    obtain ⟨hes1,hes2⟩ := hes
                    have ho := hw.obj id en _ he hg
                    obtain ⟨o1,o2,o3,⟨o4,o4'⟩,c,el,fr,o5,o6,o7,o8⟩ := ho
                    have hesz : en.esz = size := by rw [o2,hes1]
                    have b1 := (hbd o3 (by rw [hesz]; exact hes2)).1
                    have b3 := (hbd o3 (by rw [hesz]; exact hes2)).2.1 hcz
                    rw [hesz] at b1 b3
                    have hmul2 : (sLen + n) * size = sLen * size + n * size := Nat.add_mul _ _ _
                    by_cases hin : (off + (sLen + n) * size) ≤ vs.length
                    · -- within what is known
                      have hinb : (off + (sLen + n) * size).ble vs.length = true := Nat.ble_eq_true_of_le hin
                      rw [hinb] at hr
                      simp only [cond_true,Option.map_eq_some_iff,Prod.mk.injEq] at hr
                      obtain ⟨h2,hwr,rfl,rfl⟩ := hr
                      have hroom : sLen + n ≤ sCap := by
                        have : (sLen + n) * size ≤ sCap * size := by omega
                        exact Nat.le_of_mul_le_mul_right this (by omega)
                      obtain ⟨w',hst,hw',hstp⟩ := wr_ok (P := P) hw he hv0 hwr
                      refine ⟨.slice (some a') (sLen + n) sCap,E,w',?_,?_,hw',hstp⟩
                      · unfold Qj
                        simp only [hroom,if_true,Sem.run_bind,hn0,Result.andThen_ok]
                        rw [ha (by omega),Qk]
                        rw [show en.base + off + sLen * size = en.base + (off + sLen * size) by omega]
                        simp [hst]
                      · exact .sl id off (sLen + n) cap en a' sCap he hm hroom hcap hbd ha
                    · have hinb : (off + (sLen + n) * size).ble vs.length = false := by
                        cases hq : (off + (sLen + n) * size).ble vs.length with
                        | false => rfl
                        | true => exact absurd (Nat.le_of_ble_eq_true hq) hin
                      rw [hinb] at hr
                      simp only [cond_false] at hr
                      cases hcell : new.all isCell with
                      | false => rw [hcell] at hr; simp at hr
                      | true =>
                        rw [hcell] at hr
                        simp only [cond_true,Option.some.injEq,Prod.mk.injEq] at hr
                        obtain ⟨rfl,rfl⟩ := hr
                        have holdl := hold (.inr ⟨vs,e,false,hg⟩)
                        have hnx : (h.put id none).next = h.next := Heap.next_put _ _ _
                        by_cases hroom : sLen + n ≤ sCap
                        · -- there is room: the same block
                          have hbl := (Array.getElem?_eq_some_iff.1 o5).1
                          have hl0 := VRL.length hv0
                          have hmulc : (sLen + n) * size ≤ sCap * size := Nat.mul_le_mul_right _ hroom
                          have hrun := Jg (P := P) (b := en.block) (o := en.base + off + sLen * size) (el := el) (fr := fr) new0 0 w c.toList o5 (by simp; omega) (fun j hj => by
                            have q := o8 rfl
                            simp only [Bool.and_eq_false_iff,decide_eq_false_iff_not]
                            omega) (by rw [VRL.isCell hv0]; exact hcell)
                          obtain ⟨old0,ho0,hvo0⟩ := Je (P := P) hw hsv hf (fun m q => by simp [Qv] at q; omega)
                          have hfold : ∀ i u,old[i]? = some u → vs[off + i]? = some u := by
                            intro i u hu
                            simp only [Zk] at hf
                            by_cases hs0 : sLen = 0
                            · subst hs0; simp at hf; subst hf; simp at hu
                            · have hb0 : sLen.beq 0 = false := by rw [Ww]; simp [hs0]
                              rw [hb0] at hf
                              simp only [cond_false,rd,hg] at hf
                              cases hq : (off + sLen * size).ble vs.length with
                              | false => rw [hq] at hf; simp at hf
                              | true =>
                                rw [hq] at hf
                                simp at hf; subst hf
                                rw [List.getElem?_take] at hu
                                split at hu
                                · rw [List.getElem?_drop] at hu; exact hu
                                · cases hu
                          obtain ⟨hw2,hst⟩ := hw.swap (o' := .cells (old ++ new) size false) (en' := ⟨en.block,en.base + off,(sLen + n) * size,sCap * size,size,false,false⟩) he hg rfl rfl (Qr w en.block (.cells ⟨putL c.toList (en.base + off + sLen * size + 0) new0⟩ el fr)) (by
                            refine ⟨rfl,rfl,rfl,⟨by simp; omega,by simp; omega⟩,_,_,_,Vc _ _ _ hbl,?_,?_,?_⟩
                            · simp [Za]; omega
                            · intro i u hu
                              simp only [List.getElem?_toArray]
                              rw [Qd _ _ _ _ (by simp; omega)]
                              by_cases hi : i < old.length
                              · rw [List.getElem?_append_left hi] at hu
                                rw [if_neg (by omega)]
                                obtain ⟨u',hu',hru⟩ := o7 (off + i) u (hfold i u hu)
                                exact ⟨u',by simpa [Nat.add_assoc] using hu',hru.mono (Emb.more_ext hw _)⟩
                              · rw [List.getElem?_append_right (by omega)] at hu
                                have hi2 := (List.getElem?_eq_some_iff.1 hu).1
                                rw [if_pos (by omega)]
                                obtain ⟨u',hu',hru⟩ := VRL.get hv0 hu
                                exact ⟨u',by rw [show en.base + off + i - (en.base + off + sLen * size + 0) = i - old.length by omega]; exact hu',hru.mono (Emb.more_ext hw _)⟩
                            · intro _
                              rcases o8 rfl with q | q
                              · exact .inl q
                              · right; simp only; omega)
                          refine ⟨.slice (some a') (sLen + n) sCap,_,_,?_,?_,hw2,hst⟩
                          · unfold Qj
                            simp only [hroom,if_true,Sem.run_bind,hn0,Result.andThen_ok]
                            rw [ha (by omega),Qk]
                            simp [hrun]
                          · rw [hnx]
                            exact .sl h.next 0 (sLen + n) 1 _ a' sCap (Emb.more_same _ _ _) rfl hroom (fun q => by cases q) (fun _ _ => ⟨by simp,fun _ => by simp; omega,fun q => absurd q (by decide)⟩) (fun q => by rw [ha q]; simp)
                        · -- a new block
                          obtain ⟨nc,rest,w',hrun,hnc,ob,hgr,hob⟩ := grown (by omega) holdl
                          obtain ⟨kw,ks,_⟩ := hw.kill he hg rfl
                          obtain ⟨hw2,hst⟩ := kw.add (en := ⟨w.heap.size,0,(sLen + n) * size,nc * size,size,false,false⟩) hgr rfl (hob _ (Emb.more_ext kw _))
                          refine ⟨_,_,_,hrun,?_,hw2,ks.trans hst⟩
                          rw [hnx]
                          have hm := Emb.more_same E h.next ⟨w.heap.size,0,(sLen + n) * size,nc * size,size,false,false⟩
                          rw [hnx] at *
                          exact .sl h.next 0 (sLen + n) 1 _ _ nc hm rfl hnc (fun q => by cases q) (fun _ _ => ⟨by simp,fun _ => by simp; exact Nat.mul_le_mul_right _ hnc,fun q => absurd q (by decide)⟩) (fun _ => by simp)
end Go.Dx
