/- A deterministic reading of the model's code: slices, fields, elements, maps, builtins; all operations that are no calls. -/
import Derived.Test.YtpkefdoleieloaaCsz10
namespace Go.Dx
set_option linter.unusedVariables false
set_option linter.unusedSimpArgs false
section
variable {P : Program} {E : Emb} {e : Env} {h h' : Heap} {a : Act} {w : World} {nt : Nat} {d : Option Tmp} {ty : TypeId} {p : String} {af : Array Edge} {g : Option (Nat × Bool)}
theorem VR_ptr {E : Emb} {id off : Nat} {u : Value} (h : VR E (.pointer (some ⟨id,off,none⟩)) u) : ∃ en,E id = some en ∧ en.mp = false ∧ u = .pointer (some ⟨en.block,en.base + off,none⟩) := by
  cases h with
  | ptr _ _ en he hm => exact ⟨en,he,hm,rfl⟩
theorem Vp {E : Emb} {k : IntKind} {n : Int} {u : Value} (h : VR E (.int k n) u) : u = .int k n := by cases h; rfl
theorem VR_str {E : Emb} {s : ByteArray} {u : Value} (h : VR E (.string s) u) : u = .string s := by cases h; rfl
theorem VR_agg {E : Emb} {cs : List Value} {u : Value} (h : VR E (.agg ⟨cs⟩) u) : ∃ cs',u = .agg ⟨cs'⟩ ∧ VRL E cs cs' := by cases h; exact ⟨_,rfl,by assumption⟩
theorem VR_tup {E : Emb} {cs : List Value} {u : Value} (h : VR E (.tuple ⟨cs⟩) u) : ∃ cs',u = .tuple ⟨cs'⟩ ∧ VRL E cs cs' := by cases h; exact ⟨_,rfl,by assumption⟩
theorem ok_slice (R : Rel E e h a w nt) {t : TypeId} {x : Operand} {lo hi top : Option Operand} {so : SO} {v : Value} (hc : Wz P (.slice t x lo hi top) = some so) (hr : so.run e h = some (v,h')) :
    Did E h w ((execOp a.eval ⟨d,.slice t x lo hi top,ty,p,af,g⟩).run P w) v h' := by
  simp only [Wz] at hc
  split at hc
  · rename_i X LO HI TOP h1 h2 h3 h4
    split at hc
    · rename_i hu
      cases TOP with
      | some _ => simp at hc
      | none =>
        simp only [Option.some.injEq] at hc; subst hc
        simp only [SO.run] at hr
        split at hr
        · rename_i s lov hiv h5 h6 h7
          obtain ⟨⟨l,hh⟩,hb,hq⟩ := Xr hr
          simp only [Prod.mk.injEq] at hq
          obtain ⟨rfl,rfl⟩ := hq
          obtain ⟨q1,_⟩ := Jl R h2 h6
          obtain ⟨q2,_⟩ := Jl R h3 h7
          have hs := VR_str (Wx R h1 h5)
          obtain ⟨b1,b2,b3,b4⟩ := bounds_ok (P := P) (E := E) (w := w) false hb q1 q2 (Nat.le_refl s.size)
          have htop : top = none := by cases top with
            | none => rfl
            | some y => simp only [Vo] at h4; obtain ⟨_,_,q⟩ := Xr h4; cases q
          subst htop
          refine Did.quiet R.wr (v' := .string (s.extract l hh)) ?_ (.str _)
          simp only [execOp,Xw,hs]
          unfold Instr.sliceAt Instr.slice
          simp [Wq hu,b1]
        · cases hr
    · rename_i el hu
      cases hs : Zs P el with
      | none => rw [hs] at hc; simp at hc
      | some s =>
        rw [hs] at hc
        simp only at hc
        cases hs0 : !(s.beq 0) with
        | false => rw [hs0] at hc; simp at hc
        | true =>
          rw [hs0] at hc
          simp only [cond_true] at hc
          have hso : so = .slV s X LO HI TOP ∧ (TOP ≠ none → HI ≠ none) := by
            split at hc
            · cases hc
            · rename_i hne
              simp only [Option.some.injEq] at hc
              refine ⟨hc.symm,fun q1 q2 => ?_⟩
              cases TOP with
              | none => exact q1 rfl
              | some t2 => exact hne t2 q2 rfl
          obtain ⟨rfl,hne⟩ := hso
          simp only [SO.run] at hr
          split at hr
          · rename_i sv lov hiv tv h5 h6 h7 h8
            obtain ⟨v1,hv1,hq⟩ := Xr hr
            simp only [Prod.mk.injEq] at hq
            obtain ⟨rfl,rfl⟩ := hq
            obtain ⟨q1,_⟩ := Jl R h2 h6
            obtain ⟨q2,n2⟩ := Jl R h3 h7
            obtain ⟨q3,n3⟩ := Jl R h4 h8
            obtain ⟨v',hv',hrr⟩ := slVV_ok (P := P) R.wr hu hs (Wx R h1 h5) q1 q2 q3 (fun q => fun r => hne (fun z => q (n3.2 z)) (n2.1 r)) hv1
            simp only [execOp,Xw]
            exact Xq hv' hrr R.wr (Stp.refl _ _ _)
          · cases hr
    · cases hc
  · cases hc
theorem ok_fa (R : Rel E e h a w nt) {t : TypeId} {x : Operand} {f : Nat} {so : SO} {v : Value} (hc : Wz P (.fieldAddr t x f) = some so) (hr : so.run e h = some (v,h')) :
    Did E h w ((execOp a.eval ⟨d,.fieldAddr t x f,ty,p,af,g⟩).run P w) v h' := by
  simp only [Wz] at hc
  split at hc
  · rename_i X fs h1 hu
    split at hc
    · rename_i ff hf
      split at hc
      · rename_i s hs
        cases hs0 : s.beq 0 with
        | true => rw [hs0] at hc; simp at hc
        | false =>
          rw [hs0] at hc
          simp only [cond_false,Option.some.injEq] at hc; subst hc
          simp only [SO.run] at hr
          split at hr
          · rename_i id o h2
            simp only [Option.some.injEq,Prod.mk.injEq] at hr
            obtain ⟨rfl,rfl⟩ := hr
            obtain ⟨en,he,hm,hap⟩ := VR_ptr (Wx R h1 h2)
            refine Did.quiet R.wr (v' := .pointer (some ⟨en.block,en.base + (o + ff.offset),none⟩)) ?_ (.ptr _ _ en he hm)
            simp only [execOp,Xw,hap]
            have hsz : ¬ s = 0 := by rw [Ww] at hs0; simpa using hs0
            have hff : fs[f]? = some ff := by rw [← Array.getElem?_toList]; exact hf
            unfold Instr.fieldAt
            simp only [Sem.run_bind,Wq hu,Result.andThen_ok,hff]
            simp [Instr.sureAddr,fieldPlace,Xv hs,hsz,Qk,Nat.add_assoc]
          · cases hr
      · cases hc
    · cases hc
  · cases hc
theorem ok_field (R : Rel E e h a w nt) {t : TypeId} {x : Operand} {f : Nat} {so : SO} {v : Value} (hc : Wz P (.field t x f) = some so) (hr : so.run e h = some (v,h')) :
    Did E h w ((execOp a.eval ⟨d,.field t x f,ty,p,af,g⟩).run P w) v h' := by
  simp only [Wz] at hc
  split at hc
  · rename_i X fs h1 hu
    split at hc
    · rename_i ff hf
      split at hc
      · rename_i s gg hs hg
        simp only [Option.some.injEq] at hc; subst hc
        simp only [SO.run] at hr
        split at hr
        · rename_i cs h2
          obtain ⟨cs',hap,hl⟩ := VR_agg (Wx R h1 h2)
          have hff : fs[f]? = some ff := by rw [← Array.getElem?_toList]; exact hf
          obtain ⟨v1,hv1,hq⟩ := Xr hr
          simp only [Prod.mk.injEq] at hq
          obtain ⟨rfl,rfl⟩ := hq
          obtain ⟨v',hv',hrr⟩ := part_ok (P := P) (w := w) hs hg hl hv1
          simp only [execOp,Xw,hap]
          refine Xq (v' := v') ?_ hrr R.wr (Stp.refl _ _ _)
          unfold Instr.field
          simp only [Sem.run_bind,Wq hu,Result.andThen_ok,hff]
          simp [asAgg,hv']
        · cases hr
      · cases hc
    · cases hc
  · cases hc
theorem ok_ia (R : Rel E e h a w nt) {t : TypeId} {x y : Operand} {so : SO} {v : Value} (hc : Wz P (.indexAddr t x y) = some so) (hr : so.run e h = some (v,h')) :
    Did E h w ((execOp a.eval ⟨d,.indexAddr t x y,ty,p,af,g⟩).run P w) v h' := by
  simp only [Wz] at hc
  split at hc
  · rename_i X Y n el h1 h2 hu
    obtain ⟨s,hs,rfl⟩ := Xr hc
    simp only [SO.run] at hr
    split at hr
    · rename_i id off k i h3 h4
      split at hr
      · rename_i hi
        simp only [Option.some.injEq,Prod.mk.injEq] at hr
        obtain ⟨rfl,rfl⟩ := hr
        obtain ⟨en,he,hm,hap⟩ := VR_ptr (Wx R h1 h3)
        have hy := Vp (Wx R h2 h4)
        refine Did.quiet R.wr (v' := .pointer (some ⟨en.block,en.base + (off + i.toNat * s),none⟩)) ?_ (.ptr _ _ en he hm)
        simp only [execOp,Xw,hap,hy]
        unfold Instr.indexAt
        simp [asIntOf,Wq hu,Instr.sureAddr,hi,Xv hs,Qk,Nat.add_assoc]
      · cases hr
    · cases hr
  · rename_i X Y el h1 h2 hu
    obtain ⟨s,hs,rfl⟩ := Xr hc
    simp only [SO.run] at hr
    split at hr
    · rename_i id off len cap k i h3 h4
      split at hr
      · rename_i hi
        simp only [Option.some.injEq,Prod.mk.injEq] at hr
        obtain ⟨rfl,rfl⟩ := hr
        have hx := Wx R h1 h3
        have hy := Vp (Wx R h2 h4)
        cases hap : a.eval x with
        | slice ad l2 c2 =>
          rw [hap] at hx
          cases hx with
          | sl _ _ _ _ en a' cap' he hm hle hcap hbd ha =>
            refine Did.quiet R.wr (v' := .pointer (some ⟨en.block,en.base + (off + i.toNat * s),none⟩)) ?_ (.ptr _ _ en he hm)
            simp only [execOp,Xw,hap,hy]
            have hc2 : c2 ≠ 0 := by omega
            rw [ha hc2]
            unfold Instr.indexAt
            simp [asIntOf,Wq hu,hi,Xv hs,Qk,Nat.add_assoc]
        | _ => rw [hap] at hx; cases hx
      · cases hr
    · cases hr
  · cases hc
theorem ok_ix (R : Rel E e h a w nt) {t : TypeId} {x y : Operand} {so : SO} {v : Value} (hc : Wz P (.index t x y) = some so) (hr : so.run e h = some (v,h')) :
    Did E h w ((execOp a.eval ⟨d,.index t x y,ty,p,af,g⟩).run P w) v h' := by
  simp only [Wz] at hc
  split at hc
  · rename_i X Y h1 h2 hu
    simp only [Option.some.injEq] at hc; subst hc
    simp only [SO.run] at hr
    split at hr
    · rename_i s k i h3 h4
      split at hr
      · rename_i hi
        obtain ⟨b,hb,hq⟩ := Xr hr
        simp only [Prod.mk.injEq] at hq
        obtain ⟨rfl,rfl⟩ := hq
        have hx := VR_str (Wx R h1 h3)
        have hy := Vp (Wx R h2 h4)
        refine Did.quiet R.wr (v' := .int .u8 b.toNat) ?_ (.int _ _)
        simp only [execOp,Xw,hx,hy]
        have hsb : s[i.toNat]? = some b := by
          have h5 := (List.getElem?_eq_some_iff.1 hb)
          obtain ⟨h6,h7⟩ := h5
          rw [getElem?_pos s i.toNat (by rw [Array.length_toList] at h6; exact h6)]
          congr 1
        unfold Instr.index
        simp only [Sem.run_bind,asIntOf,Sem.run_pure,Result.andThen_ok,Wq hu,hi,if_true,hsb]
      · cases hr
    · cases hr
  · rename_i X Y n el h1 h2 hu
    split at hc
    · rename_i s gg hs hg
      simp only [Option.some.injEq] at hc; subst hc
      simp only [SO.run] at hr
      split at hr
      · rename_i cs k i h3 h4
        split at hr
        · rename_i hi
          obtain ⟨cs',hap,hl⟩ := VR_agg (Wx R h1 h3)
          have hy := Vp (Wx R h2 h4)
          obtain ⟨v1,hv1,hq⟩ := Xr hr
          simp only [Prod.mk.injEq] at hq
          obtain ⟨rfl,rfl⟩ := hq
          obtain ⟨v',hv',hrr⟩ := part_ok (P := P) (w := w) hs hg hl hv1
          simp only [execOp,Xw,hap,hy]
          refine Xq (v' := v') ?_ hrr R.wr (Stp.refl _ _ _)
          unfold Instr.index
          simp [asIntOf,Wq hu,hi,Xv hs,hv']
        · cases hr
      · cases hr
    · cases hc
  · cases hc
theorem ok_ext (R : Rel E e h a w nt) {x : Operand} {i : Nat} {so : SO} {v : Value} (hc : Wz P (.extract x i) = some so) (hr : so.run e h = some (v,h')) :
    Did E h w ((execOp a.eval ⟨d,.extract x i,ty,p,af,g⟩).run P w) v h' := by
  simp only [Wz] at hc
  obtain ⟨X,h1,rfl⟩ := Xr hc
  simp only [SO.run] at hr
  split at hr
  · rename_i vs h2
    obtain ⟨v1,hv1,hq⟩ := Xr hr
    simp only [Prod.mk.injEq] at hq
    obtain ⟨rfl,rfl⟩ := hq
    obtain ⟨cs',hap,hl⟩ := VR_tup (Wx R h1 h2)
    obtain ⟨v',h3,h4⟩ := VRL.get hl hv1
    refine Did.quiet R.wr (v' := v') ?_ h4
    simp only [execOp,Xw,hap]
    simp [Instr.extract,h3]
  · cases hr
/-! ### Maps -/
theorem VR_map {E : Emb} {id : Nat} {u : Value} (h : VR E (.map (some id)) u) : ∃ en,E id = some en ∧ en.mp = true ∧ u = .map (some en.block) := by
  cases h with
  | mp _ en he hm => exact ⟨en,he,hm,rfl⟩
theorem Zl {t : TypeId} {dd : TypeDesc} {k : Value} {es : List MapEntry} {r : Option (Nat × Value)} (hd : P.underlying t = some dd) (hf : Instr.findNow dd k es 0 = some r) (w : World) : (Instr.findKey t k es).run P w = .ok r w := by
  unfold Instr.findKey
  simp [Wq hd,hf]
theorem lookE_key {s : Bool} {k : Value} : ∀ {es : List (Value × Value)} {r : Option Value},Ks s k es = some r → es = [] ∨ Js s k = true
  | [],_,_ => .inl rfl
  | (k',v) :: es,r,h => by
    right
    simp only [Ks] at h
    cases he : Vr s k k' with
    | none => rw [he] at h; simp at h
    | some b =>
      unfold Vr at he
      split at he <;> first | rfl | cases he
theorem VR_key {E : Emb} {s : Bool} {k k' : Value} (hk : Js s k = true) (h : VR E k k') : k' = k := by
  cases h <;> simp [Js] at hk <;> rfl
theorem ok_look (R : Rel E e h a w nt) {t : TypeId} {x y : Operand} {ok : Bool} {so : SO} {v : Value} (hc : Wz P (.lookup t x y ok) = some so) (hr : so.run e h = some (v,h')) :
    Did E h w ((execOp a.eval ⟨d,.lookup t x y ok,ty,p,af,g⟩).run P w) v h' := by
  simp only [Wz] at hc
  split at hc
  · rename_i X Y kt el h1 h2 hu
    split at hc
    · rename_i z hz
      obtain ⟨s,hk,rfl⟩ := Xr hc
      obtain ⟨hzr,_,_,hvz⟩ := Yf (P := P) hz w
      have hkd : ∃ dd,P.underlying kt = some dd := by rcases Jj hk with ⟨_,k,q⟩ | ⟨_,q⟩ <;> exact ⟨_,q⟩
      obtain ⟨dd,hdd⟩ := hkd
      have noneCase : ∀ (es : List MapEntry) (key : Value),Instr.findNow dd key es 0 = some none → ∀ xx : Value,((xx = .map none ∧ es = []) ∨ ∃ r clock,xx = .map (some r) ∧ w.heap[r]? = some (.map ⟨es⟩ clock)) →
          (Instr.lookup t xx key ok).run P w = .ok (okV z false ok) w := by
        intro es key hf xx hxx
        unfold Instr.lookup
        rcases hxx with ⟨rfl,rfl⟩ | ⟨r,clock,rfl,hb⟩
        · simp [Wq hu,Zc hk,Zl hdd hf,hzr]
          cases ok <;> rfl
        · simp [Wq hu,Zy hb,Zc hk,Zl hdd hf,hzr]
          cases ok <;> rfl
      simp only [SO.run] at hr
      split at hr
      · rename_i kv h3 h4
        simp only [Option.some.injEq,Prod.mk.injEq] at hr
        obtain ⟨rfl,rfl⟩ := hr
        have hx := Wx R h1 h3
        have hap : a.eval x = .map none := by cases hap : a.eval x <;> rw [hap] at hx <;> cases hx; rfl
        refine Did.quiet R.wr (v' := okV z false ok) ?_ ?_
        · simp only [execOp,Xw,hap]
          rw [noneCase [] (a.eval y) rfl _ (.inl ⟨rfl,rfl⟩)]
          rfl
        · cases ok
          · exact Zx 1 z hvz
          · exact .tup _ _ (.cons _ _ _ _ (Zx 1 z hvz) (.cons _ _ _ _ (.bool _) .nil))
      · rename_i id kv h3 h4
        obtain ⟨en,he,hm,hap⟩ := VR_map (Wx R h1 h3)
        split at hr
        · rename_i es hg
          obtain ⟨_,_,es',clock,hb,hes⟩ := R.wr.obj id en _ he hg
          have hy := Wx R h2 h4
          split at hr
          · rename_i u hl
            simp only [Option.some.injEq,Prod.mk.injEq] at hr
            obtain ⟨rfl,rfl⟩ := hr
            have hkey : Js s kv = true := by
              rcases lookE_key hl with q | q
              · subst q; simp [Ks] at hl
              · exact q
            obtain ⟨r',hf,hm2⟩ := find_ok (P := P) hk hdd es es'.toList 0 _ hes hl
            cases r' with
            | none => exact hm2.elim
            | some iu =>
              obtain ⟨i,u'⟩ := iu
              simp only at hm2
              refine Did.quiet R.wr (v' := okV u' true ok) ?_ ?_
              · simp only [execOp,Xw,hap]
                rw [VR_key hkey hy]
                unfold Instr.lookup
                simp [Wq hu,Zy hb,Zc hk,Zl hdd hf]
                cases ok <;> rfl
              · cases ok
                · exact hm2
                · exact .tup _ _ (.cons _ _ _ _ hm2 (.cons _ _ _ _ (.bool _) .nil))
          · rename_i hl
            simp only [Option.some.injEq,Prod.mk.injEq] at hr
            obtain ⟨rfl,rfl⟩ := hr
            have hf0 : Instr.findNow dd (a.eval y) es'.toList 0 = some none := by
              rcases lookE_key hl with q | q
              · subst q
                cases hes2 : es'.toList with
                | nil => rfl
                | cons _ _ => rw [hes2] at hes; exact hes.elim
              · rw [VR_key q hy]
                obtain ⟨r',hf,hm2⟩ := find_ok (P := P) hk hdd es es'.toList 0 _ hes hl
                cases r' with
                | none => exact hf
                | some iu => exact hm2.elim
            refine Did.quiet R.wr (v' := okV z false ok) ?_ ?_
            · simp only [execOp,Xw,hap]
              rw [noneCase es'.toList (a.eval y) hf0 _ (.inr ⟨_,clock,rfl,by simpa using hb⟩)]
              rfl
            · cases ok
              · exact Zx 1 z hvz
              · exact .tup _ _ (.cons _ _ _ _ (Zx 1 z hvz) (.cons _ _ _ _ (.bool _) .nil))
          · cases hr
        · cases hr
      · cases hr
    · cases hc
  · cases hc
theorem map_put {E : Emb} {h : Heap} {w : World} (hw : WR E h w) {id : Nat} {en : Ent} {es es2 : List (Value × Value)} {ents ents2 : Array MapEntry} {c2 : Nat} (he : E id = some en) (hm : en.mp = true) (hg : h.get id = some (.map es)) {clock : Nat} (hb : w.heap[en.block]? = some (.map ents clock))
    (hes : EsR E es2 ents2.toList) : WR E (h.put id (some (.map es2))) (Ym w en.block (.map ents2 c2)) ∧ Stp E h w E (h.put id (some (.map es2))) (Ym w en.block (.map ents2 c2)) := by
  obtain ⟨_,hro,_⟩ := hw.obj id en _ he hg
  exact hw.put he hg rfl rfl (Qr _ _ _) ⟨hm,hro,ents2,c2,Vc _ _ _ (Array.getElem?_eq_some_iff.1 hb).1,hes⟩
theorem ok_mput (R : Rel E e h a w nt) {t : TypeId} {x y z : Operand} {X Y Z : Arg} {kt el : TypeId} {s : Bool} {v : Value} (h1 : Wv x = some X) (h2 : Wv y = some Y) (h3 : Wv z = some Z) (hu : P.underlying t = some (.map kt el)) (hk : keyT P kt = some s)
    (hr : (SO.mput s X Y Z).run e h = some (v,h')) : Did E h w (((do Instr.mapUpdate t (a.eval x) (a.eval y) (a.eval z); pure .skip : Sem Next)).run P w) v h' := by
  have hkd : ∃ dd,P.underlying kt = some dd := by rcases Jj hk with ⟨_,k,q⟩ | ⟨_,q⟩ <;> exact ⟨_,q⟩
  obtain ⟨dd,hdd⟩ := hkd
  simp only [SO.run] at hr
  split at hr
  · rename_i id kv vv h4 h5 h6
    split at hr
    · rename_i es hg
      cases hkey : Js s kv with
      | false => rw [hkey] at hr; simp at hr
      | true =>
        rw [hkey] at hr
        simp only [cond_true] at hr
        obtain ⟨es2,hput,hq⟩ := Xr hr
        simp only [Prod.mk.injEq] at hq
        obtain ⟨rfl,rfl⟩ := hq
        obtain ⟨en,he,hm,hap⟩ := VR_map (Wx R h1 h4)
        obtain ⟨_,_,es',clock,hb,hes⟩ := R.wr.obj id en _ he hg
        have hy := VR_key hkey (Wx R h2 h5)
        have hv := Wx R h3 h6
        obtain ⟨r',hf,hm2⟩ := put_ok (P := P) hk hdd hkey hv clock es es'.toList 0 es2 hes hput
        rw [run_u]
        cases r' with
        | none =>
          simp only at hm2
          obtain ⟨w2,s2⟩ := map_put (c2 := clock + 1) (ents2 := es'.push { key := kv,val := a.eval z,born := clock }) R.wr he hm hg hb (by simpa using hm2)
          refine did_unit ?_ w2 s2
          rw [hap,hy]
          unfold Instr.mapUpdate
          simp [Wq hu,Zy hb,Zc hk,Zl hdd hf,Vm _ hb]
        | some ju =>
          obtain ⟨j,u⟩ := ju
          simp only at hm2
          obtain ⟨_,⟨e2,he2,hek⟩,hm3⟩ := hm2
          simp only [Nat.sub_zero] at he2 hm3
          obtain ⟨w2,s2⟩ := map_put (c2 := clock) (ents2 := es'.modify j fun e => { e with key := kv,val := a.eval z }) R.wr he hm hg hb (by simpa using hm3)
          refine did_unit ?_ w2 s2
          rw [hap,hy]
          have hkk : (((es'[j]?).map (·.key)).getD kv) = kv := by
            have : es'[j]? = some e2 := by rw [← Array.getElem?_toList]; exact he2
            rw [this]; simp [hek]
          unfold Instr.mapUpdate
          simp only [Sem.run_bind,Wq hu,Result.andThen_ok,Zy hb,Zc hk,Zl hdd hf,hkk]
          unfold Instr.keyThatStays
          simp only [sameBits_key hkey,if_true,Sem.run_pure,Result.andThen_ok,Vm _ hb]
    · cases hr
  · cases hr
/-! ### Builtins -/
theorem builtin_run {c : Call} {b : Builtin} (hc : c.callee = .builtin b) : (execOp a.eval ⟨d,.call c,ty,p,af,g⟩).run P w = (builtin b c.argTypes ty (c.args.map fun | .const _ => true | _ => false) (c.args.map a.eval)).run P w := by
  simp only [execOp,Sem.run_bind]
  unfold resolve
  simp only [hc,Sem.run_pure,Result.andThen_ok]
  rfl
theorem Qu {α : Type} {xs : Array α} {x y : α} (h : xs.toList = [x,y]) : xs = #[x,y] := by
  apply Array.ext'; rw [h]
theorem Uh {α : Type} {xs : Array α} {x : α} (h : xs.toList = [x]) : xs = #[x] := by
  apply Array.ext'; rw [h]
theorem map_one {α β : Type} {f : α → β} {xs : Array α} {x : α} (h : xs = #[x]) : xs.map f = #[f x] := by subst h; simp
theorem Kr {α β : Type} {f : α → β} {xs : Array α} {x y : α} (h : xs = #[x,y]) : xs.map f = #[f x,f y] := by subst h; simp
theorem Ja {xs : List Operand} {X : Arg} (h : Yd xs = some [X]) : ∃ x,xs = [x] ∧ Wv x = some X := by
  match xs with
  | [] => simp [Yd] at h
  | x :: r =>
    simp only [Yd] at h
    cases h1 : Wv x with
    | none => rw [h1] at h; simp at h
    | some X2 =>
      cases h2 : Yd r with
      | none => rw [h1,h2] at h; simp at h
      | some R2 =>
        rw [h1,h2] at h
        simp at h
        obtain ⟨rfl,rfl⟩ := h
        match r with
        | [] => exact ⟨x,rfl,h1⟩
        | y :: r2 => simp only [Yd] at h2; split at h2 <;> simp at h2
theorem Qi {xs : List Operand} {X Y : Arg} (h : Yd xs = some [X,Y]) : ∃ x y,xs = [x,y] ∧ Wv x = some X ∧ Wv y = some Y := by
  match xs with
  | [] => simp [Yd] at h
  | x :: r =>
    simp only [Yd] at h
    cases h1 : Wv x with
    | none => rw [h1] at h; simp at h
    | some X2 =>
      cases h2 : Yd r with
      | none => rw [h1,h2] at h; simp at h
      | some R2 =>
        rw [h1,h2] at h
        simp at h
        obtain ⟨rfl,rfl⟩ := h
        obtain ⟨y,rfl,hy⟩ := Ja h2
        exact ⟨x,y,rfl,h1,hy⟩
theorem Jq {E : Emb} {ad : Option Addr} {l c : Nat} {u : Value} (h : VR E (.slice ad l c) u) : ∃ ad' c',u = .slice ad' l c' ∧ (ad = none → ad' = none ∧ l = 0) := by
  cases h with
  | snil => exact ⟨none,0,rfl,fun _ => ⟨rfl,rfl⟩⟩
  | sl _ _ _ _ en a' cap' he hm hle hcap hbd ha => exact ⟨some a',cap',rfl,fun q => by cases q⟩
theorem appZ_eq {t u elem : TypeId} {k : IntKind} {size bytes : Nat} {n : Int} {base : Option Addr} {sLen sCap : Nat} (ht : P.underlying t = some (.slice elem)) (hu : P.underlying u = some (.int k)) (hs : Zs P elem = some size)
    (hb : byOf P elem = some bytes) (h0 : 0 ≤ n) (h1 : n ≤ 1099511627776) (h2 : n * bytes ≤ 1099511627776) :
    (Builtin.append_ #[t,u] ty #[.slice base sLen sCap,.int .i64 n]).run P w = (Qj P elem size true base (.slice base sLen sCap) (.int .i64 n) sLen sCap n.toNat (if n.toNat * size = 0 then pure #[] else do pure (Builtin.zeroCells (← zeroValue elem).cells n.toNat))).run P w := by
  have e0 : (#[t,u] : Array TypeId)[0]? = some t := rfl
  have e1 : (#[t,u] : Array TypeId)[1]? = some u := rfl
  have e2 : (#[.slice base sLen sCap,.int .i64 n] : Array Value)[0]? = some (.slice base sLen sCap) := rfl
  have e3 : (#[.slice base sLen sCap,.int .i64 n] : Array Value)[1]? = some (.int .i64 n) := rfl
  have wn : IntKind.i64.wrap n = n := by
    simp only [IntKind.wrap,IntKind.bits,IntKind.signed]
    have : n % (2 ^ 64) = n := Int.emod_eq_of_lt h0 (by omega)
    simp [this]; omega
  obtain ⟨ti,hti,htb⟩ := Uc hb w
  have c1 : ¬ (n < 0) := by omega
  have c2 : ¬ (n * (ti.bytes : Int) > 2 ^ 48) := by rw [htb]; omega
  unfold Builtin.append_
  simp only [e0,e1,e2,e3]
  simp only [Sem.run_bind,Wq ht,Result.andThen_ok,Xv hs,Wq hu,Sem.run_pure]
  simp only [if_true,Sem.run_bind,asInt,asIntOf,Sem.run_pure,Result.andThen_ok,wn,c1,if_false,hti,c2,Bool.not_true,Bool.false_eq_true]
  unfold Qj
  simp only [if_true,true_or,and_true]
  rfl
theorem ok_builtin (R : Rel E e h a w nt) {c : Call} {b : Builtin} {Xs : List Arg} {so : SO} {v : Value} (hcal : c.callee = .builtin b) (hargs : Yd c.args.toList = some Xs) (hc : Zn P b c.argTypes.toList Xs = some so) (hr : so.run e h = some (v,h')) :
    Did E h w ((execOp a.eval ⟨d,.call c,ty,p,af,g⟩).run P w) v h' := by
  rw [builtin_run hcal]
  obtain ⟨ts,hts⟩ : ∃ ts,ts = c.argTypes.toList := ⟨_,rfl⟩
  rw [← hts] at hc
  unfold Zn at hc
  split at hc
  · -- len
    rename_i t X
    obtain ⟨x,hx,hxX⟩ := Ja hargs
    have eA := Uh hx
    have eT := Uh hts.symm
    have eM := map_one (f := a.eval) eA
    have run : ∀ u : Value,(Builtin.len_ #[t] ty #[a.eval x]).run P w = .ok u w → (builtin .len c.argTypes ty (c.args.map fun | .const _ => true | _ => false) (c.args.map a.eval)).run P w = .ok (.value u) w := by
      intro u hu
      rw [eM,eT]
      show ((do pure (.value (← Builtin.len_ #[t] ty #[a.eval x])) : Sem Next)).run P w = _
      rw [Xw,hu]; rfl
    split at hc
    · rename_i hu
      simp only [Option.some.injEq] at hc; subst hc
      simp only [SO.run] at hr
      split at hr
      · rename_i s h1
        simp only [Option.some.injEq,Prod.mk.injEq] at hr
        obtain ⟨rfl,rfl⟩ := hr
        refine Did.quiet R.wr (run (.int .i64 s.size) ?_) (.int _ _)
        rw [VR_str (Wx R hxX h1)]
        simp [Builtin.len_,Wq hu,goInt]
      · cases hr
    · rename_i el hu
      simp only [Option.some.injEq] at hc; subst hc
      simp only [SO.run] at hr
      split at hr
      · rename_i ad n cp h1
        simp only [Option.some.injEq,Prod.mk.injEq] at hr
        obtain ⟨rfl,rfl⟩ := hr
        obtain ⟨ad',c',hap,_⟩ := Jq (Wx R hxX h1)
        refine Did.quiet R.wr (run (.int .i64 n) ?_) (.int _ _)
        rw [hap]
        simp [Builtin.len_,Wq hu,goInt]
      · cases hr
    · rename_i kt el hu
      simp only [Option.some.injEq] at hc; subst hc
      simp only [SO.run] at hr
      split at hr
      · rename_i h1
        simp only [Option.some.injEq,Prod.mk.injEq] at hr
        obtain ⟨rfl,rfl⟩ := hr
        have hxx := Wx R hxX h1
        have hap : a.eval x = .map none := by cases hap : a.eval x <;> rw [hap] at hxx <;> cases hxx; rfl
        refine Did.quiet R.wr (run (.int .i64 0) ?_) (.int _ _)
        rw [hap]
        simp [Builtin.len_,Wq hu,goInt]
      · rename_i id h1
        split at hr
        · rename_i es hg
          simp only [Option.some.injEq,Prod.mk.injEq] at hr
          obtain ⟨rfl,rfl⟩ := hr
          obtain ⟨en,he,hm,hap⟩ := VR_map (Wx R hxX h1)
          obtain ⟨_,_,es',clock,hb,hes⟩ := R.wr.obj id en _ he hg
          refine Did.quiet R.wr (run (.int .i64 es.length) ?_) (.int _ _)
          rw [hap]
          have := EsR.length hes
          simp [Builtin.len_,Wq hu,goInt,Zy hb,this]
        · cases hr
      · cases hr
    · cases hc
  · -- cap
    rename_i t X
    obtain ⟨x,hx,hxX⟩ := Ja hargs
    have eA := Uh hx
    have eT := Uh hts.symm
    have eM := map_one (f := a.eval) eA
    split at hc
    · rename_i el hu
      simp only [Option.some.injEq] at hc; subst hc
      simp only [SO.run] at hr
      split at hr
      · rename_i ad n h1
        simp only [Option.some.injEq,Prod.mk.injEq] at hr
        obtain ⟨rfl,rfl⟩ := hr
        have hxx := Wx R hxX h1
        refine Did.quiet R.wr (v' := .int .i64 0) ?_ (.int _ _)
        rw [eM,eT]
        show ((do pure (.value (← Builtin.cap_ #[t] ty #[a.eval x])) : Sem Next)).run P w = _
        rw [Xw]
        have : ∃ ad' l,a.eval x = .slice ad' l 0 := by
          generalize a.eval x = y at hxx
          cases hxx with
          | snil => exact ⟨_,_,rfl⟩
          | sl _ _ _ _ en a' cap' he hm hle hcap hbd ha => have := hcap rfl; subst this; exact ⟨_,_,rfl⟩
        obtain ⟨ad',l,hap⟩ := this
        rw [hap]
        simp [Builtin.cap_,Wq hu,goInt]
      · rename_i id off n c _ h1
        cases hcb : c.ble 1 with
        | true => rw [hcb] at hr; cases hr
        | false =>
          rw [hcb] at hr
          simp only [cond_false] at hr
          split at hr
          · rename_i vs ez hg
            cases hz : ez.beq 0 with
            | true => rw [hz] at hr; cases hr
            | false =>
              rw [hz] at hr
              simp only [cond_false,Option.some.injEq,Prod.mk.injEq] at hr
              obtain ⟨rfl,rfl⟩ := hr
              have hxx := Wx R hxX h1
              have hc2 : 2 ≤ c := by
                have : ¬ c ≤ 1 := fun q => by rw [Nat.ble_eq_true_of_le q] at hcb; cases hcb
                omega
              have hz0 : ez ≠ 0 := by rw [Ww] at hz; simpa using hz
              have : ∃ ad',a.eval x = .slice ad' n ((c - 2 - off) / ez) := by
                generalize a.eval x = y at hxx
                cases hxx with
                | sl _ _ _ _ en a' cap' he hm hle hcap hbd ha =>
                  obtain ⟨_,o2,o3,_⟩ := R.wr.obj id en _ he hg
                  obtain ⟨_,_,b3⟩ := hbd o3 (by rw [o2]; exact hz0)
                  have b4 := b3 hc2
                  rw [o2] at b4
                  have : c - 2 - off = cap' * ez := by omega
                  rw [this,Nat.mul_div_cancel _ (by omega)]
                  exact ⟨_,rfl⟩
              obtain ⟨ad',hap⟩ := this
              refine Did.quiet R.wr (v' := .int .i64 ((c - 2 - off) / ez : Nat)) ?_ (.int _ _)
              rw [eM,eT]
              show ((do pure (.value (← Builtin.cap_ #[t] ty #[a.eval x])) : Sem Next)).run P w = _
              rw [Xw,hap]
              simp [Builtin.cap_,Wq hu,goInt]
          · cases hr
      · cases hr
    · cases hc
  · -- append
    rename_i t u S X
    obtain ⟨s,x,hx,hsS,hxX⟩ := Qi hargs
    have eA := Qu hx
    have eT := Qu hts.symm
    have eM := Kr (f := a.eval) eA
    have run : (builtin .append c.argTypes ty (c.args.map fun | .const _ => true | _ => false) (c.args.map a.eval)).run P w = ((Builtin.append_ #[t,u] ty #[a.eval s,a.eval x]).run P w).andThen fun a w1 => .ok (.value a) w1 := by
      rw [eM,eT]
      show ((do pure (.value (← Builtin.append_ #[t,u] ty #[a.eval s,a.eval x])) : Sem Next)).run P w = _
      rw [Xw]
    rw [run]
    split at hc
    · rename_i el k ht' hu'
      split at hc
      · rename_i n b z hs hb hz
        cases hzl : z.cells.toList.length.beq n with
        | false => rw [hzl] at hc; simp at hc
        | true =>
          rw [hzl] at hc
          simp only [cond_true,Option.some.injEq] at hc; subst hc
          have hzn : z.cells.toList.length = n := by simpa [Ww] using hzl
          simp only [SO.run] at hr
          split at hr
          · rename_i sv m h1 h2
            split at hr
            · rename_i hcond
              obtain ⟨q0,q1,q2⟩ := hcond
              have hsv := Wx R hsS h1
              have hxm := Vp (Wx R hxX h2)
              have hsl : ∃ bs l cc,a.eval s = .slice bs l cc := by
                generalize a.eval s = y at hsv
                unfold appL at hr
                split at hr
                · obtain ⟨_,_,q,_⟩ := Jq hsv; exact ⟨_,_,_,q⟩
                · cases hr
              obtain ⟨bs,sl,sc,hap⟩ := hsl
              rw [hap] at hsv ⊢
              rw [hxm,appZ_eq ht' hu' hs hb q0 q1 q2]
              have zr : ∀ w' : World,((if m.toNat * n = 0 then pure #[] else do pure (Builtin.zeroCells (← zeroValue el).cells m.toNat) : Sem (Array Value))).run P w' = .ok ⟨Xt z.cells.toList m.toNat⟩ w' := by
                intro w'
                obtain ⟨hzr,_⟩ := Yf (P := P) hz w'
                by_cases q : m.toNat * n = 0
                · rw [if_pos q]
                  have : (Xt z.cells.toList m.toNat) = [] := List.length_eq_zero_iff.1 (by rw [Zd,hzn]; exact q)
                  rw [this]; rfl
                · rw [if_neg q]
                  simp only [Sem.run_bind,hzr,Result.andThen_ok,Sem.run_pure,Kg]
              obtain ⟨_,hf,_,_⟩ := Yf (P := P) hz w
              obtain ⟨v',E',w',g1,g2,g3,g4⟩ := appL_ok (P := P) (zs := true) (x' := .int .i64 m) R.wr hz hzn hb hsv hr (zr w) (Qa hf _) (zr _) (Qa hf _) (fun q => by rw [q]; rfl)
              exact Xq g1 g2 g3 g4
            · cases hr
          · cases hr
      · cases hc
    · rename_i el dd hnotint ht' hu'
      split at hc
      · rename_i n b z hs hb hz
        cases hzl : z.cells.toList.length.beq n with
        | false => rw [hzl] at hc; simp at hc
        | true =>
          rw [hzl] at hc
          simp only [cond_true,Option.some.injEq] at hc; subst hc
          have hzn : z.cells.toList.length = n := by simpa [Ww] using hzl
          simp only [SO.run] at hr
          split at hr
          · rename_i sv xv h1 h2
            split at hr
            · rename_i m hm
              split at hr
              · rename_i xs hxs
                have hsv := Wx R hsS h1
                have hxv := Wx R hxX h2
                have hsl : ∃ bs l cc,a.eval s = .slice bs l cc := by
                  generalize a.eval s = y at hsv
                  unfold appL at hr
                  split at hr
                  · obtain ⟨_,_,q,_⟩ := Jq hsv; exact ⟨_,_,_,q⟩
                  · cases hr
                obtain ⟨bs,sl,sc,hap⟩ := hsl
                rw [hap] at hsv ⊢
                rw [append_eq ht' hu' (fun k q => hnotint k (by rw [q])) hs (lenOf_ok hxv hm)]
                have hle : ∀ q,Qv xv = some q → m ≤ q := fun q hq => by rw [hm] at hq; cases hq; exact Nat.le_refl _
                obtain ⟨l0,r0,v0⟩ := Je (P := P) R.wr hxv hxs hle
                obtain ⟨l1,r1,v1⟩ := Je (P := P) (R.wr.of_heap (w' := { w with drawn := w.drawn + 1 }) rfl) hxv hxs hle
                obtain ⟨v',E',w',g1,g2,g3,g4⟩ := appL_ok (P := P) (zs := false) (x' := a.eval x) R.wr hz hzn hb hsv hr r0 v0 r1 v1 (fun q => by
                  subst q
                  unfold Zk at hxs
                  split at hxs <;> simp at hxs <;> first | exact hxs | exact hxs.symm)
                exact Xq g1 g2 g3 g4
              · cases hr
            · cases hr
          · cases hr
      · cases hc
    · cases hc
  · -- copy
    rename_i t u D S
    obtain ⟨dd,s,hx,hdD,hsS⟩ := Qi hargs
    have eA := Qu hx
    have eT := Qu hts.symm
    have eM := Kr (f := a.eval) eA
    split at hc
    · rename_i el hu
      split at hc
      · rename_i n hs
        simp only [Option.some.injEq] at hc; subst hc
        rw [eM,eT]
        show Did E h w (((do pure (.value (← Builtin.copy_ #[t,u] ty #[a.eval dd,a.eval s])) : Sem Next)).run P w) v h'
        rw [Xw]
        simp only [SO.run] at hr
        split at hr
        · rename_i da dn dc sv h1 h2
          have hdv := Wx R hdD h1
          have hsv := Wx R hsS h2
          obtain ⟨da',dc',hap,hnil⟩ := Jq hdv
          split at hr
          · rename_i sn hsn
            have cred : ∀ (cells : Array Value) (w' : World),(Builtin.firstCells n (min sn dn) (a.eval s)).run P w = .ok cells w → (match da' with | some ad => (storeCells ad cells.toList).run P w | none => .ok () w) = .ok () w' →
                (Builtin.copy_ #[t,u] ty #[a.eval dd,a.eval s]).run P w = .ok (.int .i64 (min sn dn : Nat)) w' := by
              intro cells w' hc1 hc2
              have e0 : (#[t,u] : Array TypeId)[0]? = some t := rfl
              have e2 : (#[a.eval dd,a.eval s] : Array Value)[0]? = some (a.eval dd) := rfl
              have e3 : (#[a.eval dd,a.eval s] : Array Value)[1]? = some (a.eval s) := rfl
              unfold Builtin.copy_
              simp only [e0,e2,e3]
              rw [hap]
              simp only [Sem.run_bind,Wq hu,Result.andThen_ok,lenOf_ok hsv hsn,Xv hs]
              have : Nat.min sn dn = min sn dn := rfl
              rw [this,hc1]
              simp only [Result.andThen_ok]
              cases da' with
              | none => simp only at hc2; cases hc2; simp [goInt]
              | some ad => simp only at hc2; simp [hc2,goInt]
            by_cases h0 : min sn dn = 0
            · have hb : (min sn dn).beq 0 = true := by rw [Ww]; simp [h0]
              rw [hb] at hr
              simp only [cond_true,Option.some.injEq,Prod.mk.injEq] at hr
              obtain ⟨rfl,rfl⟩ := hr
              have hf0 : ∃ l,Zk h n 0 sv = some l ∧ l = [] := by
                unfold Qv at hsn
                split at hsn
                · rename_i ad0 _ _
                  cases ad0 with
                  | none => exact ⟨[],rfl,rfl⟩
                  | some ad1 =>
                    obtain ⟨i1,o1,s1⟩ := ad1
                    cases s1 with
                    | none => exact ⟨[],rfl,rfl⟩
                    | some _ => cases hsv
                · exact ⟨[],by simp [Zk,Xu],rfl⟩
                · cases hsn
              obtain ⟨l,hl,rfl⟩ := hf0
              obtain ⟨l',r1,v1⟩ := Je (P := P) R.wr hsv hl (fun _ _ => Nat.zero_le _)
              cases v1
              refine Xq (v' := .int .i64 0) ?_ (.int _ _) R.wr (Stp.refl _ _ _)
              have := cred ⟨[]⟩ w (by rw [h0]; exact r1) (by cases da' <;> rfl)
              rw [this,h0]; rfl
            · have hb : (min sn dn).beq 0 = false := by rw [Ww]; simp [h0]
              rw [hb] at hr
              simp only [cond_false] at hr
              split at hr
              · rename_i id off l hl
                obtain ⟨h2',hwr,hq⟩ := Xr hr
                simp only [Prod.mk.injEq] at hq
                obtain ⟨rfl,rfl⟩ := hq
                obtain ⟨l',r1,v1⟩ := Je (P := P) R.wr hsv hl (fun q hq => by rw [hsn] at hq; cases hq; exact Nat.min_le_left _ _)
                rw [hap] at hdv
                cases hdv with
                | sl _ _ _ _ en a' cap' he hm hle hcap hbd ha =>
                  obtain ⟨w',g1,g2,g3⟩ := wr_ok (P := P) R.wr he v1 hwr
                  have hdn : dn ≠ 0 := by intro q; subst q; simp at h0
                  refine Xq (v' := .int .i64 (min sn dn : Nat)) ?_ (.int _ _) g2 g3
                  exact cred ⟨l'⟩ w' r1 (by rw [ha (by omega)]; exact g1)
              · cases hr
          · cases hr
        · cases hr
      · cases hc
    · cases hc
  · -- clear
    rename_i t X
    obtain ⟨x,hx,hxX⟩ := Ja hargs
    have eA := Uh hx
    have eT := Uh hts.symm
    have eM := map_one (f := a.eval) eA
    split at hc
    · rename_i el hu
      split at hc
      · rename_i n z hs hz
        simp only [Option.some.injEq] at hc; subst hc
        rw [eM,eT]
        show Did E h w (((do pure (.value (← Builtin.clear_ #[t] ty #[a.eval x])) : Sem Next)).run P w) v h'
        rw [Xw]
        obtain ⟨hzr,hf,hzc,_⟩ := Yf (P := P) hz w
        have e0 : (#[t] : Array TypeId)[0]? = some t := rfl
        have e2 : (#[a.eval x] : Array Value)[0]? = some (a.eval x) := rfl
        simp only [SO.run] at hr
        split at hr
        · rename_i l c1 h1
          simp only [Option.some.injEq,Prod.mk.injEq] at hr
          obtain ⟨rfl,rfl⟩ := hr
          obtain ⟨ad',c',hap,hn⟩ := Jq (Wx R hxX h1)
          obtain ⟨rfl,rfl⟩ := hn rfl
          refine Xq (v' := Go.undef) ?_ VR.undef R.wr (Stp.refl _ _ _)
          unfold Builtin.clear_
          simp only [e0,e2]
          rw [hap]
          simp [Wq hu,Go.undef]
        · rename_i id off len c1 h1
          have hxx := Wx R hxX h1
          by_cases h0 : len = 0
          · subst h0
            simp only [Nat.beq,cond_true,Option.some.injEq,Prod.mk.injEq] at hr
            obtain ⟨rfl,rfl⟩ := hr
            obtain ⟨ad',c',hap,hn⟩ := Jq hxx
            refine Xq (v' := Go.undef) ?_ VR.undef R.wr (Stp.refl _ _ _)
            unfold Builtin.clear_
            simp only [e0,e2]
            rw [hap]
            cases ad' <;> simp [Wq hu,Go.undef]
          · have hb : len.beq 0 = false := by rw [Ww]; simp [h0]
            rw [hb] at hr
            simp only [cond_false] at hr
            cases hzl : z.cells.toList.length.beq n with
            | false => rw [hzl] at hr; simp at hr
            | true =>
              rw [hzl] at hr
              simp only [cond_true] at hr
              obtain ⟨h2',hwr,hq⟩ := Xr hr
              simp only [Prod.mk.injEq] at hq
              obtain ⟨rfl,rfl⟩ := hq
              obtain ⟨ad',c',hap,_⟩ := Jq hxx
              rw [hap] at hxx
              cases hxx with
              | sl _ _ _ _ en a' cap' he hm hle hcap hbd ha =>
                obtain ⟨w',g1,g2,g3⟩ := wr_ok (P := P) R.wr he (Qa (E := E) hf len) hwr
                refine Xq (v' := Go.undef) ?_ VR.undef g2 g3
                unfold Builtin.clear_
                simp only [e0,e2]
                rw [hap]
                obtain ⟨len2,rfl⟩ : ∃ q,len = q + 1 := ⟨len - 1,by omega⟩
                rw [ha (by omega)]
                simp only [Sem.run_bind,Wq hu,Result.andThen_ok,hzr,Kg,g1]
                rfl
        · cases hr
      · cases hc
    · cases hc
  · -- delete
    rename_i t u M K
    obtain ⟨x,y,hx,hxX,hyY⟩ := Qi hargs
    have eA := Qu hx
    have eT := Qu hts.symm
    have eM := Kr (f := a.eval) eA
    split at hc
    · rename_i kt el hu
      obtain ⟨s,hk,rfl⟩ := Xr hc
      rw [eM,eT]
      show Did E h w (((do pure (.value (← Builtin.delete_ #[t,u] ty #[a.eval x,a.eval y])) : Sem Next)).run P w) v h'
      rw [Xw]
      have e0 : (#[t,u] : Array TypeId)[0]? = some t := rfl
      have e2 : (#[a.eval x,a.eval y] : Array Value)[0]? = some (a.eval x) := rfl
      have e3 : (#[a.eval x,a.eval y] : Array Value)[1]? = some (a.eval y) := rfl
      have hkd : ∃ dd,P.underlying kt = some dd := by rcases Jj hk with ⟨_,k,q⟩ | ⟨_,q⟩ <;> exact ⟨_,q⟩
      obtain ⟨dd,hdd⟩ := hkd
      simp only [SO.run] at hr
      split at hr
      · rename_i kv h1 h2
        simp only [Option.some.injEq,Prod.mk.injEq] at hr
        obtain ⟨rfl,rfl⟩ := hr
        have hxx := Wx R hxX h1
        have hap : a.eval x = .map none := by cases hap : a.eval x <;> rw [hap] at hxx <;> cases hxx; rfl
        refine Xq (v' := Go.undef) ?_ VR.undef R.wr (Stp.refl _ _ _)
        unfold Builtin.delete_
        simp only [e0,e2,e3]
        rw [hap]
        simp [Wq hu,Zc hk,Go.undef]
      · rename_i id kv h1 h2
        split at hr
        · rename_i es hg
          obtain ⟨es2,hdel,hq⟩ := Xr hr
          simp only [Prod.mk.injEq] at hq
          obtain ⟨rfl,rfl⟩ := hq
          obtain ⟨en,he,hm,hap⟩ := VR_map (Wx R hxX h1)
          obtain ⟨_,_,es',clock,hb,hes⟩ := R.wr.obj id en _ he hg
          have hyv := Wx R hyY h2
          have hfind : ∃ r',Instr.findNow dd (a.eval y) es'.toList 0 = some r' ∧ (match r' with | none => EsR E es2 es'.toList | some (j,_) => EsR E es2 (es'.toList.eraseIdx j)) := by
            cases es with
            | nil =>
              simp [delE] at hdel; subst hdel
              cases hes2 : es'.toList with
              | nil => exact ⟨none,rfl,trivial⟩
              | cons _ _ => rw [hes2] at hes; exact hes.elim
            | cons q1 q2 =>
              have hkey : Js s kv = true := by
                obtain ⟨k',v'⟩ := q1
                simp only [delE] at hdel
                cases he : Vr s kv k' with
                | none => rw [he] at hdel; simp at hdel
                | some b => unfold Vr at he; split at he <;> first | rfl | cases he
              rw [VR_key hkey hyv]
              obtain ⟨r',hf,hm2⟩ := del_ok (P := P) hk hdd (q1 :: q2) es'.toList 0 es2 hes hdel
              refine ⟨r',hf,?_⟩
              cases r' with
              | none => exact hm2
              | some ju => exact hm2.2
          obtain ⟨r',hf,hm2⟩ := hfind
          cases r' with
          | none =>
            obtain ⟨w2,s2⟩ := map_put (c2 := clock) (ents2 := es') R.wr he hm hg hb hm2
            refine Xq (v' := Go.undef) ?_ VR.undef w2 s2
            unfold Builtin.delete_
            simp only [e0,e2,e3]
            rw [hap]
            simp only [Sem.run_bind,Wq hu,Result.andThen_ok,Zy hb,Zc hk,Zl hdd hf,Vm _ hb]
            rfl
          | some ju =>
            obtain ⟨j,u'⟩ := ju
            obtain ⟨w2,s2⟩ := map_put (c2 := clock) (ents2 := es'.eraseIdxIfInBounds j) R.wr he hm hg hb (by simpa using hm2)
            refine Xq (v' := Go.undef) ?_ VR.undef w2 s2
            unfold Builtin.delete_
            simp only [e0,e2,e3]
            rw [hap]
            simp only [Sem.run_bind,Wq hu,Result.andThen_ok,Zy hb,Zc hk,Zl hdd hf,Vm _ hb]
            rfl
        · cases hr
      · cases hr
    · cases hc
  · -- max
    rename_i X Y
    obtain ⟨x,y,hx,hxX,hyY⟩ := Qi hargs
    have eA := Qu hx
    have eM := Kr (f := a.eval) eA
    simp only [Option.some.injEq] at hc; subst hc
    rw [eM]
    show Did E h w (((do pure (.value (← Builtin.max_ c.argTypes ty #[a.eval x,a.eval y])) : Sem Next)).run P w) v h'
    rw [Xw]
    simp only [SO.run] at hr
    split at hr
    · rename_i k m k2 n h1 h2
      simp only [Option.some.injEq,Prod.mk.injEq] at hr
      obtain ⟨rfl,rfl⟩ := hr
      rw [Vp (Wx R hxX h1),Vp (Wx R hyY h2)]
      exact Xq (v' := .int k (if n > m then n else m)) rfl (.int _ _) R.wr (Stp.refl _ _ _)
    · cases hr
  · -- min
    rename_i X Y
    obtain ⟨x,y,hx,hxX,hyY⟩ := Qi hargs
    have eA := Qu hx
    have eM := Kr (f := a.eval) eA
    simp only [Option.some.injEq] at hc; subst hc
    rw [eM]
    show Did E h w (((do pure (.value (← Builtin.min_ c.argTypes ty #[a.eval x,a.eval y])) : Sem Next)).run P w) v h'
    rw [Xw]
    simp only [SO.run] at hr
    split at hr
    · rename_i k m k2 n h1 h2
      simp only [Option.some.injEq,Prod.mk.injEq] at hr
      obtain ⟨rfl,rfl⟩ := hr
      rw [Vp (Wx R hxX h1),Vp (Wx R hyY h2)]
      exact Xq (v' := .int k (if n < m then n else m)) rfl (.int _ _) R.wr (Stp.refl _ _ _)
    · cases hr
  · cases hc
end
end Go.Dx
