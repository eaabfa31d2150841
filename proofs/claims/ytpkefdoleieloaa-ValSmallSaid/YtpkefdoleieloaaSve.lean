/- Texts merged: Rk1.lean, Rk2.lean, Rk3.lean, Rk4.lean, Rk5.lean, Rk6.lean. -/
import Derived.Test.YtpkefdoleieloaaSvd
namespace Go.Dx.SYtpkefdoleieloaa
open Go.Proofs
set_option linter.unusedVariables false
set_option linter.unusedSimpArgs false
section
/- The document's checker, as it lies. -/
def Stv (h : Heap) (O : Nat → Prop) (a : Option Addr) (n c : Nat) (l : List Value) : Prop := SlA h 1 a n c l ∧ ∀ i,Blk a i → i < h.next ∧ ¬ O i
theorem Stv.turn {h h' : Heap} {O O' : Nat → Prop} {a : Option Addr} {n c : Nat} {l : List Value} (s : Stv h O a n c l) (t : Turn h h' O O') : Stv h' O' a n c l :=
  ⟨s.1.ext t.ext fun i r => (s.2 i r).2,fun i r => ⟨Nat.lt_of_lt_of_le (s.2 i r).1 t.ext.next,fun q => (t.own i q).elim (s.2 i r).2 fun w => by have := (s.2 i r).1; omega⟩⟩
theorem Stv.ext0 {h h' : Heap} {O : Nat → Prop} {a : Option Addr} {n c : Nat} {l : List Value} (s : Stv h O a n c l) (x : Xk h h') : Stv h' O a n c l :=
  ⟨s.1.ext x,fun i r => ⟨Nat.lt_of_lt_of_le (s.2 i r).1 x.next,(s.2 i r).2⟩⟩
structure M13 where
  m0 : Value
  m1 : Value
  m2 : Value
  m3 : Value
  m4 : Value
  m5 : Value
  m6 : Value
  m7 : Value
  m8 : Value
  m9 : Value
  m10 : Value
  m11 : Value
  m12 : Value
def M13.l (m : M13) : List Value := [m.m0,m.m1,m.m2,m.m3,m.m4,m.m5,m.m6,m.m7,m.m8,m.m9,m.m10,m.m11,m.m12]
structure VR extends VK where
  m : M13
  da : Option Addr
  dc : Nat
  D : List Bool
def VR.cs (K : VR) (x y z : Value) : List Value := [K.m.m0,K.m.m1,K.m.m2,K.m.m3,K.m.m4,K.m.m5,K.m.m6,K.m.m7,K.m.m8,K.m.m9,K.m.m10,K.m.m11,K.m.m12,.slice K.la K.L.length K.lc,.slice K.da K.D.length K.dc,x,y,z]
theorem VR.cs_len (K : VR) (x y z : Value) : (K.cs x y z).length = 18 := rfl
structure RkX (K : VR) (h : Heap) (O : Nat → Prop) (s : VS) (a : Option Addr) (c : Nat) (oa : Option Addr) (oc : Nat) (ms : List BM) : Prop where
  mb : ms.map BM.b = s.op
  g : At h K.p (.cells (K.cs (.slice a s.l.length c) (.slice oa s.op.length oc) (.bool s.bad)) 0 false)
  l : OwS h 1 a s.l.length c (bys s.l)
  o : OwS h 5 oa s.op.length oc (en BM.enc ms)
  own : ∀ i,i = K.p ∨ Blk a i ∨ Blk oa i → O i
  lt : ∀ i,O i → i < h.next
  res : ∀ i,i = K.p ∨ Blk a i ∨ Blk oa i → ¬ K.R i
  rlt : ∀ i,K.R i → i < h.next
  pa : ¬ Blk a K.p
  po : ¬ Blk oa K.p
  ao : ∀ i,Blk a i → ¬ Blk oa i
  st : ∀ m ∈ ms,m.St h O
  loc : Stl h O K.la K.L.length K.lc K.L
  dec : Stv h O K.da K.D.length K.dc (K.D.map Value.bool)
def Rk (K : VR) (h : Heap) (O : Nat → Prop) (s : VS) : Prop := ∃ a c oa oc ms,RkX K h O s a c oa oc ms
def Rg (K : VR) (h : Heap) (O : Nat → Prop) (h' : Heap) (s' : VS) : Prop := ∃ O',Rk K h' O' s' ∧ Tn K.toVK h h' O O'
theorem Rg.trans {K : VR} {h h1 h2 : Heap} {O O1 : Nat → Prop} {s2 : VS} (t : Tn K.toVK h h1 O O1) (g : Rg K h1 O1 h2 s2) : Rg K h O h2 s2 := by
  obtain ⟨O2,c,t2⟩ := g
  exact ⟨O2,c,t.trans t2⟩
theorem RkX.ext0 {K : VR} {h h' : Heap} {O : Nat → Prop} {s : VS} {a : Option Addr} {c : Nat} {oa : Option Addr} {oc : Nat} {ms : List BM} (X : RkX K h O s a c oa oc ms) (x : Xk h h') : RkX K h' O s a c oa oc ms :=
  ⟨X.mb,X.g.ext x,X.l.ext x,X.o.ext x,X.own,fun i q => Nat.lt_of_lt_of_le (X.lt i q) x.next,X.res,fun i q => Nat.lt_of_lt_of_le (X.rlt i q) x.next,X.pa,X.po,X.ao,fun m hm => (X.st m hm).turn (Turn.ext0' x),X.loc.ext0 x,X.dec.ext0 x⟩
section
variable {K : VR} {h : Heap} {O : Nat → Prop} {s : VS} {a : Option Addr} {c : Nat} {oa : Option Addr} {oc : Nat} {ms : List BM}
theorem RkX.len (X : RkX K h O s a c oa oc ms) : ms.length = s.op.length := by rw [← X.mb,List.length_map]
theorem RkX.bad (X : RkX K h O s a c oa oc ms) {h' : Heap} {b : Bool} (x : Ext (· = K.p) h h') (g : At h' K.p (.cells (K.cs (.slice a s.l.length c) (.slice oa s.op.length oc) (.bool b)) 0 false)) : RkX K h' O { s with bad := b } a c oa oc ms ∧ Tn K.toVK h h' O O := by
  have t : Turn h h' O O := ⟨x.mono fun i _ q => X.own i (.inl q),fun i q => .inl q⟩
  exact ⟨⟨X.mb,g,X.l.ext x fun i q e => X.pa (e ▸ q),X.o.ext x fun i q e => X.po (e ▸ q),X.own,fun i q => Nat.lt_of_lt_of_le (X.lt i q) x.next,X.res,fun i q => Nat.lt_of_lt_of_le (X.rlt i q) x.next,X.pa,X.po,X.ao,fun m hm => (X.st m hm).turn t,X.loc.turn t,X.dec.turn t⟩,t,fun i q => x.get i (X.rlt i q) fun e => X.res _ (.inl rfl) (e ▸ q),fun i q => q⟩
theorem RkX.setL (X : RkX K h O s a c oa oc ms) {h1 h2 : Heap} {l' : List Nat} {a' : Option Addr} {c' : Nat} (x1 : Ext (Blk a) h h1) (o1 : OwS h1 1 a' l'.length c' (bys l')) (b1 : ∀ i,Blk a' i → Blk a i ∨ h.next ≤ i)
    (x2 : Ext (· = K.p) h1 h2) (g : At h2 K.p (.cells (K.cs (.slice a' l'.length c') (.slice oa s.op.length oc) (.bool s.bad)) 0 false)) : Rg K h O h2 { s with l := l' } := by
  have pl := X.g.lt
  have hpa : ¬ Blk a' K.p := fun q => (b1 _ q).elim X.pa fun w => by omega
  have x : Ext O h h2 := (x1.mono fun i _ q => X.own i (.inr (.inl q))).then x2 fun i q => .inl (X.own i (.inl q))
  have z1 := x1.next
  have z2 := x2.next
  have t : Turn h h2 O (fun i => O i ∨ Blk a' i) := ⟨x,fun i q => by
    rcases q with q | q
    · exact .inl q
    · exact (b1 i q).imp (fun w => X.own i (.inr (.inl w))) id⟩
  refine ⟨_,⟨a',c',oa,oc,ms,X.mb,g,o1.ext x2 fun i q e => hpa (e ▸ q),?_,?_,?_,?_,fun i q => by have := X.rlt i q; omega,hpa,X.po,fun i q r => (b1 i q).elim (fun w => X.ao i w r) fun w => by have := X.o.lt r; omega,fun m hm => (X.st m hm).turn t,X.loc.turn t,X.dec.turn t⟩,t,fun i q => ?_,fun i q => .inl q⟩
  · exact (X.o.ext x1 fun i q e => X.ao i e q).ext x2 fun i q e => X.po (e ▸ q)
  · rintro i (q | q | q)
    · exact .inl (X.own i (.inl q))
    · exact .inr q
    · exact .inl (X.own i (.inr (.inr q)))
  · rintro i (q | q)
    · have := X.lt i q; omega
    · have := o1.lt q; omega
  · rintro i (q | q | q)
    · exact X.res i (.inl q)
    · exact (b1 i q).elim (fun w => X.res i (.inr (.inl w))) fun w r => by have := X.rlt i r; omega
    · exact X.res i (.inr (.inr q))
  · have := X.rlt i q
    rw [x2.get i (by omega) fun e => X.res _ (.inl rfl) (e ▸ q),x1.get i (by omega) fun e => X.res i (.inr (.inl e)) q]
abbrev VR.more (K : VR) (b : Nat) : VR := { K with R := fun i => K.R i ∨ i = b }
theorem Rk.more (X : Rk K h O s) {h' : Heap} {b : Nat} (x : Xk h h') (h1 : h.next ≤ b) (h2 : b < h'.next) : Rk (K.more b) h' (fun i => O i ∨ i = b) s ∧ Tn K.toVK h h' O (fun i => O i ∨ i = b) := by
  have t : Turn h h' O (fun i => O i ∨ i = b) := ⟨x.of0,fun i q => q.imp id fun e => by omega⟩
  obtain ⟨a,c,oa,oc,ms,X⟩ := X
  refine ⟨⟨a,c,oa,oc,ms,X.mb,X.g.ext x,X.l.ext x,X.o.ext x,fun i q => .inl (X.own i q),fun i q => q.elim (fun q => Nat.lt_of_lt_of_le (X.lt i q) x.next) fun e => by omega,fun i q r => r.elim (X.res i q) fun e => ?_,fun i q => q.elim (fun q => Nat.lt_of_lt_of_le (X.rlt i q) x.next) fun e => by omega,X.pa,X.po,X.ao,fun m hm => (X.st m hm).turn t,X.loc.turn t,X.dec.turn t⟩,t,fun i q => x.get i (X.rlt i q) fun e => e,fun i q => .inl q⟩
  have := X.lt i (X.own i q)
  omega
theorem Rk.less {b : Nat} (X : Rk (K.more b) h O s) : Rk K h O s := by
  obtain ⟨a,c,oa,oc,ms,X⟩ := X
  exact ⟨a,c,oa,oc,ms,X.mb,X.g,X.l,X.o,X.own,X.lt,fun i q r => X.res i q (.inl r),fun i q => X.rlt i (.inl q),X.pa,X.po,X.ao,X.st,X.loc,X.dec⟩
theorem Rk.write {b : Nat} (X : Rk K h O s) (hb : K.R b) (ho : O b) {h' : Heap} (x : Ext (· = b) h h') : Rk K h' O s ∧ Turn h h' O O := by
  have t : Turn h h' O O := ⟨x.mono fun i _ q => q ▸ ho,fun i q => .inl q⟩
  obtain ⟨a,c,oa,oc,ms,X⟩ := X
  exact ⟨⟨a,c,oa,oc,ms,X.mb,X.g.ext x (fun e => X.res _ (.inl rfl) (e ▸ hb)),X.l.ext x fun i q e => X.res i (.inr (.inl q)) (e ▸ hb),X.o.ext x fun i q e => X.res i (.inr (.inr q)) (e ▸ hb),X.own,fun i q => Nat.lt_of_lt_of_le (X.lt i q) x.next,X.res,fun i q => Nat.lt_of_lt_of_le (X.rlt i q) x.next,X.pa,X.po,X.ao,fun m hm => (X.st m hm).turn t,X.loc.turn t,X.dec.turn t⟩,t⟩
theorem Rk.rb (X : Rk K h O s) {i : Nat} (q : K.R i) : i < h.next := by
  obtain ⟨a,c,oa,oc,ms,X⟩ := X
  exact X.rlt i q
theorem C105 {ts : List Nat} {ta : Option Addr} {tn tc : Nat} (X : Rk K h O s) (st : SlA h 1 ta tn tc (bys ts)) (hb : s.l.length ≤ 1000000000) (hb2 : tn ≤ 1000000) :
    Fn Try.prog 105 [ptr K.p,.slice ta tn tc] h fun v h' => Rg K h O h' (s.push ts) := by
  obtain ⟨a,c,oa,oc,ms,X⟩ := X
  have hn : ts.length = tn := by simpa using st.len
  refine fnK F105.fok rfl ?_
  refine Wk (Wa rfl rfl (Wa rfl rfl (Wa rfl rfl (Wa rfl rfl (We (v := .slice a s.l.length c) rfl X.g rfl (Wa rfl rfl ?_))))))
  refine Zf (m := tn) rfl rfl X.l rfl st.first ⟨by omega,by omega⟩ (by simp; omega) (Vy _) (by decide) fun h1 a1 c1 x1 o1 b1 => ?_
  have g1 := X.g.ext x1 X.pa
  refine Wa rfl rfl (Wa rfl rfl (Wm (l := [.slice a1 (s.l.length + tn) c1]) rfl rfl rfl rfl g1 (by rw [VR.cs_len]; decide) rfl fun h2 n2 x2 g2 => ?_))
  refine Wj [] rfl (Wx.mk [] rfl ?_)
  have e : s.l.length + tn = (s.l ++ ts).length := by rw [List.length_append,hn]
  rw [← bys_app,e] at o1
  rw [e] at g2
  exact X.setL x1 o1 b1 x2 g2
theorem RkX.cut {a : Option Addr} {c : Nat} {oa : Option Addr} {oc : Nat} {ms : List BM} (X : RkX K h O s a c oa oc ms) {k : Nat} (hk : k ≤ s.l.length) {h2 : Heap} (x2 : Ext (· = K.p) h h2)
    (g : At h2 K.p (.cells (K.cs (.slice a k c) (.slice oa s.op.length oc) (.bool s.bad)) 0 false)) : Rg K h O h2 { s with l := s.l.take k } := by
  have o1 := X.l.sub (i := 0) (j := k) (Nat.zero_le _) hk
  have e : shift a (0 * 1) = a := by
    cases a with
    | none => rfl
    | some p => simp [shift]
  rw [e] at o1
  have e2 : ((bys s.l).drop (0 * 1)).take ((k - 0) * 1) = bys (s.l.take k) := by simp [bys,List.map_take]
  rw [e2] at o1
  have e3 : k = (s.l.take k).length := by rw [List.length_take]; omega
  have e4 : k - 0 = (s.l.take k).length := by rw [List.length_take]; omega
  rw [e4] at o1
  rw [e3] at g
  refine X.setL (l' := s.l.take k) (Ext.refl _ _) o1 (fun i q => .inl q) x2 ?_
  rw [List.take_eq_take_min] at g ⊢
  exact g
end

end
section
/- The document's checker: last, pop, pops, fits, dead, memory. -/
section
variable {K : VR} {h : Heap} {O : Nat → Prop} {s : VS} {a : Option Addr} {c : Nat} {oa : Option Addr} {oc : Nat} {ms : List BM}
theorem Rg.of {h' : Heap} {s' : VS} (X : RkX K h' O s' a c oa oc ms) (t : Tn K.toVK h h' O O) : Rg K h O h' s' := ⟨O,⟨a,c,oa,oc,ms,X⟩,t⟩
theorem RkX.fails (X : RkX K h O s a c oa oc ms) {h' : Heap} {v b : Bool} (x : Ext (· = K.p) h h') (g : At h' K.p (.cells (K.cs (.slice a s.l.length c) (.slice oa s.op.length oc) (.bool v)) 0 false)) (hv : v = (s.bad || b)) : RkX K h' O (s.fails b) a c oa oc ms ∧ Tn K.toVK h h' O O := by
  subst hv
  exact X.bad x g
theorem RkX.ext0' (X : RkX K h O s a c oa oc ms) {h' : Heap} (x : Xk h h') : Rk K h' O s ∧ Tn K.toVK h h' O O :=
  ⟨⟨_,_,_,_,_,X.ext0 x⟩,Turn.ext0' x,fun i q => x.get i (X.rlt i q) fun e => e,fun i q => q⟩
theorem C153 (X : RkX K h O s a c oa oc ms) (hne : s.op ≠ []) (B : Bd s) : Fn Try.prog 153 [ptr K.p] h fun v h' => ∃ id off vs m,oa = some ⟨id,off,none⟩ ∧ v = .pointer (some ⟨id,off + (s.op.length - 1) * 5,none⟩) ∧ h = h' ∧ At h id (.cells vs 5 false) ∧ off + s.op.length * 5 ≤ vs.length ∧ (vs.drop off).take (s.op.length * 5) = en BM.enc ms ∧
    ms[s.op.length - 1]? = some m ∧ m.b = s.top ∧ m ∈ ms ∧ ∀ r,r < 5 → vs[off + (s.op.length - 1) * 5 + r]? = m.enc[r]? := by
  have hpos : 0 < s.op.length := List.length_pos_iff.2 hne
  rcases X.o.ex with ⟨_,q,_⟩ | ⟨id,off,vs,rfl,go,hl,hw⟩
  · omega
  have hml := X.len
  obtain ⟨m,hm⟩ : ∃ m,ms[s.op.length - 1]? = some m := ⟨ms[s.op.length - 1],List.getElem?_eq_getElem (by omega)⟩
  have hmb : m.b = s.top := by
    have h1 := VS.top_get hne
    have h2 : (ms.map BM.b)[s.op.length - 1]? = some s.top := by rw [X.mb]; exact h1
    rw [List.getElem?_map,hm] at h2
    simpa using h2
  refine fnK F153.fok rfl ?_
  refine Wi (Wa rfl rfl (Wh [(0,_)] rfl (?_)))
  refine Wi (Wa rfl rfl (Wa rfl rfl (Wa rfl rfl (We (v := .slice (some ⟨id,off,none⟩) s.op.length oc) rfl X.g rfl (Wa rfl rfl (Wa rfl rfl (Wa rfl rfl (We (v := .slice (some ⟨id,off,none⟩) s.op.length oc) rfl X.g rfl (Wa rfl rfl ?_)))))))))
  have hb40 := B.2
  refine Wg (w := .int .i64 ((s.op.length - 1 : Nat) : Int)) rfl rfl (by rw [w64 (by omega)]; congr 1; omega) (Yk rfl rfl ⟨by omega,by omega⟩ (Wa rfl rfl (Wh [(2,_)] rfl (?_))))
  refine Xn (Wx.mk _ rfl ⟨id,off,vs,m,rfl,rfl,rfl,go,hl,hw,hm,hmb,List.mem_of_getElem? hm,fun r hr => ?_⟩)
  have := win_at BM.enc_len hw hml (i := s.op.length - 1) (r := r) (by omega) hr
  rw [this]
  rw [List.getElem?_eq_getElem (by omega)] at hm
  cases hm; rfl
theorem getLast_u {l : List Nat} (hl : 0 < l.length) : (bys l)[((l.length - 1 : Nat) : Int).toNat]? = some (.int .u8 ((l.getLastD 0 : Nat) : Int)) := by
  rw [Int.toNat_natCast,List.getElem?_map,List.getLastD_eq_getLast?,List.getLast?_eq_getElem?,List.getElem?_eq_getElem (by omega)]; rfl
theorem shift01 (a : Option Addr) : shift a (0 * 1) = a := by
  cases a with
  | none => rfl
  | some p => simp [shift]
set_option maxHeartbeats 1000000 in
theorem C108 {t : Nat} (X : Rk K h O s) (hne : s.op ≠ []) (w : VS.Wf s) (B : Bd s) : Fn Try.prog 108 [ptr K.p,.int .u8 (t : Int)] h fun v h' => v = .int .u8 ((s.popR t).1 : Int) ∧ Rg K h O h' (s.popR t).2 := by
  obtain ⟨a,c,oa,oc,ms,X⟩ := X
  have hB := B.1
  refine fnK F108.fok rfl ?_
  refine Wi (Wa rfl rfl (Wh [(0,_),(1,_)] rfl (?_)))
  refine Wi (Wa rfl rfl (Wc rfl (C153 X hne B) ?_))
  rintro _ _ ⟨id,off,vs,m,rfl,rfl,rfl,go,hl,hw,hm,hmb,hmm,hcell⟩
  refine Wa rfl rfl (Wh [(0,_),(1,_),(5,_)] rfl (?_))
  have c3 : vs[off + (s.op.length - 1) * 5 + 3]? = some (.int .i64 (s.top.ht : Int)) := by rw [hcell 3 (by decide),← hmb]; rfl
  have c4 : vs[off + (s.op.length - 1) * 5 + 4]? = some (.bool s.top.dead) := by rw [hcell 4 (by decide),← hmb]; rfl
  refine Xd (Wi (Wa rfl rfl (Wa rfl rfl (Wa rfl rfl (We (v := .slice a s.l.length c) rfl X.g rfl (Wa rfl rfl (Wa rfl rfl (Wa rfl rfl (Wa rfl rfl (We (v := .int .i64 (s.top.ht : Int)) rfl go c3 ?_))))))))))
  refine Wg (w := .bool (decide (s.l.length = s.top.ht))) rfl rfl (by congr 1; rw [Bool.eq_iff_iff]; simp; omega) (Wh [(0,_),(1,_),(5,_),(18,_)] rfl (?_))
  unfold VS.popR
  refine Wp rfl (fun hc => ?_) (fun hc => ?_)
  · have he := of_decide_eq_true hc
    simp only [if_pos he]
    refine Xd (Ww (fun e' h' => e' = [(1,.int .u8 (t : Int))] ∧ RkX K h' O (s.fails (!s.top.dead)) a c (some ⟨id,off,none⟩) oc ms ∧ Tn K.toVK h h' O O) ?_ ?_)
    · refine Wk (Wa rfl rfl (Wa rfl rfl (Wa rfl rfl (Wa rfl rfl (We (v := .bool s.bad) rfl X.g rfl (Wa rfl rfl ?_))))))
      cases hb : s.bad with
      | true =>
        refine Wb rfl (Wb rfl (Wb rfl (Wb rfl (Wb rfl (Wa rfl rfl (Wa rfl rfl (Wa rfl rfl (Wm (l := [.bool true]) rfl rfl rfl rfl X.g (by rw [VR.cs_len]; decide) rfl fun h2 n2 x2 g2 => Wj [(1,_)] rfl ?_))))))))
        exact ⟨rfl,X.fails (b := !s.top.dead) x2 g2 (by rw [hb]; rfl)⟩
      | false =>
        refine Wd rfl (Wa rfl rfl (Wd rfl (Wa rfl rfl (Wd rfl (Wa rfl rfl (Wd rfl (We (v := .bool s.top.dead) rfl go c4 (Wd rfl (Wa rfl rfl (Wa rfl rfl (Wa rfl rfl (Wa rfl rfl (Wm (l := [.bool (!s.top.dead)]) rfl rfl rfl rfl X.g (by rw [VR.cs_len]; decide) rfl fun h2 n2 x2 g2 => Wj [(1,_)] rfl ?_)))))))))))))
        exact ⟨rfl,X.fails (b := !s.top.dead) x2 g2 (by rw [hb]; rfl)⟩
    rintro _ h2 ⟨rfl,X2,t2⟩
    refine Xd (Wi (Wa rfl rfl (Wa rfl rfl (Wh [(4,_)] rfl ?_))))
    exact Xo (Wx.mk _ rfl ⟨rfl,Rg.of X2 t2⟩)
  · have he := of_decide_eq_false hc
    simp only [if_neg he]
    have hle := w.le _ (VS.top_mem hne)
    have hpos : 0 < s.l.length := by omega
    refine Wt (Wi (Wa rfl rfl (Wa rfl rfl (Wa rfl rfl (We (v := .slice a s.l.length c) rfl X.g rfl (Wa rfl rfl (Wa rfl rfl (Wa rfl rfl (We (v := .slice a s.l.length c) rfl X.g rfl (Wa rfl rfl ?_))))))))))
    refine Wg (w := .int .i64 ((s.l.length - 1 : Nat) : Int)) rfl rfl (by rw [w64 (by omega)]; congr 1; omega) (Xm rfl rfl X.l.sl ⟨by omega,by omega⟩ (getLast_u hpos) fun p => ?_)
    refine Wa rfl rfl (Wh [(0,_),(1,_),(6,_)] rfl (?_))
    generalize hla : s.l.getLastD 0 = la
    refine Wi (Wa rfl rfl (Wa rfl rfl (Wa rfl rfl (Wa rfl rfl (We (v := .slice a s.l.length c) rfl X.g rfl (Wa rfl rfl (Wa rfl rfl (Wa rfl rfl (We (v := .slice a s.l.length c) rfl X.g rfl (Wa rfl rfl ?_))))))))))
    refine Wg (w := .int .i64 ((s.l.length - 1 : Nat) : Int)) rfl rfl (by rw [w64 (by omega)]; congr 1; omega) (Zr rfl rfl rfl X.l.sl.ok (Yy (by omega)) ?_)
    rw [shift01,Nat.sub_zero]
    refine Wa rfl rfl (Wa rfl rfl (Wm (l := [.slice a (s.l.length - 1) c]) rfl rfl rfl rfl X.g (by rw [VR.cs_len]; decide) rfl fun h2 n2 x2 g2 => ?_))
    refine Wh [(0,_),(1,_),(6,_)] rfl (?_)
    have X2 := X.cut (k := s.l.length - 1) (by omega) x2 g2
    rw [← List.dropLast_eq_take] at X2
    obtain ⟨O2,⟨a2,c2,oa2,oc2,ms2,X2⟩,t2⟩ := X2
    refine Xd (Wi (Wa rfl rfl (Wg (w := .bool (decide (la = 0))) rfl rfl (by congr 1; rw [Bool.eq_iff_iff]; simp) (Wh [(0,_),(1,_),(6,_),(61,_)] rfl ?_))))
    refine Wp rfl (fun hc => ?_) (fun hc => ?_)
    · have hz := of_decide_eq_true hc
      simp only [if_pos hz]
      refine Xd (Wi (Wa rfl rfl (Wa rfl rfl (Wh [(4,_)] rfl ?_))))
      exact Xo (Wx.mk _ rfl ⟨rfl,O2,⟨a2,c2,oa2,oc2,ms2,X2⟩,t2⟩)
    · have hz := of_decide_eq_false hc
      simp only [if_neg hz]
      generalize hs2 : ({ s with l := s.l.dropLast } : VS) = s2 at X2
      refine Wt (Ww (fun e' h' => e' = [(6,.int .u8 (la : Int))] ∧ RkX K h' O2 (s2.fails (decide (t ≠ 0 ∧ la ≠ t))) a2 c2 oa2 oc2 ms2 ∧ Tn K.toVK h2 h' O2 O2) ?_ ?_)
      · refine Wk (Wa rfl rfl (Wa rfl rfl (Wa rfl rfl (Wa rfl rfl (We (v := .bool s2.bad) rfl X2.g rfl (Wa rfl rfl ?_))))))
        cases hb : s2.bad with
        | true =>
          refine Wb rfl (Wb rfl (Wb rfl (Wb rfl (Wb rfl (Wb rfl (Wb rfl (Wa rfl rfl (Wa rfl rfl (Wa rfl rfl (Wm (l := [.bool true]) rfl rfl rfl rfl X2.g (by rw [VR.cs_len]; decide) rfl fun h3 n3 x3 g3 => Wj [(6,_)] rfl ?_))))))))))
          exact ⟨rfl,X2.fails (b := decide (t ≠ 0 ∧ la ≠ t)) x3 g3 (by rw [hb]; rfl)⟩
        | false =>
          refine Wd rfl (Wa rfl rfl (Wd rfl (Wg (w := .bool (decide (t ≠ 0))) rfl rfl (by congr 1; rw [Bool.eq_iff_iff]; simp) (Wd rfl (Wa rfl rfl ?_)))))
          by_cases ct : t ≠ 0
          · rw [show decide (t ≠ 0) = true from decide_eq_true ct]
            refine Wd rfl (Wa rfl rfl (Wd rfl (Wa rfl rfl (Wd rfl (Wg (w := .bool (decide (la ≠ t))) rfl rfl (by congr 1; rw [Bool.eq_iff_iff]; simp; omega) (Wd rfl (Wa rfl rfl (Wa rfl rfl (Wa rfl rfl (Wa rfl rfl (Wm (l := [.bool (decide (la ≠ t))]) rfl rfl rfl rfl X2.g (by rw [VR.cs_len]; decide) rfl fun h3 n3 x3 g3 => Wj [(6,_)] rfl ?_)))))))))))
            have := X2.fails (b := decide (t ≠ 0 ∧ la ≠ t)) x3 g3 (by rw [hb]; simp [ct])
            exact ⟨rfl,this⟩
          · rw [show decide (t ≠ 0) = false from decide_eq_false ct]
            refine Wb rfl (Wb rfl (Wb rfl (Wd rfl (Wa rfl rfl (Wa rfl rfl (Wa rfl rfl (Wa rfl rfl (Wm (l := [.bool false]) rfl rfl rfl rfl X2.g (by rw [VR.cs_len]; decide) rfl fun h3 n3 x3 g3 => Wj [(6,_)] rfl ?_))))))))
            have := X2.fails (b := decide (t ≠ 0 ∧ la ≠ t)) x3 g3 (by rw [hb]; simp [ct])
            exact ⟨rfl,this⟩
      rintro _ h3 ⟨rfl,X3,t3⟩
      refine Wi (Wa rfl rfl (Wa rfl rfl (Wh [(4,_)] rfl ?_)))
      refine Xn (Wx.mk _ rfl ⟨rfl,O2,⟨a2,c2,oa2,oc2,ms2,?_⟩,t2.trans t3⟩)
      subst hs2
      exact X3
end

end
section
/- The document's checker: pops, enter, dead, leave. -/
theorem VS.popsR_kp (ts : List Nat) (s : VS) : VS.Kp s (s.popsR ts) := by rw [VS.popsR_eq]; exact VS.take_kp ts s
theorem VS.popsR_gr (ts : List Nat) (s : VS) : VS.Gr 0 s (s.popsR ts) := by rw [VS.popsR_eq]; exact VS.take_gr ts s
theorem VS.popR_kp (t : Nat) (s : VS) : VS.Kp s (s.popR t).2 := by rw [VS.popR_2]; exact VS.want_kp t s
theorem VS.popR_gr (t : Nat) (s : VS) : VS.Gr 0 s (s.popR t).2 := by rw [VS.popR_2]; exact VS.want_gr t s
theorem VS.popsR_cons (t : Nat) (suf : List Nat) (s : VS) : s.popsR (t :: suf) = ((s.popsR suf).popR t).2 := by
  rw [VS.popsR_eq,VS.popsR_eq,VS.popR_2,take_cons]
section
variable {K : VR} {h : Heap} {O : Nat → Prop} {s : VS} {M : Mo} {mc : List Value}
theorem C109 {ts : List Nat} {ta : Option Addr} {tn tc : Nat} (X : Rk K h O s) (st : Stl h O ta tn tc ts) (hne : s.op ≠ []) (w : VS.Wf s) (B : Bd s) (hb : tn ≤ 1000000) :
    Fn Try.prog 109 [ptr K.p,.slice ta tn tc] h fun v h' => Rg K h O h' (s.popsR ts) := by
  have hn := st.len
  refine fnK F109.fok rfl ?_
  refine Wi (Wa rfl rfl (Wa rfl rfl (Wg (w := .int .i64 ((tn : Int) - 1)) rfl rfl (by rw [w64 (by omega)]) (Wa rfl rfl (Wh [(0,_),(1,_),(4,_)] rfl (?_))))))
  refine Yw ?_
  refine Ym (fun k e h' => ∃ (j : Nat) (O1 : Nat → Prop),e = [(0,ptr K.p),(1,.slice ta tn tc),(4,.int .i64 ((j : Int) - 1))] ∧ j ≤ tn ∧ k = j ∧ Rk K h' O1 (s.popsR (ts.drop j)) ∧ Tn K.toVK h h' O O1) ?_ (k := tn) ⟨tn,O,rfl,Nat.le_refl _,rfl,by rw [← hn,List.drop_length]; exact X,Tn.refl _ _ _⟩
  rintro j e h2 ⟨_,O1,rfl,hj,rfl,X2,t2⟩
  refine Xd (Wi (Wa rfl rfl (Wa rfl rfl (Wh [(0,_),(1,_),(4,_),(9,_)] rfl (?_)))))
  refine Wp rfl (fun hc => ?_) (fun hc => ?_)
  · have hj0 : 0 < j := by have := of_decide_eq_true hc; omega
    obtain ⟨i,rfl⟩ : ∃ i,j = i + 1 := ⟨j - 1,by omega⟩
    have hi : i < ts.length := by omega
    have kp := VS.popsR_kp (ts.drop (i + 1)) s
    have st2 := st.turn t2.t
    have eI : ((i + 1 : Nat) : Int) - 1 = (i : Int) := by omega
    have hu : (bys ts)[(((i + 1 : Nat) : Int) - 1).toNat]? = some (.int .u8 (ts[i] : Int)) := by
      rw [eI,Int.toNat_natCast,List.getElem?_map,List.getElem?_eq_getElem hi]; rfl
    refine Wt (Xa ?_)
    refine Wk (Wa rfl rfl (Wa rfl rfl (Wa rfl rfl (Xm rfl rfl st2.1 ⟨by omega,by omega⟩ hu fun p => ?_))))
    refine Wc rfl (C108 (t := ts[i]) X2 (kp.ne hne) (kp.wf w hne) (B.kp kp (VS.popsR_gr _ _))) ?_
    rintro _ h3 ⟨rfl,O3,X3,t3⟩
    refine Wj [(0,_),(1,_),(4,_)] rfl (?_)
    refine Wk (Wa rfl rfl (Wa rfl rfl (Wa rfl rfl (Wj [(0,_),(1,_),(4,_)] rfl (?_)))))
    have ed : ts.drop i = ts[i] :: ts.drop (i + 1) := List.drop_eq_getElem_cons hi
    refine ⟨i,by omega,i,O3,?_,by omega,rfl,by rw [ed,VS.popsR_cons]; exact X3,t2.trans t3⟩
    rw [w64 (by omega),eI]
  · have hj0 : j = 0 := by have := of_decide_eq_false hc; omega
    subst hj0
    rw [List.drop_zero] at X2
    refine Xv (Xu ?_)
    exact Wx.mk [] rfl ⟨O1,X2,t2⟩
theorem C62 {op : Int} {fr to : List Nat} {fa ta : Option Addr} {fc tc fn tn : Nat} (X : Rk K h O s) (sf : Stl h O fa fn fc fr) (st : Stl h O ta tn tc to) (B : Bd s) (hb : fn ≤ 1000000) :
    Fn Try.prog 62 [ptr K.p,.int .i64 op,.slice fa fn fc,.slice ta tn tc] h fun v h' => Rg K h O h' (s.opens op fr to) := by
  obtain ⟨a,c,oa,oc,ms,X⟩ := X
  have hfn := sf.len
  have htn := st.len
  have B1 := B.1
  have B2 := B.2
  refine fnK F62.fok rfl ?_
  refine Wi (Wa rfl rfl (Wa rfl rfl (Wa rfl rfl (Wa rfl rfl (We (v := .slice oa s.op.length oc) rfl X.g rfl (Wa rfl rfl (Wa rfl rfl (Wa rfl rfl (Wa rfl rfl (Wa rfl rfl (Wa rfl rfl (We (v := .slice a s.l.length c) rfl X.g rfl (Wa rfl rfl (Wa rfl rfl (Wl rfl rfl fun h1 n1 x1 g1 => ?_)))))))))))))))
  have X1 := X.ext0 x1
  refine Zf (m := 1) rfl rfl X1.o rfl (SlA.mk' (n := 1) (c := 1) (sz := 5) (off := 0) g1 (Nat.le_refl 5) (.inr (.inr rfl))).first ⟨by omega,by omega⟩ rfl rfl (by decide) fun h2 a2 c2 x2 o2 b2 => ?_
  have g2 := X1.g.ext x2 X1.po
  refine Wa rfl rfl (Wa rfl rfl (Wm (l := [.slice a2 (s.op.length + 1) c2]) rfl rfl rfl rfl g2 (by rw [VR.cs_len]; decide) rfl fun h3 n3 x3 g3 => ?_))
  refine Wh [(0,_),(2,_)] rfl (?_)
  replace g3 : At h3 K.p (.cells (K.cs (.slice a s.l.length c) (.slice a2 (s.op.length + 1) c2) (.bool s.bad)) 0 false) := g3
  have z1 := x1.next
  have z2 := x2.next
  have z3 := x3.next
  have hp1 := X1.g.lt
  have hpa2 : ¬ Blk a2 K.p := fun q => (b2 _ q).elim X1.po fun w => by omega
  have x : Ext O h1 h3 := (x2.mono fun i _ q => X1.own i (.inr (.inr q))).then x3 fun i q => .inl (X1.own i (.inl q))
  have t : Turn h1 h3 O (fun i => O i ∨ Blk a2 i) := ⟨x,fun i q => q.elim .inl fun q => (b2 i q).imp (fun w => X1.own i (.inr (.inr w))) id⟩
  have rk : ∀ i,K.R i → h3.get i = h1.get i := fun i q => by
    have := X1.rlt i q
    rw [x3.get i (by omega) fun e => X1.res _ (.inl rfl) (e ▸ q),x2.get i (by omega) fun e => X1.res i (.inr (.inr e)) q]
  have t03 : Tn K.toVK h h3 O (fun i => O i ∨ Blk a2 i) := ⟨(Turn.ext0' x1).trans t,fun i q => by rw [rk i q,x1.get i (X.rlt i q) fun e => e],fun i q => .inl q⟩
  have sf3 := (sf.ext0 x1).turn t
  have st3 := (st.ext0 x1).turn t
  have X3 : RkX K h3 (fun i => O i ∨ Blk a2 i) { s with op := s.op ++ [⟨op,fr,to,s.l.length,false⟩] } a c a2 c2 (ms ++ [⟨⟨op,fr,to,s.l.length,false⟩,fa,fc,ta,tc⟩]) := by
    refine ⟨by simp [X.mb],?_,?_,?_,?_,?_,?_,fun i q => by have := X1.rlt i q; omega,X.pa,hpa2,fun i q r => (b2 i r).elim (fun w => X.ao i q w) fun w => by have := X1.l.lt q; omega,fun m hm => ?_,X1.loc.turn t,X1.dec.turn t⟩
    · show At h3 K.p (.cells (K.cs (.slice a s.l.length c) (.slice a2 (s.op ++ [_]).length c2) (.bool s.bad)) 0 false)
      rw [List.length_append]; exact g3
    · exact (X1.l.ext x2 fun i q e => X.ao i q e).ext x3 fun i q e => X.pa (e ▸ q)
    · have o3 := o2.ext x3 fun i q e => hpa2 (e ▸ q)
      have e1 : en BM.enc (ms ++ [⟨⟨op,fr,to,s.l.length,false⟩,fa,fc,ta,tc⟩]) = en BM.enc ms ++ [.int .i64 op,.slice fa fn fc,.slice ta tn tc,.int .i64 (s.l.length : Int),.bool false] := by
        rw [en_app,← hfn,← htn]; rfl
      show OwS h3 5 a2 (s.op ++ [_]).length c2 _
      rw [List.length_append,e1]
      exact o3
    · rintro i (q | q | q)
      · exact .inl (X.own i (.inl q))
      · exact .inl (X.own i (.inr (.inl q)))
      · exact .inr q
    · rintro i (q | q)
      · have := X1.lt i q; omega
      · have := o2.lt q; omega
    · rintro i (q | q | q)
      · exact X.res i (.inl q)
      · exact X.res i (.inr (.inl q))
      · exact (b2 i q).elim (fun w => X.res i (.inr (.inr w))) fun w r => by have := X1.rlt i r; omega
    · rcases List.mem_append.1 hm with q | q
      · exact (X1.st m q).turn t
      · rw [List.mem_singleton] at q
        subst q
        exact ⟨by show Stl _ _ _ fr.length _ _; rw [hfn]; exact sf3,by show Stl _ _ _ to.length _ _; rw [htn]; exact st3⟩
  refine Wk (Wa rfl rfl (Wa rfl rfl (Wc rfl (C105 ⟨_,_,_,_,_,X3⟩ sf3.1 (by show s.l.length ≤ _; omega) hb) ?_)))
  rintro _ h4 g4
  refine Wj [] rfl (Wx.mk [] rfl ?_)
  exact Rg.trans t03 g4
theorem C106 (X : Rk K h O s) (hne : s.op ≠ []) (w : VS.Wf s) (B : Bd s) : Fn Try.prog 106 [ptr K.p] h fun v h' => Rg K h O h' s.rests := by
  obtain ⟨a,c,oa,oc,ms,X⟩ := X
  have hle := w.le _ (VS.top_mem hne)
  have hpos : 0 < s.op.length := List.length_pos_iff.2 hne
  have hml := X.len
  refine fnK F106.fok rfl ?_
  refine Wi (Wa rfl rfl (Wc rfl (C153 X hne B) ?_))
  rintro _ _ ⟨id,off,vs,m,rfl,rfl,rfl,go,hl,hw,hm,hmb,hmm,hcell⟩
  refine Wa rfl rfl (Wh [(0,_),(2,_)] rfl (?_))
  have c3 : vs[off + (s.op.length - 1) * 5 + 3]? = some (.int .i64 (s.top.ht : Int)) := by rw [hcell 3 (by decide),← hmb]; rfl
  refine Wk (Wa rfl rfl (Wa rfl rfl (Wa rfl rfl (Wa rfl rfl (Wa rfl rfl (We (v := .slice a s.l.length c) rfl X.g rfl (Wa rfl rfl (Wa rfl rfl (Wa rfl rfl (We (v := .int .i64 (s.top.ht : Int)) rfl go c3 ?_))))))))))
  refine Zr rfl rfl rfl X.l.sl.ok (Yy hle) ?_
  have e : shift a (0 * 1) = a := shift01 a
  rw [e,Nat.sub_zero]
  refine Wa rfl rfl (Wa rfl rfl (Wm (l := [.slice a s.top.ht c]) rfl rfl rfl rfl X.g (by rw [VR.cs_len]; decide) rfl fun h2 n2 x2 g2 => ?_))
  replace g2 : At h2 K.p (.cells (K.cs (.slice a s.top.ht c) (.slice (some ⟨id,off,none⟩) s.op.length oc) (.bool s.bad)) 0 false) := g2
  have hid : id ≠ K.p := fun q => X.po (by rw [Blk.at]; exact q)
  have go2 := go.ext x2 hid
  have z2 := x2.next
  refine Wa rfl rfl (Wa rfl rfl (Wm (l := [.bool true]) rfl rfl rfl rfl go2 (by omega) rfl fun h3 n3 x3 g3 => ?_))
  refine Wj [] rfl (Wx.mk [] rfl ?_)
  have z3 := x3.next
  have oid : Blk (some ⟨id,off,none⟩) id := by rw [Blk.at]
  have hT : Turn h h3 O O := ⟨(x2.mono fun i _ q => X.own i (.inl q)).then x3 fun i q => .inl (X.own i (.inr (.inr (q ▸ oid)))),fun i q => .inl q⟩
  have hk : ∀ i,K.R i → h3.get i = h.get i := fun i q => by
    have := X.rlt i q
    rw [x3.get i (by omega) fun e => X.res i (.inr (.inr (e ▸ oid))) q,x2.get i (by omega) fun e => X.res _ (.inl rfl) (e ▸ q)]
  have hr : s.op.length - 1 < ms.length := by omega
  refine ⟨O,⟨a,c,some ⟨id,off,none⟩,oc,ms.set (s.op.length - 1) { m with b := { m.b with dead := true } },?_⟩,hT,hk,fun i q => q⟩
  have eT : (s.l.take s.top.ht).length = s.top.ht := by rw [List.length_take]; omega
  have eO : (s.op.dropLast ++ [{ s.top with dead := true }]).length = s.op.length := by simp; omega
  refine ⟨?_,?_,?_,?_,X.own,fun i q => by have := X.lt i q; omega,X.res,fun i q => by have := X.rlt i q; omega,X.pa,X.po,X.ao,fun m' hm' => ?_,X.loc.turn hT,X.dec.turn hT⟩
  · show _ = s.op.dropLast ++ [{ s.top with dead := true }]
    rw [List.map_set,X.mb,set_last hne,← hmb]
  · show At h3 K.p (.cells (K.cs (.slice a (s.l.take s.top.ht).length c) (.slice (some ⟨id,off,none⟩) (s.op.dropLast ++ [{ s.top with dead := true }]).length oc) (.bool s.bad)) 0 false)
    rw [eT,eO]
    exact g2.ext x3 fun q => hid q.symm
  · show OwS h3 1 a (s.l.take s.top.ht).length c (bys (s.l.take s.top.ht))
    have o1 := X.l.sub (i := 0) (j := s.top.ht) (Nat.zero_le _) hle
    rw [e] at o1
    have e2 : ((bys s.l).drop (0 * 1)).take ((s.top.ht - 0) * 1) = bys (s.l.take s.top.ht) := by simp [bys,List.map_take]
    rw [e2,Nat.sub_zero] at o1
    rw [eT]
    exact (o1.ext x2 fun i q e => X.pa (e ▸ q)).ext x3 fun i q e => X.ao i q (e ▸ oid)
  · show OwS h3 5 (some ⟨id,off,none⟩) (s.op.dropLast ++ [{ s.top with dead := true }]).length oc _
    rw [eO]
    have W := win_part BM.enc_len hw hml hl (i := s.op.length - 1) (r := 4) (x := { m with b := { m.b with dead := true } }) (l := [.bool true]) (by omega) (by decide) (by
      rw [List.getElem?_eq_getElem hr] at hm
      rw [Option.some.inj hm]; rfl)
    exact ⟨by rw [Qj BM.enc_len,List.length_set,hml],.inr ⟨id,off,_,rfl,g3,by rw [Xz]; exact hl,W⟩⟩
  · rcases List.mem_or_eq_of_mem_set hm' with q | q
    · exact (X.st m' q).turn hT
    · subst q
      exact (X.st m hmm).turn hT
theorem RkX.cutO {a : Option Addr} {c : Nat} {oa : Option Addr} {oc : Nat} {ms : List BM} (X : RkX K h O s a c oa oc ms) {h2 : Heap} (x2 : Ext (· = K.p) h h2)
    (g : At h2 K.p (.cells (K.cs (.slice a s.l.length c) (.slice oa (s.op.length - 1) oc) (.bool s.bad)) 0 false)) : Rg K h O h2 { s with op := s.op.dropLast } := by
  have z2 := x2.next
  have hml := X.len
  have t : Turn h h2 O O := ⟨x2.mono fun i _ q => X.own i (.inl q),fun i q => .inl q⟩
  refine ⟨O,⟨a,c,oa,oc,ms.dropLast,?_,?_,X.l.ext x2 fun i q e => X.pa (e ▸ q),?_,X.own,fun i q => by have := X.lt i q; omega,X.res,fun i q => by have := X.rlt i q; omega,X.pa,X.po,X.ao,fun m hm => (X.st m (List.dropLast_subset _ hm)).turn t,X.loc.turn t,X.dec.turn t⟩,t,fun i q => x2.get i (X.rlt i q) fun e => X.res _ (.inl rfl) (e ▸ q),fun i q => q⟩
  · rw [List.map_dropLast,X.mb]
  · show At h2 K.p (.cells (K.cs (.slice a s.l.length c) (.slice oa s.op.dropLast.length oc) (.bool s.bad)) 0 false)
    rw [List.length_dropLast]; exact g
  · have o := X.o.sub (i := 0) (j := s.op.length - 1) (Nat.zero_le _) (by omega)
    rw [shift0,Nat.zero_mul,List.drop_zero,Nat.sub_zero,en_take BM.enc_len (by omega)] at o
    show OwS h2 5 oa s.op.dropLast.length oc _
    rw [List.length_dropLast,List.dropLast_eq_take,hml]
    exact o.ext x2 fun i q e => X.po (e ▸ q)
theorem C110 (X : Rk K h O s) (hne : s.op ≠ []) (w : VS.Wf s) (B : Bd s) (z : VS.LP VS.short s) :
    Fn Try.prog 110 [ptr K.p] h fun v h' => ∃ (m : BM) (O' : Nat → Prop),m.b = s.leaveR.1 ∧ v = .agg ⟨m.enc⟩ ∧ m.St h' O' ∧ Rk K h' O' s.leaveR.2 ∧ Tn K.toVK h h' O O' := by
  have hpos : 0 < s.op.length := List.length_pos_iff.2 hne
  have olt : ∀ i,O i → i < h.next := by obtain ⟨a,c,oa,oc,ms,X⟩ := X; exact X.lt
  have rlt : ∀ i,K.R i → i < h.next := fun i q => X.rb q
  refine fnK F110.fok rfl ?_
  refine Wi (Xl fun h1 n1 x1 g1 => Wh [(0,_),(2,_)] rfl (?_))
  obtain ⟨X1,t1⟩ := X.more x1 (Nat.le_refl _) (by omega)
  obtain ⟨K1,hK1⟩ : ∃ K1,K1 = K.more h.next := ⟨_,rfl⟩
  rw [← hK1] at X1
  have hp : K.p = K1.p := by rw [hK1]
  have hR : K1.R h.next := by rw [hK1]; exact .inr rfl
  rw [hp]
  obtain ⟨a,c,oa,oc,ms,X1⟩ := X1
  have hml := X1.len
  refine Wi (Wa rfl rfl (Wc rfl (C153 X1 hne B) ?_))
  rintro _ _ ⟨id,off,vs,m,rfl,rfl,rfl,go,hl,hw,hm,hmb,hmm,hcell⟩
  have hr : s.op.length - 1 < ms.length := by omega
  have em : ms[s.op.length - 1] = m := by rw [List.getElem?_eq_getElem hr] at hm; exact Option.some.inj hm
  have wr := win_row BM.enc_len hw hml hr
  rw [em] at wr
  refine Wa rfl rfl (Xh (l := m.enc) rfl go (by omega) wr (Xl fun h2 n2 x2 g2 => Wm (l := m.enc) rfl rfl rfl rfl g2 (by simp) m.enc_cell fun h3 n3 x3 g3 => ?_))
  refine Wh [(0,_),(2,_),(3,_)] rfl (?_)
  replace g3 : At h3 h1.next (.cells m.enc 0 false) := g3
  have x13 : Xk h1 h3 := x2.then x3 fun i r => .inr (by omega)
  have z13 := x13.next
  have gA : At h3 h.next (.cells [.int .i64 0,Zy,Zy,.int .i64 0,.bool false] 0 false) := At.ext g1 x13
  have X3 : Rk K1 h3 (fun i => O i ∨ i = h.next) s := ⟨_,_,_,_,_,X1.ext0 x13⟩
  have ms3 : m.St h3 (fun i => O i ∨ i = h.next) := (X1.st m hmm).turn (Turn.ext0' x13)
  have t13 : Tn K1.toVK h1 h3 (fun i => O i ∨ i = h.next) (fun i => O i ∨ i = h.next) := ⟨Turn.ext0' x13,fun i q => x13.get i (X1.rlt i q) fun e => e,fun i q => q⟩
  have hto : m.b.to.length ≤ 8 := by rw [hmb]; exact (z _ (VS.top_mem hne)).2
  have n3 : ¬ (O h1.next ∨ h1.next = h.next) := fun q => q.elim (fun q => by have := olt _ q; omega) fun e => by omega
  refine Wi (Wa rfl rfl (Wa rfl rfl (We (v := .slice m.ta m.b.to.length m.tc) rfl g3 rfl (Wc rfl (C109 X3 ms3.2 hne w B (by omega)) ?_))))
  rintro _ h4 ⟨O4,X4,t4⟩
  refine Wh [(0,_),(2,_),(3,_)] rfl (?_)
  have kp := VS.popsR_kp m.b.to s
  have g4 : At h4 h1.next (.cells m.enc 0 false) := g3.ext t4.t.ext n3
  have n4 := t4.not g3.lt n3
  have ms4 := ms3.turn t4.t
  obtain ⟨a4,c4,oa4,oc4,ms4',X4⟩ := X4
  generalize hs4 : s.popsR m.b.to = s4 at X4 kp
  refine Ww (fun e' h' => e' = [(0,ptr K1.p),(2,ptr h.next),(3,ptr h1.next)] ∧ RkX K1 h' O4 (s4.fails (decide (s4.l.length ≠ m.b.ht))) a4 c4 oa4 oc4 ms4' ∧ Tn K1.toVK h4 h' O4 O4) ?_ ?_
  · refine Wk (Wa rfl rfl (Wa rfl rfl (Wa rfl rfl (Wa rfl rfl (We (v := .bool s4.bad) rfl X4.g rfl (Wa rfl rfl ?_))))))
    cases hb : s4.bad with
    | true =>
      refine Wb rfl (Wb rfl (Wb rfl (Wb rfl (Wb rfl (Wb rfl (Wb rfl (Wb rfl (Wa rfl rfl (Wa rfl rfl (Wa rfl rfl (Wm (l := [.bool true]) rfl rfl rfl rfl X4.g (by rw [VR.cs_len]; decide) rfl fun h5 n5 x5 g5 => Wj [(0,_),(2,_),(3,_)] rfl ?_)))))))))))
      exact ⟨rfl,X4.fails (b := decide (s4.l.length ≠ m.b.ht)) x5 g5 (by rw [hb]; rfl)⟩
    | false =>
      refine Wd rfl (Wa rfl rfl (Wd rfl (Wa rfl rfl (Wd rfl (Wa rfl rfl (Wd rfl (We (v := .slice a4 s4.l.length c4) rfl X4.g rfl (Wd rfl (Wa rfl rfl (Wd rfl (Wa rfl rfl (Wd rfl (We (v := .int .i64 (m.b.ht : Int)) rfl g4 rfl (Wd rfl (Wg (w := .bool (decide (s4.l.length ≠ m.b.ht))) rfl rfl (by congr 1; rw [Bool.eq_iff_iff]; simp; omega) ?_)))))))))))))))
      refine Wa rfl rfl (Wa rfl rfl (Wa rfl rfl (Wm (l := [.bool (decide (s4.l.length ≠ m.b.ht))]) rfl rfl rfl rfl X4.g (by rw [VR.cs_len]; decide) rfl fun h5 n5 x5 g5 => Wj [(0,_),(2,_),(3,_)] rfl ?_)))
      exact ⟨rfl,X4.fails (b := decide (s4.l.length ≠ m.b.ht)) x5 g5 (by rw [hb]; rfl)⟩
  rintro _ h6 ⟨rfl,X6,t6⟩
  have g6' : At h6 h1.next (.cells m.enc 0 false) := g4.ext t6.t.ext n4
  have n6 := t6.not g4.lt n4
  have mst6 := ms4.turn t6.t
  have hol : s4.op.length = s.op.length := by rw [kp.op]
  have B2 := B.2
  refine Wi (Wa rfl rfl (Wa rfl rfl (Wa rfl rfl (Wa rfl rfl (We (v := .slice oa4 s4.op.length oc4) rfl X6.g rfl (Wa rfl rfl (Wa rfl rfl (Wa rfl rfl (We (v := .slice oa4 s4.op.length oc4) rfl X6.g rfl (Wa rfl rfl ?_))))))))))
  refine Wg (w := .int .i64 ((s4.op.length - 1 : Nat) : Int)) rfl rfl (by rw [w64 (by omega)]; congr 1; omega) (Zr rfl rfl rfl X6.o.sl.ok (Yy (by show s4.op.length - 1 ≤ s4.op.length; omega)) ?_)
  rw [shift0,Nat.sub_zero]
  refine Wa rfl rfl (Wa rfl rfl (Wm (l := [.slice oa4 (s4.op.length - 1) oc4]) rfl rfl rfl rfl X6.g (by rw [VR.cs_len]; decide) rfl fun h7 n7 x7 g7 => ?_))
  refine Wh [(2,_),(3,_)] rfl (?_)
  obtain ⟨O7,X7,t7⟩ := X6.cutO x7 g7
  have g7' : At h7 h1.next (.cells m.enc 0 false) := g6'.ext t7.t.ext n6
  have mst7 := mst6.turn t7.t
  have t17 := ((t13.trans t4).trans t6).trans t7
  have gA7 : At h7 h.next (.cells [.int .i64 0,Zy,Zy,.int .i64 0,.bool false] 0 false) := by
    show h7.get h.next = _
    rw [t17.k _ hR]; exact g1
  refine Wi (Xh (l := m.enc) rfl g7' (Nat.le_refl 5) rfl (Wm (l := m.enc) rfl rfl rfl rfl gA7 (Nat.le_refl 5) m.enc_cell fun h8 n8 x8 g8 => ?_))
  refine Wh [(2,_)] rfl (?_)
  replace g8 : At h8 h.next (.cells m.enc 0 false) := g8
  have hO7 : O7 h.next := t17.m _ (.inr rfl)
  obtain ⟨X8,t8⟩ := X7.write hR hO7 x8
  refine Xn (Wx.mk [.agg ⟨m.enc⟩] (Kd (res_c rfl g8 (Nat.le_refl 5) rfl) rfl) ⟨m,O7,hmb,rfl,mst7.turn t8,?_,?_⟩)
  · rw [hK1] at X8
    have := X8.less
    subst hs4
    rw [hmb] at this
    exact this
  · rw [hK1] at t17
    exact (t1.trans t17.less).trans ⟨t8,fun i q => x8.get i (by have := rlt i q; have := t17.t.ext.next; have := x1.next; omega) fun e => by have := rlt i q; omega,fun i q => q⟩
end

end
section
/- The document's checker: fits, memory, types, labels, tables. -/
noncomputable def chk102 (op : Int) : Bool := match fnR T 300 102 [.int .i64 op] Heap.empty with
  | some (.int .i64 v,_) => v == ((VS.width op : Nat) : Int)
  | _ => false
set_option maxRecDepth 100000 in
theorem run102 : (opsC ++ Uh ++ Ki).all chk102 = true := by kernel_rfl
theorem C102 {h : Heap} {op : Int} (ho : op ∈ opsC ∨ op ∈ Uh ∨ op ∈ Ki) : Fn Try.prog 102 [.int .i64 op] h fun v h' => v = .int .i64 ((VS.width op : Nat) : Int) ∧ h = h' := by
  have hm : op ∈ opsC ++ Uh ++ Ki := by
    rcases ho with q | q | q
    · exact List.mem_append_left _ (List.mem_append_left _ q)
    · exact List.mem_append_left _ (List.mem_append_right _ q)
    · exact List.mem_append_right _ q
  have hc := List.all_eq_true.1 run102 op hm
  unfold chk102 at hc
  split at hc
  · rename_i v h0 hr
    have hv : v = ((VS.width op : Nat) : Int) := by simpa using hc
    subst hv
    exact Fn.anywhere (R := fun v => v = .int .i64 ((VS.width op : Nat) : Int)) rfl (Jr hr) fun v h' q => ⟨by rw [q.1]; rfl,q.1⟩
  · cases hc
theorem C112 {h : Heap} {t : Nat} : Fn Try.prog 112 [.int .u8 (t : Int)] h fun v h' => v = .bool (VS.own t) ∧ h = h' := by
  refine fnK F112.fok rfl ?_
  refine Wi (Wa rfl rfl (Wh [(0,_)] rfl (?_)))
  refine Wi (Wa rfl rfl (Wg (w := .bool (decide (t = 112))) rfl rfl (by congr 1; rw [Bool.eq_iff_iff]; simp; omega) (Wa rfl rfl ?_)))
  by_cases c : t = 112
  · rw [decide_eq_true c]
    refine Wb rfl (Wb rfl (Wa rfl rfl (Wa rfl rfl (Wh [(2,_)] rfl (?_)))))
    exact Xn (Wx.mk _ rfl ⟨by subst c; rfl,rfl⟩)
  · rw [decide_eq_false c]
    refine Wd rfl (Wa rfl rfl (Wd rfl (Wg (w := .bool (decide (t = 111))) rfl rfl (by congr 1; rw [Bool.eq_iff_iff]; simp; omega) (Wa rfl rfl (Wa rfl rfl (Wh [(2,_)] rfl (?_)))))))
    exact Xn (Wx.mk _ rfl ⟨by show Value.bool _ = Value.bool _; unfold VS.own; simp [c],rfl⟩)
section
variable {K : VR} {h : Heap} {O : Nat → Prop} {s : VS} {M : Mo}
theorem C113 {i o : List Nat} {ia oa : Option Addr} {n1 c1 n2 c2 : Nat} (X : Rk K h O s) (si : Stl h O ia n1 c1 i) (so : Stl h O oa n2 c2 o) (hne : s.op ≠ []) (w : VS.Wf s) (B : Bd s) (hb : n1 ≤ 1000000) (hb2 : n2 ≤ 1000000) :
    Fn Try.prog 113 [ptr K.p,.slice ia n1 c1,.slice oa n2 c2] h fun v h' => Rg K h O h' (VS.fitsR i o s) := by
  refine fnK F113.fok rfl ?_
  refine Wi (Wa rfl rfl (Wa rfl rfl (Wc rfl (C109 X si hne w B hb) ?_)))
  rintro _ h1 ⟨O1,X1,t1⟩
  refine Wh [(0,_),(2,_)] rfl ?_
  have hg := VS.popsR_gr i s
  unfold VS.Gr at hg
  have B1 := B.1
  refine Wk (Wa rfl rfl (Wa rfl rfl (Wc rfl (C105 X1 (so.turn t1.t).1 (by omega) hb2) ?_)))
  rintro _ h2 g2
  exact Wj [] rfl (Wx.mk [] rfl (Rg.trans t1 g2))
theorem C116 (X : Rk K h O s) (Y : MoX h O K.pm M K.m.l) : Fn Try.prog 116 [ptr K.p] h fun v h' => Rg K h O h' (s.memory M) := by
  obtain ⟨a,c,oa,oc,ms,X⟩ := X
  obtain ⟨ya,yc,y1⟩ := Y.me
  refine fnK F116.fok rfl ?_
  refine Wk (Wa rfl rfl (Wa rfl rfl (Wa rfl rfl (Wa rfl rfl (We (v := .bool s.bad) rfl X.g rfl (Wa rfl rfl ?_))))))
  cases hb : s.bad with
  | true =>
    refine Wb rfl (Wb rfl (Wb rfl (Wb rfl (Wb rfl (Wb rfl (Wb rfl (Wa rfl rfl (Wa rfl rfl (Wa rfl rfl (Wm (l := [.bool true]) rfl rfl rfl rfl X.g (by rw [VR.cs_len]; decide) rfl fun h2 n2 x2 g2 => Wj [] rfl (Wx.mk [] rfl ?_)))))))))))
    obtain ⟨X2,t2⟩ := X.fails (b := decide (M.mems = 0)) x2 g2 (by rw [hb]; rfl)
    exact Rg.of X2 t2
  | false =>
    refine Wd rfl (Wa rfl rfl (Wd rfl (Wa rfl rfl (Wd rfl (Wa rfl rfl (Wd rfl (Wa rfl rfl (Wd rfl (We (v := .slice ya M.mems yc) rfl X.g y1 (Wd rfl (Wa rfl rfl (Wd rfl (Wg (w := .bool (decide (M.mems = 0))) rfl rfl (by congr 1; rw [Bool.eq_iff_iff]; simp) ?_)))))))))))))
    refine Wa rfl rfl (Wa rfl rfl (Wa rfl rfl (Wm (l := [.bool (decide (M.mems = 0))]) rfl rfl rfl rfl X.g (by rw [VR.cs_len]; decide) rfl fun h2 n2 x2 g2 => Wj [] rfl (Wx.mk [] rfl ?_))))
    obtain ⟨X2,t2⟩ := X.fails (b := decide (M.mems = 0)) x2 g2 (by rw [hb]; rfl)
    exact Rg.of X2 t2
theorem RkX.bad1 {a : Option Addr} {c : Nat} {oa : Option Addr} {oc : Nat} {ms : List BM} (X : RkX K h O s a c oa oc ms) {h' : Heap} (x : Ext (· = K.p) h h') (g : At h' K.p (.cells (K.cs (.slice a s.l.length c) (.slice oa s.op.length oc) (.bool true)) 0 false)) : Rg K h O h' (s.fails true) := by
  obtain ⟨X2,t2⟩ := X.fails (b := true) x g (by simp)
  exact Rg.of X2 t2
theorem C107 {t : Int} (X : Rk K h O s) (Y : MoX h O K.pm M K.m.l) (ht : -9223372036854775808 ≤ t ∧ t ≤ 9223372036854775807) :
    Fn Try.prog 107 [ptr K.p,.int .i64 t] h fun v h' => ∃ fa fc ta tc O',v = .tuple ⟨[.slice fa (s.typedR M t).1.1.length fc,.slice ta (s.typedR M t).1.2.length tc]⟩ ∧ Rk K h' O' (s.typedR M t).2 ∧ Tn K.toVK h h' O O' ∧ Stl h' O' fa (s.typedR M t).1.1.length fc (s.typedR M t).1.1 ∧ Stl h' O' ta (s.typedR M t).1.2.length tc (s.typedR M t).1.2 := by
  obtain ⟨a,c,oa,oc,ms,X⟩ := X
  obtain ⟨ya,yc,yl,y1,y2,y3,y4⟩ := Y.ty
  have hsz := Y.sz.1
  refine fnK F107.fok rfl ?_
  refine Wi (Wa rfl rfl (Wa rfl rfl (Wh [(0,_),(1,_)] rfl (?_))))
  refine Xa ?_
  refine Wi (Wa rfl rfl (Wg (w := .bool (decide (t = -64))) rfl rfl (by congr 1) (Wa rfl rfl (Wh [(0,_),(1,_),(6,_)] rfl (?_)))))
  refine Wn rfl (fun hc => ?_) (fun hc => ?_)
  · have e := of_decide_eq_true hc
    refine Wi (Wa rfl rfl (Wa rfl rfl (Wh [(4,_),(5,_)] rfl (?_))))
    unfold VS.typedR
    simp only [if_pos e]
    exact Xn (Wx.mk _ rfl ⟨none,0,none,0,O,rfl,⟨_,_,_,_,_,X⟩,Tn.refl _ _ _,Stl.none,Stl.none⟩)
  have e := of_decide_eq_false hc
  refine Wi (Wa rfl rfl (Wa rfl rfl (Wa rfl rfl (Wh [(0,_),(1,_),(9,_)] rfl (?_)))))
  refine Wn rfl (fun hc => ?_) (fun hc => ?_)
  · have e2 : t < 0 := of_decide_eq_true hc
    refine Wi (Wa rfl rfl (Wg (w := .int .i64 (t + 128)) rfl rfl (by rw [w64 (by omega)]) (Wg (w := .int .u8 (((t + 128) % 256).toNat : Int)) rfl rfl (by congr 1; simp [IntKind.wrap,IntKind.signed,IntKind.bits]; omega) (Wl rfl rfl fun h1 n1 x1 g1 => ?_))))
    refine Wa rfl rfl (Wa rfl rfl (Wh [(4,_),(5,_)] rfl (?_)))
    obtain ⟨X1,t1⟩ := X.ext0' x1
    unfold VS.typedR
    simp only [if_neg e,if_pos e2]
    refine Xn (Wx.mk _ rfl ⟨none,0,some ⟨h.next,0,none⟩,1,O,rfl,X1,t1,Stl.none,?_,fun i q => ?_⟩)
    · exact SlA.mk' (n := 1) (c := 1) (sz := 1) (off := 0) g1 (Nat.le_refl 1) (.inr (.inr rfl))
    · rw [Blk.at] at q
      subst q
      exact ⟨by omega,fun q => by have := X.lt _ q; omega⟩
  have e2 : ¬ t < 0 := of_decide_eq_false hc
  refine Wi (Wa rfl rfl (Wa rfl rfl (Wa rfl rfl (Wa rfl rfl (Wa rfl rfl (We (v := .slice ya M.types.length yc) rfl X.g y1 (Wa rfl rfl (Wg (w := .bool (decide (¬ t.toNat < M.types.length))) rfl rfl (by congr 1; rw [Bool.eq_iff_iff]; simp; omega) (Wa rfl rfl (Wh [(0,_),(1,_),(16,_)] rfl (?_)))))))))))
  unfold VS.typedR
  simp only [if_neg e,if_neg e2]
  by_cases hl : t.toNat < M.types.length
  · refine Wn rfl (fun hc => absurd hl (of_decide_eq_true hc)) (fun _ => ?_)
    obtain ⟨pa,pc,ra,rc,q1,q2,q3⟩ := y4 t.toNat hl
    obtain ⟨id,off,vs,ez,ro,rfl,go,gl,gw,gi⟩ := y2.at (by omega)
    have ht0 : t = (t.toNat : Int) := by omega
    have el : M.types.getD t.toNat ([],[]) = M.types[t.toNat] := by simp [List.getD,hl]
    have v0 : vs[off + t.toNat * 2 + 0]? = some (.slice pa M.types[t.toNat].1.length pc) := by
      rw [Nat.add_assoc,gi _ (by omega)]
      have := congrArg (fun l => l[0]?) q1
      rw [List.getElem?_take_of_lt (by decide),List.getElem?_drop] at this
      exact this
    have v1 : vs[off + t.toNat * 2 + 1]? = some (.slice ra M.types[t.toNat].2.length rc) := by
      rw [Nat.add_assoc,gi _ (by omega)]
      have := congrArg (fun l => l[1]?) q1
      rw [List.getElem?_take_of_lt (by decide),List.getElem?_drop] at this
      exact this
    refine Ye ?_
    refine Wi (Wa rfl rfl (Wa rfl rfl (Wa rfl rfl (Wa rfl rfl (We (v := .slice (some ⟨id,off,none⟩) M.types.length yc) rfl X.g y1 (Wa rfl rfl (Yk rfl rfl ⟨by omega,by omega⟩ (Wa rfl rfl (We rfl go v0 ?_)))))))))
    refine Wa rfl rfl (Wa rfl rfl (Wa rfl rfl (Wa rfl rfl (We (v := .slice (some ⟨id,off,none⟩) M.types.length yc) rfl X.g y1 (Wa rfl rfl (Yk rfl rfl ⟨by omega,by omega⟩ (Wa rfl rfl (We rfl go v1 ?_))))))))
    refine Wa rfl rfl (Wa rfl rfl (Wh [(4,_),(5,_)] rfl ?_))
    simp only [if_pos hl,el]
    exact Xn (Wx.mk _ rfl ⟨_,_,_,_,O,rfl,⟨_,_,_,_,_,X⟩,Tn.refl _ _ _,q2,q3⟩)
  · refine Wn rfl (fun _ => ?_) (fun hc => absurd hc (by rw [decide_eq_true hl]; simp))
    refine Wi (Wa rfl rfl (Wa rfl rfl (Wa rfl rfl (Wm (l := [.bool true]) rfl rfl rfl rfl X.g (by rw [VR.cs_len]; decide) rfl fun h2 n2 x2 g2 => Wh [] rfl ?_))))
    refine Wi (Wa rfl rfl (Wa rfl rfl (Wh [(4,_),(5,_)] rfl ?_)))
    obtain ⟨O2,X2,t2⟩ := X.bad1 x2 g2
    simp only [if_neg hl]
    exact Xn (Wx.mk _ rfl ⟨none,0,none,0,O2,rfl,X2,t2,Stl.none,Stl.none⟩)
theorem C154 {n : Nat} (X : Rk K h O s) (B : Bd s) (hn : n < 4294967296) :
    Fn Try.prog 154 [ptr K.p,.int .u32 (n : Int)] h fun v h' => ∃ la lc O',v = .slice la (s.label n).1.length lc ∧ Rk K h' O' (s.label n).2 ∧ Tn K.toVK h h' O O' ∧ Stl h' O' la (s.label n).1.length lc (s.label n).1 := by
  obtain ⟨a,c,oa,oc,ms,X⟩ := X
  have B2 := B.2
  have hml := X.len
  refine fnK F154.fok rfl ?_
  refine Wi (Wa rfl rfl (Wh [(0,_),(1,_)] rfl (?_)))
  refine Xd (Wi (Wa rfl rfl (Wg (w := .int .u64 (n : Int)) rfl rfl (by rw [Qd (by omega)]) (Wa rfl rfl (Wa rfl rfl (Wa rfl rfl (We (v := .slice oa s.op.length oc) rfl X.g rfl (Wa rfl rfl (Wg (w := .int .u64 (s.op.length : Int)) rfl rfl (by rw [Qd (by omega)]) (Wg (w := .bool (decide (¬ n < s.op.length))) rfl rfl (by congr 1; rw [Bool.eq_iff_iff]; simp) (Wh [(0,_),(1,_),(14,_)] rfl (?_))))))))))))
  unfold VS.label
  by_cases hl : n < s.op.length
  · refine Wp rfl (fun hc => absurd hl (of_decide_eq_true hc)) (fun _ => ?_)
    have hi : s.op.length - 1 - n < ms.length := by omega
    have hm := X.st _ (List.getElem_mem hi)
    have eb : (ms[s.op.length - 1 - n]).b = s.op.getD (s.op.length - 1 - n) ⟨0,[],[],0,false⟩ := by
      have : s.op.length - 1 - n < s.op.length := by omega
      simp only [List.getD,List.getElem?_eq_getElem this,Option.getD_some]
      have h2 : (ms.map BM.b)[s.op.length - 1 - n]? = s.op[s.op.length - 1 - n]? := by rw [X.mb]
      rw [List.getElem?_map,List.getElem?_eq_getElem hi,List.getElem?_eq_getElem this] at h2
      simpa using h2
    refine Wt (Wi (Wa rfl rfl (Wa rfl rfl (Wa rfl rfl (We (v := .slice oa s.op.length oc) rfl X.g rfl (Wa rfl rfl (Wa rfl rfl (Wa rfl rfl (We (v := .slice oa s.op.length oc) rfl X.g rfl (Wa rfl rfl ?_))))))))))
    refine Wg (w := .int .i64 ((s.op.length - 1 : Nat) : Int)) rfl rfl (by rw [w64 (by omega)]; congr 1; omega) (Wa rfl rfl (Wg (w := .int .i64 (n : Int)) rfl rfl (by rw [w64 (by omega)]) (Wg (w := .int .i64 ((s.op.length - 1 - n : Nat) : Int)) rfl rfl (by rw [w64 (by omega)]; congr 1; omega) ?_)))
    refine Kb BM.enc_len rfl rfl X.o.sl hml hi fun p => ?_
    generalize hmm : ms[s.op.length - 1 - n] = m at hm eb
    refine Xl fun h1 n1 x1 g1 => Wm (l := m.enc) rfl rfl rfl rfl g1 (by simp) m.enc_cell fun h2 n2 x2 g2 => Wh [(5,_)] rfl ?_
    have x02 : Xk h h2 := x1.then x2 fun i q => .inr (by omega)
    replace g2 : At h2 h.next (.cells m.enc 0 false) := g2
    obtain ⟨X2,t2⟩ := X.ext0' x02
    have m2 := hm.turn t2.t
    refine Xd (Wi (Wa rfl rfl (We (v := .int .i64 m.b.op) rfl g2 rfl (Wg (w := .bool (decide (m.b.op = 3))) rfl rfl (by congr 1) (Wh [(5,_),(35,_)] rfl (?_))))))
    simp only [if_pos hl,← eb]
    unfold VS.labels
    refine Wp rfl (fun hc => ?_) (fun hc => ?_)
    · have e3 := of_decide_eq_true hc
      refine Xd (Wi (Wa rfl rfl (We (v := .slice m.fa m.b.fr.length m.fc) rfl g2 rfl (Wa rfl rfl (Wh [(4,_)] rfl (?_))))))
      simp only [if_pos e3]
      exact Xo (Wx.mk _ rfl ⟨_,_,O,rfl,X2,t2,m2.1⟩)
    · have e3 := of_decide_eq_false hc
      refine Wt (Wi (Wa rfl rfl (We (v := .slice m.ta m.b.to.length m.tc) rfl g2 rfl (Wa rfl rfl (Wh [(4,_)] rfl (?_))))))
      simp only [if_neg e3]
      exact Xn (Wx.mk _ rfl ⟨_,_,O,rfl,X2,t2,m2.2⟩)
  · refine Wp rfl (fun _ => ?_) (fun hc => absurd hc (by rw [decide_eq_true hl]; simp))
    refine Xd (Wi (Wa rfl rfl (Wa rfl rfl (Wa rfl rfl (Wm (l := [.bool true]) rfl rfl rfl rfl X.g (by rw [VR.cs_len]; decide) rfl fun h2 n2 x2 g2 => Wh [] rfl ?_)))))
    refine Xd (Wi (Wa rfl rfl (Wh [(4,_)] rfl ?_)))
    obtain ⟨O2,X2,t2⟩ := X.bad1 x2 g2
    simp only [if_neg hl]
    exact Xo (Wx.mk _ rfl ⟨none,0,O2,rfl,X2,t2,Stl.none⟩)
theorem C157 {n : Nat} (X : Rk K h O s) (Y : MoX h O K.pm M K.m.l) (hn : n < 4294967296) :
    Fn Try.prog 157 [ptr K.p,.int .u32 (n : Int)] h fun v h' => v = .int .u8 ((s.tableR M n).1 : Int) ∧ Rg K h O h' (s.tableR M n).2 := by
  obtain ⟨a,c,oa,oc,ms,X⟩ := X
  obtain ⟨ya,yc,yl,y1,y2,y3,y4⟩ := Y.tb
  have hsz := Y.sz.2.2.1
  refine fnK F157.fok rfl ?_
  refine Wi (Wa rfl rfl (Wh [(0,_),(1,_)] rfl (?_)))
  refine Xd (Wi (Wa rfl rfl (Wg (w := .int .u64 (n : Int)) rfl rfl (by rw [Qd (by omega)]) (Wa rfl rfl (Wa rfl rfl (Wa rfl rfl (Wa rfl rfl (We (v := .slice ya M.tables.length yc) rfl X.g y1 (Wa rfl rfl (Wg (w := .int .u64 (M.tables.length : Int)) rfl rfl (by rw [Qd (by omega)]) (Wg (w := .bool (decide (¬ n < M.tables.length))) rfl rfl (by congr 1; rw [Bool.eq_iff_iff]; simp) (Wh [(0,_),(1,_),(14,_)] rfl (?_)))))))))))))
  unfold VS.tableR
  by_cases hl : n < M.tables.length
  · refine Wp rfl (fun hc => absurd hl (of_decide_eq_true hc)) (fun _ => ?_)
    have hu : yl[(n : Int).toNat * 4 + 0]? = some (.int .u8 (M.tables.getD n 0 : Int)) := by
      rw [Int.toNat_natCast,Nat.add_zero,y4 n hl]
      simp [List.getD,hl]
    refine Wt (Wi (Wa rfl rfl (Wa rfl rfl (Wa rfl rfl (Wa rfl rfl (We (v := .slice ya M.tables.length yc) rfl X.g y1 (Wa rfl rfl ?_)))))))
    refine Zi rfl rfl y2 ⟨by omega,by omega⟩ (by decide) hu fun p q => ?_
    refine Wa rfl rfl (Wh [(4,_)] rfl (?_))
    simp only [if_pos hl]
    exact Xn (Wx.mk _ rfl ⟨rfl,Rg.of X (Tn.refl _ _ _)⟩)
  · refine Wp rfl (fun _ => ?_) (fun hc => absurd hc (by rw [decide_eq_true hl]; simp))
    refine Xd (Wi (Wa rfl rfl (Wa rfl rfl (Wa rfl rfl (Wm (l := [.bool true]) rfl rfl rfl rfl X.g (by rw [VR.cs_len]; decide) rfl fun h2 n2 x2 g2 => Wh [] rfl ?_)))))
    refine Xd (Wi (Wa rfl rfl (Wh [(4,_)] rfl ?_)))
    simp only [if_neg hl]
    exact Xo (Wx.mk _ rfl ⟨rfl,X.bad1 x2 g2⟩)
theorem C156 {n : Nat} (X : Rk K h O s) (Y : MoX h O K.pm M K.m.l) (hne : s.op ≠ []) (w : VS.Wf s) (B : Bd s) (hn : n < 4294967296) :
    Fn Try.prog 156 [ptr K.p,.int .u32 (n : Int)] h fun v h' => Rg K h O h' (if n < M.types.length then VS.fitsR (M.types.getD n ([],[])).1 (M.types.getD n ([],[])).2 s else s.fails true) := by
  obtain ⟨a,c,oa,oc,ms,X⟩ := X
  obtain ⟨ya,yc,yl,y1,y2,y3,y4⟩ := Y.ty
  have hsz := Y.sz.1
  refine fnK F156.fok rfl ?_
  refine Xd (Wi (Wa rfl rfl (Wg (w := .int .u64 (n : Int)) rfl rfl (by rw [Qd (by omega)]) (Wa rfl rfl (Wa rfl rfl (Wa rfl rfl (Wa rfl rfl (We (v := .slice ya M.types.length yc) rfl X.g y1 (Wa rfl rfl (Wg (w := .int .u64 (M.types.length : Int)) rfl rfl (by rw [Qd (by omega)]) (Wg (w := .bool (decide (¬ n < M.types.length))) rfl rfl (by congr 1; rw [Bool.eq_iff_iff]; simp) (Wh [(0,_),(1,_),(13,_)] rfl (?_)))))))))))))
  by_cases hl : n < M.types.length
  · refine Wp rfl (fun hc => absurd hl (of_decide_eq_true hc)) (fun _ => ?_)
    obtain ⟨pa,pc,ra,rc,q1,q2,q3⟩ := y4 n hl
    obtain ⟨id,off,vs,ez,ro,rfl,go,gl,gw,gi⟩ := y2.at (by omega)
    have el : M.types.getD n ([],[]) = M.types[n] := by simp [List.getD,hl]
    have v0 : vs[off + (n : Int).toNat * 2 + 0]? = some (.slice pa M.types[n].1.length pc) := by
      rw [Int.toNat_natCast,Nat.add_assoc,gi _ (by omega)]
      have := congrArg (fun l => l[0]?) q1
      rw [List.getElem?_take_of_lt (by decide),List.getElem?_drop] at this
      exact this
    have v1 : vs[off + (n : Int).toNat * 2 + 1]? = some (.slice ra M.types[n].2.length rc) := by
      rw [Int.toNat_natCast,Nat.add_assoc,gi _ (by omega)]
      have := congrArg (fun l => l[1]?) q1
      rw [List.getElem?_take_of_lt (by decide),List.getElem?_drop] at this
      exact this
    have l8 := (Y.s8.2 _ (List.getElem_mem hl))
    have l81 : M.types[n].1.length ≤ 8 := l8.1
    have l82 : M.types[n].2.length ≤ 8 := l8.2
    refine Wt (Wk (Wa rfl rfl (Wa rfl rfl (Wa rfl rfl (Wa rfl rfl (Wa rfl rfl (We (v := .slice (some ⟨id,off,none⟩) M.types.length yc) rfl X.g y1 (Wa rfl rfl (Yk rfl rfl ⟨by omega,by omega⟩ (Wa rfl rfl (We rfl go v0 ?_)))))))))))
    refine Wa rfl rfl (Wa rfl rfl (Wa rfl rfl (Wa rfl rfl (We (v := .slice (some ⟨id,off,none⟩) M.types.length yc) rfl X.g y1 (Wa rfl rfl (Yk rfl rfl ⟨by omega,by omega⟩ (Wa rfl rfl (We rfl go v1 ?_))))))))
    refine Wc rfl (C113 ⟨_,_,_,_,_,X⟩ q2 q3 hne w B (by omega) (by omega)) ?_
    rintro _ h1 g1
    rw [if_pos hl,el]
    exact Wj [] rfl (Wx.mk [] rfl g1)
  · refine Wp rfl (fun _ => ?_) (fun hc => absurd hc (by rw [decide_eq_true hl]; simp))
    refine Xd (Wi (Wa rfl rfl (Wa rfl rfl (Wa rfl rfl (Wm (l := [.bool true]) rfl rfl rfl rfl X.g (by rw [VR.cs_len]; decide) rfl fun h2 n2 x2 g2 => Wh [] rfl ?_)))))
    rw [if_neg hl]
    exact Xo (Wx.mk [] rfl (X.bad1 x2 g2))
end

end
section
/- The document's checker: how a round goes on; keeps, names, moves, bulk. -/
structure Rq (K : VR) (M : Mo) (h0 : Heap) (O0 : Nat → Prop) (b : Nat) (xe : List Value) (N : Nat) (h : Heap) (O : Nat → Prop) (s : VS) : Prop where
  X : Rk K h O s
  T : Tn K.toVK h0 h O0 O
  Y : MoX h O K.pm M K.m.l
  g : At h b (.cells xe 0 false)
  nb : ¬ O b
  w : VS.Wf s
  l : s.l.length ≤ N
  n : N ≤ 1000000000
  o : s.op.length ≤ 1000000
section
variable {K : VR} {M : Mo} {h0 h : Heap} {O0 O : Nat → Prop} {b N : Nat} {xe : List Value} {s : VS}
theorem Rq.B (R : Rq K M h0 O0 b xe N h O s) : Bd s := ⟨Nat.le_trans R.l R.n,R.o⟩
theorem Rq.go {h' : Heap} {O' : Nat → Prop} {s' : VS} {N' : Nat} (R : Rq K M h0 O0 b xe N h O s) (X : Rk K h' O' s') (t : Tn K.toVK h h' O O') (w : VS.Wf s') (l : s'.l.length ≤ N') (n : N' ≤ 1000000000) (o : s'.op.length ≤ 1000000) : Rq K M h0 O0 b xe N' h' O' s' :=
  ⟨X,R.T.trans t,R.Y.turn t.t,R.g.ext t.t.ext R.nb,t.not R.g.lt R.nb,w,l,n,o⟩
theorem Rq.kp {h' : Heap} {O' : Nat → Prop} {s' : VS} (R : Rq K M h0 O0 b xe N h O s) (hne : s.op ≠ []) (k : VS.Kp s s') (g : VS.Gr 0 s s') (X : Rk K h' O' s') (t : Tn K.toVK h h' O O') : Rq K M h0 O0 b xe N h' O' s' :=
  R.go X t (k.wf R.w hne) (by have := R.l; unfold VS.Gr at g; omega) R.n (by rw [k.op]; exact R.o)
theorem Rq.ext0 {h' : Heap} (R : Rq K M h0 O0 b xe N h O s) (x : Xk h h') : Rq K M h0 O0 b xe N h' O s ∧ Tn K.toVK h h' O O := by
  obtain ⟨a,c,oa,oc,ms,X⟩ := id R.X
  obtain ⟨X1,t1⟩ := X.ext0' x
  exact ⟨R.go X1 t1 R.w R.l R.n R.o,t1⟩
theorem Rq.flag {h' : Heap} {v : Bool} {a : Option Addr} {c : Nat} {oa : Option Addr} {oc : Nat} {ms : List BM} (R : Rq K M h0 O0 b xe N h O s) (X : RkX K h O s a c oa oc ms) (bb : Bool) (x : Ext (· = K.p) h h') (g : At h' K.p (.cells (K.cs (.slice a s.l.length c) (.slice oa s.op.length oc) (.bool v)) 0 false)) (hv : v = (s.bad || bb)) : Rq K M h0 O0 b xe N h' O (s.fails bb) ∧ Tn K.toVK h h' O O := by
  obtain ⟨X2,t2⟩ := X.fails (b := bb) x g hv
  exact ⟨R.go ⟨_,_,_,_,_,X2⟩ t2 ⟨R.w.up,R.w.le⟩ R.l R.n R.o,t2⟩
def Sq (K : VR) (M : Mo) (h0 : Heap) (O0 : Nat → Prop) (b : Nat) (xe : List Value) (N : Nat) (h : Heap) (O : Nat → Prop) (h' : Heap) (s' : VS) : Prop := ∃ O',Rq K M h0 O0 b xe N h' O' s' ∧ Tn K.toVK h h' O O'
theorem Rq.of {h' : Heap} {s' : VS} (R : Rq K M h0 O0 b xe N h O s) (hne : s.op ≠ []) (k : VS.Kp s s') (g : VS.Gr 0 s s') (v : Rg K h O h' s') : Sq K M h0 O0 b xe N h O h' s' := by
  obtain ⟨O',X,t⟩ := v
  exact ⟨O',R.kp hne k g X t,t⟩
theorem Rq.pop {t : Nat} (R : Rq K M h0 O0 b xe N h O s) (hne : s.op ≠ []) : Fn Try.prog 108 [ptr K.p,.int .u8 (t : Int)] h fun v h' => v = .int .u8 ((s.popR t).1 : Int) ∧ Sq K M h0 O0 b xe N h O h' (s.popR t).2 :=
  (C108 R.X hne R.w R.B).mono fun v h' ⟨e,q⟩ => ⟨e,R.of hne (VS.popR_kp t s) (VS.popR_gr t s) q⟩
theorem Rq.pops {ts : List Nat} {ta : Option Addr} {tn tc : Nat} (R : Rq K M h0 O0 b xe N h O s) (hne : s.op ≠ []) (st : Stl h O ta tn tc ts) (hb : tn ≤ 1000000) : Fn Try.prog 109 [ptr K.p,.slice ta tn tc] h fun v h' => Sq K M h0 O0 b xe N h O h' (s.popsR ts) :=
  (C109 R.X st hne R.w R.B hb).mono fun v h' q => R.of hne (VS.popsR_kp ts s) (VS.popsR_gr ts s) q
theorem Rq.push {ts : List Nat} {ta : Option Addr} {tn tc : Nat} (R : Rq K M h0 O0 b xe N h O s) (hne : s.op ≠ []) (st : SlA h 1 ta tn tc (bys ts)) (hb : tn ≤ 1000000) (hN : N + tn ≤ 1000000000) : Fn Try.prog 105 [ptr K.p,.slice ta tn tc] h fun v h' => Sq K M h0 O0 b xe (N + tn) h O h' (s.push ts) :=
  (C105 R.X st R.B.1 hb).mono fun v h' ⟨O',X,t⟩ => ⟨O',R.go X t ((VS.push_kp ts s).wf R.w hne) (by
    have h1 := R.l
    have h2 : ts.length = tn := by simpa using st.len
    simp [VS.push]
    omega) hN R.o,t⟩
theorem Rq.fits {i o : List Nat} {ia oa : Option Addr} {n1 c1 n2 c2 : Nat} (R : Rq K M h0 O0 b xe N h O s) (hne : s.op ≠ []) (si : Stl h O ia n1 c1 i) (so : Stl h O oa n2 c2 o) (hb : n1 ≤ 1000000) (hb2 : n2 ≤ 1000000) : Fn Try.prog 113 [ptr K.p,.slice ia n1 c1,.slice oa n2 c2] h fun v h' => Rg K h0 O0 h' (VS.fitsR i o s) :=
  (C113 R.X si so hne R.w R.B hb hb2).mono fun v h' q => Rg.trans R.T q
theorem Rq.memory (R : Rq K M h0 O0 b xe N h O s) (hne : s.op ≠ []) : Fn Try.prog 116 [ptr K.p] h fun v h' => Sq K M h0 O0 b xe N h O h' (s.memory M) :=
  (C116 R.X R.Y).mono fun v h' q => R.of hne (VS.memory_kp M s) (VS.fails_gr _ s) q
theorem Rq.label {n : Nat} (R : Rq K M h0 O0 b xe N h O s) (hne : s.op ≠ []) (hn : n < 4294967296) : Fn Try.prog 154 [ptr K.p,.int .u32 (n : Int)] h fun v h' => ∃ la lc O',v = .slice la (s.label n).1.length lc ∧ Stl h' O' la (s.label n).1.length lc (s.label n).1 ∧ Rq K M h0 O0 b xe N h' O' (s.label n).2 ∧ Tn K.toVK h h' O O' :=
  (C154 R.X R.B hn).mono fun v h' ⟨la,lc,O',e,X,t,st⟩ => ⟨la,lc,O',e,st,R.kp hne (VS.label_kp n s) (VS.label_gr n s) X t,t⟩
theorem VS.tableR_kp (M : Mo) (n : Nat) (s : VS) : VS.Kp s (s.tableR M n).2 := by
  unfold VS.tableR
  split
  · exact VS.Kp.refl s
  · exact VS.fails_kp true s
theorem VS.tableR_gr (M : Mo) (n : Nat) (s : VS) : VS.Gr 0 s (s.tableR M n).2 := by unfold VS.tableR; split <;> exact Nat.le_refl _
theorem Rq.table {n : Nat} (R : Rq K M h0 O0 b xe N h O s) (hne : s.op ≠ []) (hn : n < 4294967296) : Fn Try.prog 157 [ptr K.p,.int .u32 (n : Int)] h fun v h' => v = .int .u8 ((s.tableR M n).1 : Int) ∧ Sq K M h0 O0 b xe N h O h' (s.tableR M n).2 :=
  (C157 R.X R.Y hn).mono fun v h' ⟨e,q⟩ => ⟨e,R.of hne (VS.tableR_kp M n s) (VS.tableR_gr M n s) q⟩
theorem Rq.dead (R : Rq K M h0 O0 b xe N h O s) (hne : s.op ≠ []) : Fn Try.prog 106 [ptr K.p] h fun v h' => Rg K h0 O0 h' s.rests :=
  (C106 R.X hne R.w R.B).mono fun v h' q => Rg.trans R.T q
theorem Rq.enter {op : Int} {fr to : List Nat} {fa ta : Option Addr} {fc tc fn tn : Nat} (R : Rq K M h0 O0 b xe N h O s) (sf : Stl h O fa fn fc fr) (st : Stl h O ta tn tc to) (hb : fn ≤ 1000000) : Fn Try.prog 62 [ptr K.p,.int .i64 op,.slice fa fn fc,.slice ta tn tc] h fun v h' => Rg K h0 O0 h' (s.opens op fr to) :=
  (C62 R.X sf st R.B hb).mono fun v h' q => Rg.trans R.T q
theorem Rq.typeOf {n : Nat} (R : Rq K M h0 O0 b xe N h O s) (hne : s.op ≠ []) (hn : n < 4294967296) : Fn Try.prog 156 [ptr K.p,.int .u32 (n : Int)] h fun v h' => Rg K h0 O0 h' (if n < M.types.length then VS.fitsR (M.types.getD n ([],[])).1 (M.types.getD n ([],[])).2 s else s.fails true) :=
  (C156 R.X R.Y hne R.w R.B hn).mono fun v h' q => Rg.trans R.T q
theorem Rq.olt (R : Rq K M h0 O0 b xe N h O s) : ∀ i,O i → i < h.next := by
  obtain ⟨a,c,oa,oc,ms,X⟩ := R.X
  exact X.lt
theorem Rq.start {h1 : Heap} {cs : List Value} (X : Rk K h O s) (Y : MoX h O K.pm M K.m.l) (w : VS.Wf s) (hl : s.l.length ≤ 900000000) (ho : s.op.length ≤ 1000000) (x : Xk h h1) (n : h1.next = h.next + 1) (g : h1.get h.next = some (.cells cs 0 false)) : Rq K M h O h.next cs 900000000 h1 O s := by
  have olt : ∀ i,O i → i < h.next := by
    obtain ⟨a,c,oa,oc,ms,X⟩ := X
    exact X.lt
  obtain ⟨a,c,oa,oc,ms,X⟩ := X
  obtain ⟨X1,t1⟩ := X.ext0' x
  exact ⟨X1,t1,Y.turn t1.t,g,fun q => by have := olt _ q; omega,w,hl,by decide,ho⟩
theorem Rq.done (R : Rq K M h0 O0 b xe N h O s) : Rg K h0 O0 h s := ⟨O,R.X,R.T⟩
theorem Rq.new {h' : Heap} {n : Nat} {l : List Nat} (R : Rq K M h0 O0 b xe N h O s) (hx : h'.next = h.next + 1) (g : At h' h.next (.cells (bys l) 1 false)) (hn : l.length = n) {c : Nat} : Stl h' O (some ⟨h.next,0,none⟩) n c l := by
  have := SlA.mk' (n := n) (c := c) (sz := 1) (off := 0) g (by simp; omega) (.inr (.inr rfl))
  rw [List.drop_zero,Nat.mul_one,List.take_of_length_le (by simp; omega)] at this
  exact ⟨this,fun i q => by rw [Blk.at] at q; subst q; exact ⟨by omega,fun q => by have := R.olt _ q; omega⟩⟩
theorem VS.keepsR_kp : ∀ (ts : List Nat) (s : VS),VS.Kp s (VS.keepsR ts s).2
  | [],s => VS.Kp.refl s
  | t :: r,s => by
    unfold VS.keepsR
    split
    · exact VS.fails_kp _ s
    · rename_i h
      have k : VS.Kp s { l := s.l.dropLast,op := s.op,bad := s.bad || decide (s.l.getLastD 0 ≠ 0 ∧ s.l.getLastD 0 ≠ t) } := by
        have k1 := VS.pop_kp s
        unfold VS.pop at k1
        rw [if_neg h] at k1
        exact k1.trans (VS.fails_kp (decide (s.l.getLastD 0 ≠ 0 ∧ s.l.getLastD 0 ≠ t)) _)
      exact k.trans (VS.keepsR_kp r _)
theorem VS.keepsR_len : ∀ (ts : List Nat) (s : VS),(VS.keepsR ts s).1.length ≤ ts.length
  | [],s => Nat.le_refl _
  | t :: r,s => by
    unfold VS.keepsR
    split
    · exact Nat.zero_le _
    · have := VS.keepsR_len r { l := s.l.dropLast,op := s.op,bad := s.bad || decide (s.l.getLastD 0 ≠ 0 ∧ s.l.getLastD 0 ≠ t) }
      simp only [List.length_append,List.length_cons,List.length_nil]
      omega
theorem VS.keepsR_gr : ∀ (ts : List Nat) (s : VS),VS.Gr 0 s (VS.keepsR ts s).2
  | [],s => Nat.le_refl _
  | t :: r,s => by
    unfold VS.keepsR
    split
    · exact Nat.le_refl _
    · have := VS.keepsR_gr r { l := s.l.dropLast,op := s.op,bad := s.bad || decide (s.l.getLastD 0 ≠ 0 ∧ s.l.getLastD 0 ≠ t) }
      unfold VS.Gr at *
      simp only [List.length_dropLast] at this
      dsimp only
      omega
theorem VS.keeps_kp (ts : List Nat) (s : VS) : VS.Kp s (s.keeps ts) := (VS.keepsR_kp _ s).trans (VS.push_kp _ _)
theorem VS.keeps_gr (ts : List Nat) (s : VS) : VS.Gr ts.length s (s.keeps ts) := by
  have h1 := VS.keepsR_gr ts.reverse s
  have h2 := VS.keepsR_len ts.reverse s
  unfold VS.Gr VS.keeps VS.push at *
  rw [List.length_reverse] at h2
  simp only [List.length_append]
  omega
end

end
section
/- The document's checker: keeps. -/
abbrev VR.plus (K : VR) (S : Nat → Prop) : VR := { K with R := fun i => K.R i ∨ S i }
section
variable {K : VR} {h : Heap} {O : Nat → Prop} {s : VS} {M : Mo}
theorem Rk.app {S S' : Nat → Prop} {h2 : Heap} (X : Rk (K.plus S) h O s) (hS : ∀ i,S i → O i) (x : Ext S h h2) (hb : ∀ i,S' i → S i ∨ h.next ≤ i) (hlt : ∀ i,S' i → i < h2.next) (hR : ∀ i,S i → ¬ K.R i) :
    Rk (K.plus S') h2 (fun i => O i ∨ S' i) s ∧ Tn K.toVK h h2 O (fun i => O i ∨ S' i) := by
  have t : Turn h h2 O (fun i => O i ∨ S' i) := ⟨x.mono fun i _ q => hS i q,fun i q => q.elim .inl fun q => (hb i q).imp (hS i) id⟩
  obtain ⟨a,c,oa,oc,ms,X⟩ := X
  have z := x.next
  refine ⟨⟨a,c,oa,oc,ms,X.mb,X.g.ext x fun q => X.res _ (.inl rfl) (.inr q),X.l.ext x fun i q e => X.res i (.inr (.inl q)) (.inr e),X.o.ext x fun i q e => X.res i (.inr (.inr q)) (.inr e),fun i q => .inl (X.own i q),fun i q => q.elim (fun q => by have := X.lt i q; omega) (hlt i),fun i q r => r.elim (fun r => X.res i q (.inl r)) fun r => (hb i r).elim (fun e => X.res i q (.inr e)) fun e => by have := X.lt i (X.own i q); omega,fun i q => q.elim (fun q => by have := X.rlt i (.inl q); omega) (hlt i),X.pa,X.po,X.ao,fun m hm => (X.st m hm).turn t,X.loc.turn t,X.dec.turn t⟩,t,fun i q => x.get i (X.rlt i (.inl q)) fun e => hR i e q,fun i q => .inl q⟩
theorem Rk.drop {S : Nat → Prop} (X : Rk (K.plus S) h O s) : Rk K h O s := by
  obtain ⟨a,c,oa,oc,ms,X⟩ := X
  exact ⟨a,c,oa,oc,ms,X.mb,X.g,X.l,X.o,X.own,X.lt,fun i q r => X.res i q (.inl r),fun i q => X.rlt i (.inl q),X.pa,X.po,X.ao,X.st,X.loc,X.dec⟩
theorem Rk.plus0 {S : Nat → Prop} (X : Rk K h O s) (hS : ∀ i,¬ S i) : Rk (K.plus S) h O s := by
  obtain ⟨a,c,oa,oc,ms,X⟩ := X
  exact ⟨a,c,oa,oc,ms,X.mb,X.g,X.l,X.o,X.own,X.lt,fun i q r => r.elim (X.res i q) (hS i),fun i q => q.elim (X.rlt i) fun e => absurd e (hS i),X.pa,X.po,X.ao,X.st,X.loc,X.dec⟩
theorem Tn.drop {S : Nat → Prop} {h' : Heap} {O' : Nat → Prop} (t : Tn (K.plus S).toVK h h' O O') : Tn K.toVK h h' O O' := ⟨t.t,fun i q => t.k i (.inl q),t.m⟩
theorem VS.keepsR_cons (t : Nat) (r : List Nat) (s : VS) : VS.keepsR (t :: r) s = if s.l.length = s.top.ht then ([],s.fails (!s.top.dead))
    else ((VS.keepsR r { l := s.l.dropLast,op := s.op,bad := s.bad || decide (s.l.getLastD 0 ≠ 0 ∧ s.l.getLastD 0 ≠ t) }).1 ++ [s.l.getLastD 0],(VS.keepsR r { l := s.l.dropLast,op := s.op,bad := s.bad || decide (s.l.getLastD 0 ≠ 0 ∧ s.l.getLastD 0 ≠ t) }).2) := rfl
theorem OwS.keep {sz n c : Nat} {a : Option Addr} {l : List Value} {h' : Heap} (o : OwS h sz a n c l) (z : h.next ≤ h'.next) (k : ∀ i,Blk a i → h'.get i = h.get i) : OwS h' sz a n c l :=
  o.ext (⟨z,fun i hi hn => k i (Classical.not_not.1 hn)⟩ : Ext (fun i => ¬ Blk a i) _ _) fun i q hn => hn q
theorem SlA.keep {sz n c : Nat} {a : Option Addr} {l : List Value} {h' : Heap} (o : SlA h sz a n c l) (z : h.next ≤ h'.next) (k : ∀ i,Blk a i → h'.get i = h.get i) : SlA h' sz a n c l :=
  o.ext (⟨z,fun i hi hn => k i (Classical.not_not.1 hn)⟩ : Ext (fun i => ¬ Blk a i) _ _) fun i q hn => hn q
set_option maxHeartbeats 2000000 in
theorem C155 {ts : List Nat} {ta : Option Addr} {tn tc : Nat} (X : Rk K h O s) (st : Stl h O ta tn tc ts) (hne : s.op ≠ []) (w : VS.Wf s) (B : Bd s) (hb : tn ≤ 1000) (hB : s.l.length + tn ≤ 1000000000) :
    Fn Try.prog 155 [ptr K.p,.slice ta tn tc] h fun v h' => Rg K h O h' (s.keeps ts) := by
  have hn := st.len
  have hrl : ∀ i,K.R i → i < h.next := by
    obtain ⟨a,c,oa,oc,ms,X⟩ := X
    exact X.rlt
  have B2 := B.2
  refine fnK F155.fok rfl ?_
  refine Wi (Wa rfl rfl (Wh [(0,_),(1,_),(4,_)] rfl (?_)))
  refine Ww (fun e' h' => ∃ (O' : Nat → Prop) (P : List Nat) (pa : Option Addr) (pc : Nat) (s' : VS) (r : Env),(e' = (0,ptr K.p) :: (4,.slice pa P.length pc) :: r ∨ ∃ v,e' = (0,ptr K.p) :: (1,v) :: (4,.slice pa P.length pc) :: r) ∧ Rk (K.plus (Blk pa)) h' O' s' ∧ Tn K.toVK h h' O O' ∧ SlA h' 1 pa P.length pc (bys P) ∧ P.length ≤ tn ∧ VS.Kp s s' ∧ VS.Gr 0 s s' ∧ VS.keepsR ts.reverse s = (P.reverse,s')) ?_ ?_
  · refine Wi (Wa rfl rfl (Wa rfl rfl (Wg (w := .int .i64 ((tn : Int) - 1)) rfl rfl (by rw [w64 (by omega)]) (Wa rfl rfl (Wh [(0,_),(1,_),(4,_),(5,_)] rfl (?_))))))
    refine Yw ?_
    refine Ym (fun k e h' => ∃ (j : Nat) (O' : Nat → Prop) (P : List Nat) (pa : Option Addr) (pc : Nat) (s' : VS),e = [(0,ptr K.p),(1,.slice ta tn tc),(4,.slice pa P.length pc),(5,.int .i64 ((j : Int) - 1))] ∧ j + P.length = tn ∧ k = j ∧ Rk (K.plus (Blk pa)) h' O' s' ∧ Tn K.toVK h h' O O' ∧ OwS h' 1 pa P.length pc (bys P) ∧ (∀ i,Blk pa i → O' i ∧ h.next ≤ i) ∧ VS.Kp s s' ∧ VS.Gr 0 s s' ∧
      VS.keepsR ts.reverse s = ((VS.keepsR (ts.take j).reverse s').1 ++ P.reverse,(VS.keepsR (ts.take j).reverse s').2)) ?_ (k := tn) ⟨tn,O,[],none,0,s,rfl,rfl,rfl,X.plus0 fun i => Blk.none,Tn.refl _ _ _,OwS.none,fun i q => absurd q Blk.none,VS.Kp.refl s,Nat.le_refl _,by rw [← hn,List.take_length]; simp⟩
    rintro j e' h1 ⟨_,O1,P,pa,pc,s1,rfl,hj,rfl,X1,t1,oP,bP,k1,g1,law⟩
    have g1' := g1
    unfold VS.Gr at g1'
    refine Xd (Wi (Wa rfl rfl (Wa rfl rfl (Wh [(0,_),(1,_),(4,_),(5,_),(13,_)] rfl (?_)))))
    refine Wp rfl (fun hc => ?_) (fun hc => ?_)
    · have hj0 : 0 < j := by have := of_decide_eq_true hc; omega
      obtain ⟨i,rfl⟩ : ∃ i,j = i + 1 := ⟨j - 1,by omega⟩
      have hi : i < ts.length := by omega
      have eI : ((i + 1 : Nat) : Int) - 1 = (i : Int) := by omega
      have er : (ts.take (i + 1)).reverse = ts[i] :: (ts.take i).reverse := by
        rw [List.take_succ_eq_append_getElem hi,List.reverse_append]; rfl
      rw [er] at law
      have w1 := k1.wf w hne
      have hne1 := k1.ne hne
      have B1 : Bd s1 := B.kp k1 g1
      refine Wt (Xa ?_)
      obtain ⟨a,c,oa,oc,ms,Y⟩ := id X1
      refine Wi (Wa rfl rfl (Wc rfl (C153 (K := K.plus (Blk pa)) Y hne1 B1) ?_))
      rintro _ _ ⟨id,off,vs,m,rfl,rfl,rfl,go,hl,hw,hm,hmb,hmm,hcell⟩
      have c3 : vs[off + (s1.op.length - 1) * 5 + 3]? = some (.int .i64 (s1.top.ht : Int)) := by rw [hcell 3 (by decide),← hmb]; rfl
      have c4 : vs[off + (s1.op.length - 1) * 5 + 4]? = some (.bool s1.top.dead) := by rw [hcell 4 (by decide),← hmb]; rfl
      refine Wa rfl rfl (Wh [(0,_),(1,_),(4,_),(5,_),(6,_)] rfl ?_)
      refine Xd (Wi (Wa rfl rfl (Wa rfl rfl (Wa rfl rfl (We (v := .slice a s1.l.length c) rfl Y.g rfl (Wa rfl rfl (Wa rfl rfl (Wa rfl rfl (Wa rfl rfl (We (v := .int .i64 (s1.top.ht : Int)) rfl go c3 ?_))))))))))
      refine Wg (w := .bool (decide (s1.l.length = s1.top.ht))) rfl rfl (by congr 1; rw [Bool.eq_iff_iff]; simp; omega) (Wh [(0,_),(1,_),(4,_),(5,_),(6,_),(27,_)] rfl (?_))
      rw [VS.keepsR_cons] at law
      refine Wp rfl (fun hc => ?_) (fun hc => ?_)
      · have he := of_decide_eq_true hc
        rw [if_pos he] at law
        refine Xd (Ww (fun e' h' => e' = [(0,ptr K.p),(4,.slice pa P.length pc)] ∧ RkX (K.plus (Blk pa)) h' O1 (s1.fails (!s1.top.dead)) a c (some ⟨id,off,none⟩) oc ms ∧ Tn (K.plus (Blk pa)).toVK h1 h' O1 O1) ?_ ?_)
        · refine Wk (Wa rfl rfl (Wa rfl rfl (Wa rfl rfl (Wa rfl rfl (We (v := .bool s1.bad) rfl Y.g rfl (Wa rfl rfl ?_))))))
          cases hbd : s1.bad with
          | true =>
            refine Wb rfl (Wb rfl (Wb rfl (Wb rfl (Wb rfl (Wa rfl rfl (Wa rfl rfl (Wa rfl rfl (Wm (l := [.bool true]) rfl rfl rfl rfl Y.g (by rw [VR.cs_len]; decide) rfl fun h2 n2 x2 g2 => Wj [(0,_),(4,_)] rfl ?_))))))))
            exact ⟨rfl,Y.fails (b := !s1.top.dead) x2 g2 (by rw [hbd]; rfl)⟩
          | false =>
            refine Wd rfl (Wa rfl rfl (Wd rfl (Wa rfl rfl (Wd rfl (Wa rfl rfl (Wd rfl (We (v := .bool s1.top.dead) rfl go c4 (Wd rfl (Wa rfl rfl (Wa rfl rfl (Wa rfl rfl (Wa rfl rfl (Wm (l := [.bool (!s1.top.dead)]) rfl rfl rfl rfl Y.g (by rw [VR.cs_len]; decide) rfl fun h2 n2 x2 g2 => Wj [(0,_),(4,_)] rfl ?_)))))))))))))
            exact ⟨rfl,Y.fails (b := !s1.top.dead) x2 g2 (by rw [hbd]; rfl)⟩
        rintro _ h2 ⟨rfl,X2,t2⟩
        refine Xv (bx_ne rfl (Xu ?_))
        exact ⟨O1,P,pa,pc,s1.fails (!s1.top.dead),[],.inl rfl,⟨_,_,_,_,_,X2⟩,t1.trans t2.drop,(OwS.keep oP t2.t.ext.next fun i q => t2.k i (.inr q)).sl,by omega,k1.trans (VS.fails_kp _ _),g1,by rw [law]; simp⟩
      · have he := of_decide_eq_false hc
        rw [if_neg he] at law
        have hle := w1.le _ (VS.top_mem hne1)
        have hpos : 0 < s1.l.length := by omega
        have hB1 := B1.1
        refine Wt (Wi (Wa rfl rfl (Wa rfl rfl (Wa rfl rfl (We (v := .slice a s1.l.length c) rfl Y.g rfl (Wa rfl rfl (Wa rfl rfl (Wa rfl rfl (We (v := .slice a s1.l.length c) rfl Y.g rfl (Wa rfl rfl ?_))))))))))
        refine Wg (w := .int .i64 ((s1.l.length - 1 : Nat) : Int)) rfl rfl (by rw [w64 (by omega)]; congr 1; omega) (Xm rfl rfl Y.l.sl ⟨by omega,by omega⟩ (getLast_u hpos) fun p => ?_)
        refine Wa rfl rfl (Wh [(0,_),(1,_),(4,_),(5,_),(7,_)] rfl (?_))
        generalize hla : s1.l.getLastD 0 = la at law ⊢
        refine Wi (Wa rfl rfl (Wa rfl rfl (Wa rfl rfl (Wa rfl rfl (We (v := .slice a s1.l.length c) rfl Y.g rfl (Wa rfl rfl (Wa rfl rfl (Wa rfl rfl (We (v := .slice a s1.l.length c) rfl Y.g rfl (Wa rfl rfl ?_))))))))))
        refine Wg (w := .int .i64 ((s1.l.length - 1 : Nat) : Int)) rfl rfl (by rw [w64 (by omega)]; congr 1; omega) (Zr rfl rfl rfl Y.l.sl.ok (Yy (by omega)) ?_)
        rw [shift01,Nat.sub_zero]
        refine Wa rfl rfl (Wa rfl rfl (Wm (l := [.slice a (s1.l.length - 1) c]) rfl rfl rfl rfl Y.g (by rw [VR.cs_len]; decide) rfl fun h2 n2 x2 g2 => ?_))
        refine Wh [(0,_),(1,_),(4,_),(5,_),(7,_)] rfl (?_)
        have X2 := Y.cut (k := s1.l.length - 1) (by omega) x2 g2
        rw [← List.dropLast_eq_take] at X2
        obtain ⟨O2,⟨a2,c2,oa2,oc2,ms2,X2⟩,t2⟩ := X2
        have k2 : VS.Kp s1 { s1 with l := s1.l.dropLast } := by
          have k1 := VS.pop_kp s1
          unfold VS.pop at k1
          rw [if_neg he] at k1
          exact k1
        have st2 := (st.turn t1.t).turn t2.t
        have hu : (bys ts)[(((i + 1 : Nat) : Int) - 1).toNat]? = some (.int .u8 (ts[i] : Int)) := by
          rw [eI,Int.toNat_natCast,List.getElem?_map,List.getElem?_eq_getElem hi]; rfl
        generalize hs2 : ({ s1 with l := s1.l.dropLast } : VS) = s2 at X2 k2
        have e2 : ({ l := s1.l.dropLast,op := s1.op,bad := s1.bad || decide (la ≠ 0 ∧ la ≠ ts[i]) } : VS) = s2.fails (decide (la ≠ 0 ∧ la ≠ ts[i])) := by subst hs2; rfl
        have g2' : VS.Gr 0 s1 s2 := by
          subst hs2
          show s1.l.dropLast.length ≤ _
          rw [List.length_dropLast]; omega
        rw [e2] at law
        refine Ww (fun e' h' => e' = [(0,ptr K.p),(1,.slice ta tn tc),(4,.slice pa P.length pc),(5,.int .i64 (((i + 1 : Nat) : Int) - 1)),(7,.int .u8 (la : Int))] ∧ RkX (K.plus (Blk pa)) h' O2 (s2.fails (decide (la ≠ 0 ∧ la ≠ ts[i]))) a2 c2 oa2 oc2 ms2 ∧ Tn (K.plus (Blk pa)).toVK h2 h' O2 O2) ?_ ?_
        · refine Wk (Wa rfl rfl (Wa rfl rfl (Wa rfl rfl (Wa rfl rfl (We (v := .bool s2.bad) rfl X2.g rfl (Wa rfl rfl ?_))))))
          cases hbd : s2.bad with
          | true =>
            refine Wb rfl (Wb rfl (Wb rfl (Wb rfl (Wb rfl (Wb rfl (Wb rfl (Wb rfl (Wb rfl (Wb rfl (Wa rfl rfl (Wa rfl rfl (Wa rfl rfl (Wm (l := [.bool true]) rfl rfl rfl rfl X2.g (by rw [VR.cs_len]; decide) rfl fun h3 n3 x3 g3 => Wj [(0,_),(1,_),(4,_),(5,_),(7,_)] rfl ?_)))))))))))))
            exact ⟨rfl,X2.fails (b := decide (la ≠ 0 ∧ la ≠ ts[i])) x3 g3 (by rw [hbd]; rfl)⟩
          | false =>
            refine Wd rfl (Wa rfl rfl (Wd rfl (Wg (w := .bool (decide (la ≠ 0))) rfl rfl (by congr 1; rw [Bool.eq_iff_iff]; simp) (Wd rfl (Wa rfl rfl ?_)))))
            by_cases cl : la ≠ 0
            · rw [show decide (la ≠ 0) = true from decide_eq_true cl]
              refine Wd rfl (Wa rfl rfl (Wd rfl (Wa rfl rfl (Wd rfl (Wa rfl rfl (Wd rfl (Wops_idxG rfl rfl st2.1 ⟨by omega,by omega⟩ hu (fun p => rfl) fun p => ?_)))))))
              refine Wd rfl (Wg (w := .bool (decide (la ≠ ts[i]))) rfl rfl (by congr 1; rw [Bool.eq_iff_iff]; simp; omega) (Wd rfl (Wa rfl rfl (Wa rfl rfl (Wa rfl rfl (Wa rfl rfl (Wm (l := [.bool (decide (la ≠ ts[i]))]) rfl rfl rfl rfl X2.g (by rw [VR.cs_len]; decide) rfl fun h3 n3 x3 g3 => Wj [(0,_),(1,_),(4,_),(5,_),(7,_)] rfl ?_)))))))
              exact ⟨rfl,X2.fails (b := decide (la ≠ 0 ∧ la ≠ ts[i])) x3 g3 (by rw [hbd]; simp [cl])⟩
            · rw [show decide (la ≠ 0) = false from decide_eq_false cl]
              refine Wb rfl (Wb rfl (Wb rfl (Wb rfl (Wb rfl (Wb rfl (Wd rfl (Wa rfl rfl (Wa rfl rfl (Wa rfl rfl (Wa rfl rfl (Wm (l := [.bool false]) rfl rfl rfl rfl X2.g (by rw [VR.cs_len]; decide) rfl fun h3 n3 x3 g3 => Wj [(0,_),(1,_),(4,_),(5,_),(7,_)] rfl ?_)))))))))))
              exact ⟨rfl,X2.fails (b := decide (la ≠ 0 ∧ la ≠ ts[i])) x3 g3 (by rw [hbd]; simp [cl])⟩
        rintro _ h3 ⟨rfl,X3,t3⟩
        have t13 := t2.trans t3
        have oP3 := OwS.keep oP t13.t.ext.next fun i q => t13.k i (.inr q)
        refine Wk (Wa rfl rfl (Wa rfl rfl (Wl rfl rfl fun h4 n4 x4 g4 => ?_)))
        have s4 : SlA h4 1 (some ⟨h3.next,0,none⟩) 1 1 (bys [la]) := SlA.mk' (n := 1) (c := 1) (sz := 1) (off := 0) g4 (Nat.le_refl 1) (.inr (.inr rfl))
        refine Zf rfl rfl (oP3.ext x4) rfl s4.first ⟨by omega,by omega⟩ rfl (Vy _) (by decide) fun h5 a5 c5 x5 o5 b5 => Wa rfl rfl (Wj [(0,_),(1,_),(4,_),(5,_)] rfl ?_)
        obtain ⟨X4,t4⟩ := X3.ext0' x4
        have bO : ∀ j,Blk pa j → O2 j := fun j q => t2.m j ((bP j q).1)
        obtain ⟨X5,t5⟩ := X4.app (S' := Blk a5) bO x5 b5 (fun j q => o5.lt q) (fun j q r => by have := (bP j q).2; have := hrl j r; omega)
        refine Wk (Wa rfl rfl (Wa rfl rfl (Wa rfl rfl (Wj [(0,_),(1,_),(4,_),(5,_)] rfl ?_))))
        have nx : h.next ≤ h4.next := by have := t1.t.ext.next; have := t13.t.ext.next; have := x4.next; omega
        refine ⟨i,by omega,i,_,P ++ [la],a5,c5,s2.fails (decide (la ≠ 0 ∧ la ≠ ts[i])),?_,by simp; omega,rfl,X5,((t1.trans t13.drop).trans t4.drop).trans t5,?_,fun j q => ⟨.inr q,(b5 j q).elim (fun q => (bP j q).2) fun q => by omega⟩,(k1.trans k2).trans (VS.fails_kp _ _),?_,?_⟩
        · rw [w64 (by omega),eI,List.length_append]; rfl
        · rw [List.length_append,bys_app]; exact o5
        · unfold VS.Gr at *
          show s2.l.length ≤ _
          omega
        · rw [law]; simp
    · have hj0 : j = 0 := by have := of_decide_eq_false hc; omega
      subst hj0
      refine Xv (Xu ?_)
      simp only [List.take_zero,List.reverse_nil,VS.keepsR,List.nil_append] at law
      exact ⟨O1,P,pa,pc,s1,_,.inr ⟨_,rfl⟩,X1,t1,oP.sl,by omega,k1,g1,law⟩
  · rintro e0 h1 ⟨O1,P,pa,pc,s1,r,he0,X1,t1,sP,hP,k1,g1,law⟩
    have hks : s.keeps ts = s1.push P.reverse := by unfold VS.keeps; rw [law]
    rw [hks]
    unfold VS.Gr at g1
    refine Ww (fun e' h' => e' = [(0,ptr K.p),(4,.slice pa P.length pc),(8,.int .i64 ((P.length : Int) - 1))] ∧ h1 = h') ?_ ?_
    · rcases he0 with rfl | ⟨v,rfl⟩
      · exact Wk (Wa rfl rfl (Wa rfl rfl (Wg (w := .int .i64 ((P.length : Int) - 1)) rfl rfl (by rw [w64 (by omega)]) (Wa rfl rfl (Wj [(0,_),(4,_),(8,_)] rfl ⟨rfl,rfl⟩)))))
      · exact Wk (Wa rfl rfl (Wa rfl rfl (Wg (w := .int .i64 ((P.length : Int) - 1)) rfl rfl (by rw [w64 (by omega)]) (Wa rfl rfl (Wj [(0,_),(4,_),(8,_)] rfl ⟨rfl,rfl⟩)))))
    rintro _ _ ⟨rfl,rfl⟩
    refine Yw ?_
    refine Ym (fun k e h' => ∃ (j : Nat) (O' : Nat → Prop),e = [(0,ptr K.p),(4,.slice pa P.length pc),(8,.int .i64 ((j : Int) - 1))] ∧ j ≤ P.length ∧ k = j ∧ Rk (K.plus (Blk pa)) h' O' (s1.push (P.drop j).reverse) ∧ Tn (K.plus (Blk pa)).toVK h1 h' O1 O') ?_ (k := P.length) ⟨P.length,O1,rfl,Nat.le_refl _,rfl,?_,Tn.refl _ _ _⟩
    · rintro j e' h2 ⟨_,O2,rfl,hj,rfl,X2,t2⟩
      refine Xd (Wi (Wa rfl rfl (Wa rfl rfl (Wh [(0,_),(4,_),(8,_),(95,_)] rfl (?_)))))
      refine Wp rfl (fun hc => ?_) (fun hc => ?_)
      · have hj0 : 0 < j := by have := of_decide_eq_true hc; omega
        obtain ⟨i,rfl⟩ : ∃ i,j = i + 1 := ⟨j - 1,by omega⟩
        have eI : ((i + 1 : Nat) : Int) - 1 = (i : Int) := by omega
        have hi : i < P.length := by omega
        have hu : (bys P)[(((i + 1 : Nat) : Int) - 1).toNat]? = some (.int .u8 (P[i] : Int)) := by
          rw [eI,Int.toNat_natCast,List.getElem?_map,List.getElem?_eq_getElem hi]; rfl
        have sP2 := SlA.keep sP t2.t.ext.next fun i q => t2.k i (.inr q)
        refine Wt (Xa ?_)
        refine Wk (Wa rfl rfl (Wa rfl rfl (Wa rfl rfl (Xm rfl rfl sP2 ⟨by omega,by omega⟩ hu fun p => Wl rfl rfl fun h3 n3 x3 g3 => ?_))))
        have s3 : SlA h3 1 (some ⟨h2.next,0,none⟩) 1 1 (bys [P[i]]) := SlA.mk' (n := 1) (c := 1) (sz := 1) (off := 0) g3 (Nat.le_refl 1) (.inr (.inr rfl))
        obtain ⟨a,c,oa,oc,ms,X2⟩ := X2
        obtain ⟨X3,t3⟩ := X2.ext0' x3
        refine Wc rfl (C105 (K := K.plus (Blk pa)) X3 s3 (by simp only [VS.push,List.length_append,List.length_reverse,List.length_drop]; omega) (by decide)) ?_
        rintro _ h4 ⟨O4,X4,t4⟩
        refine Wj [(0,_),(4,_),(8,_)] rfl ?_
        refine Wk (Wa rfl rfl (Wa rfl rfl (Wa rfl rfl (Wj [(0,_),(4,_),(8,_)] rfl (?_)))))
        have ep : (s1.push (P.drop (i + 1)).reverse).push [P[i]] = s1.push (P.drop i).reverse := by
          rw [List.drop_eq_getElem_cons hi,List.reverse_cons]
          simp [VS.push]
        rw [ep] at X4
        refine ⟨i,by omega,i,O4,?_,by omega,rfl,X4,(t2.trans t3).trans t4⟩
        rw [w64 (by omega),eI]
      · have hj0 : j = 0 := by have := of_decide_eq_false hc; omega
        subst hj0
        rw [List.drop_zero] at X2
        refine Xv (Xu ?_)
        exact Wx.mk [] rfl ⟨O2,X2.drop,t1.trans t2.drop⟩
    · rw [List.drop_length]
      have : s1.push [].reverse = s1 := by simp [VS.push]
      rw [this]; exact X1
end

end
end Go.Dx.SYtpkefdoleieloaa
