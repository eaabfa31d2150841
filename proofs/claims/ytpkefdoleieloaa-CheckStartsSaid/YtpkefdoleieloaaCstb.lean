/- Texts merged: Vc1.lean, Vc2.lean, Vc3.lean, Vc4.lean, Vc5.lean, Vc6.lean. -/
import Derived.Test.YtpkefdoleieloaaCsta
namespace Go.Dx.SYtpkefdoleieloaa
open Go.Proofs
set_option linter.unusedVariables false
set_option linter.unusedSimpArgs false
section
/- val's checker, as it lies; its stack and its blocks. -/
abbrev ptr (p : Nat) : Value := .pointer (some ⟨p,0,none⟩)
abbrev Xf : Value := .slice none 0 0
abbrev bys (xs : List Nat) : List Value := xs.map fun (x : Nat) => Value.int .u8 (x : Int)
abbrev Qc (xs : List Nat) : List Value := xs.map fun (x : Nat) => Value.int .u32 (x : Int)
theorem bys_cell (xs : List Nat) : (bys xs).all isCell = true := by simp [bys,isCell]
theorem bys_app (xs ys : List Nat) : bys (xs ++ ys) = bys xs ++ bys ys := by simp [bys]
def Stl (h : Heap) (O : Nat → Prop) (a : Option Addr) (n c : Nat) (xs : List Nat) : Prop := SlA h 1 a n c (bys xs) ∧ ∀ i,Blk a i → i < h.next ∧ ¬ O i
theorem Stl.turn {h h' : Heap} {O O' : Nat → Prop} {a : Option Addr} {n c : Nat} {xs : List Nat} (s : Stl h O a n c xs) (t : Turn h h' O O') : Stl h' O' a n c xs :=
  ⟨s.1.ext t.ext fun i r => (s.2 i r).2,fun i r => ⟨Nat.lt_of_lt_of_le (s.2 i r).1 t.ext.next,fun q => (t.own i q).elim (s.2 i r).2 fun w => by have := (s.2 i r).1; omega⟩⟩
theorem Stl.ext0 {h h' : Heap} {O : Nat → Prop} {a : Option Addr} {n c : Nat} {xs : List Nat} (s : Stl h O a n c xs) (x : Xe h h') : Stl h' O a n c xs :=
  ⟨s.1.ext x,fun i r => ⟨Nat.lt_of_lt_of_le (s.2 i r).1 x.next,(s.2 i r).2⟩⟩
theorem Stl.none {h : Heap} {O : Nat → Prop} : Stl h O .none 0 0 [] := ⟨SlA.none,fun i r => absurd r Blk.none⟩
theorem Stl.len {h : Heap} {O : Nat → Prop} {a : Option Addr} {n c : Nat} {xs : List Nat} (s : Stl h O a n c xs) : xs.length = n := by simpa using s.1.len
theorem Turn.ext0' {h h' : Heap} {O : Nat → Prop} (x : Xe h h') : Turn h h' O O := ⟨x.of0,fun i q => .inl q⟩
structure BM where
  b : VB
  fa : Option Addr
  fc : Nat
  ta : Option Addr
  tc : Nat
def BM.enc (x : BM) : List Value := [.int .i64 x.b.op,.slice x.fa x.b.fr.length x.fc,.slice x.ta x.b.to.length x.tc,.int .i64 (x.b.ht : Int),.bool x.b.dead]
theorem BM.enc_len (x : BM) : x.enc.length = 5 := rfl
theorem BM.enc_cell (x : BM) : x.enc.all isCell = true := rfl
def BM.St (h : Heap) (O : Nat → Prop) (x : BM) : Prop := Stl h O x.fa x.b.fr.length x.fc x.b.fr ∧ Stl h O x.ta x.b.to.length x.tc x.b.to
theorem BM.St.turn {h h' : Heap} {O O' : Nat → Prop} {x : BM} (s : x.St h O) (t : Turn h h' O O') : x.St h' O' := ⟨s.1.turn t,s.2.turn t⟩
structure VK where
  p : Nat
  pm : Nat
  la : Option Addr
  lc : Nat
  L : List Nat
  R : Nat → Prop
structure CkX (K : VK) (h : Heap) (O : Nat → Prop) (s : VS) (a : Option Addr) (c : Nat) (oa : Option Addr) (oc : Nat) (ms : List BM) : Prop where
  mb : ms.map BM.b = s.op
  g : At h K.p (.cells [.slice a s.l.length c,ptr K.pm,.slice K.la K.L.length K.lc,.slice oa s.op.length oc,.bool s.bad] 0 false)
  l : OwS h 1 a s.l.length c (bys s.l)
  o : OwS h 5 oa s.op.length oc (en BM.enc ms)
  own : ∀ i,i = K.p ∨ Blk a i ∨ Blk oa i → O i
  lt : ∀ i,O i → i < h.next
  res : ∀ i,i = K.p ∨ Blk a i ∨ Blk oa i → ¬ K.R i
  rlt : ∀ i,K.R i → i < h.next
  pa : ¬ Blk a K.p
  po : ¬ Blk oa K.p
  ao : ∀ i,Blk a i → ¬ Blk oa i
  st : ∀ m ∈ ms,m.St h O
  loc : Stl h O K.la K.L.length K.lc K.L
def Ck (K : VK) (h : Heap) (O : Nat → Prop) (s : VS) : Prop := ∃ a c oa oc ms,CkX K h O s a c oa oc ms
structure Tn (K : VK) (h h' : Heap) (O O' : Nat → Prop) : Prop where
  t : Turn h h' O O'
  k : ∀ i,K.R i → h'.get i = h.get i
  m : ∀ i,O i → O' i
theorem Tn.trans {K : VK} {h h1 h2 : Heap} {O O1 O2 : Nat → Prop} (a : Tn K h h1 O O1) (b : Tn K h1 h2 O1 O2) : Tn K h h2 O O2 :=
  ⟨a.t.trans b.t,fun i q => by rw [b.k i q,a.k i q],fun i q => b.m i (a.m i q)⟩
def Vg (K : VK) (h : Heap) (O : Nat → Prop) (h' : Heap) (s' : VS) : Prop := ∃ O',Ck K h' O' s' ∧ Tn K h h' O O'
theorem Vg.trans {K : VK} {h h1 h2 : Heap} {O O1 : Nat → Prop} {s2 : VS} (t : Tn K h h1 O O1) (g : Vg K h1 O1 h2 s2) : Vg K h O h2 s2 := by
  obtain ⟨O2,c,t2⟩ := g
  exact ⟨O2,c,t.trans t2⟩
theorem CkX.ext0 {K : VK} {h h' : Heap} {O : Nat → Prop} {s : VS} {a : Option Addr} {c : Nat} {oa : Option Addr} {oc : Nat} {ms : List BM} (X : CkX K h O s a c oa oc ms) (x : Xe h h') : CkX K h' O s a c oa oc ms :=
  ⟨X.mb,X.g.ext x,X.l.ext x,X.o.ext x,X.own,fun i q => Nat.lt_of_lt_of_le (X.lt i q) x.next,X.res,fun i q => Nat.lt_of_lt_of_le (X.rlt i q) x.next,X.pa,X.po,X.ao,fun m hm => (X.st m hm).turn (Turn.ext0' x),X.loc.ext0 x⟩
def Bd (s : VS) : Prop := s.l.length ≤ 1000000000 ∧ s.op.length ≤ 1000000
theorem Bd.kp {s s' : VS} (b : Bd s) (k : VS.Kp s s') (g : VS.Gr 0 s s') : Bd s' := ⟨Nat.le_trans g b.1,by rw [k.op]; exact b.2⟩
section
variable {K : VK} {h : Heap} {O : Nat → Prop} {s : VS} {a : Option Addr} {c : Nat} {oa : Option Addr} {oc : Nat} {ms : List BM}
theorem CkX.len (X : CkX K h O s a c oa oc ms) : ms.length = s.op.length := by rw [← X.mb,List.length_map]
theorem CkX.bad (X : CkX K h O s a c oa oc ms) {h' : Heap} {b : Bool} (x : Ext (· = K.p) h h') (g : At h' K.p (.cells [.slice a s.l.length c,ptr K.pm,.slice K.la K.L.length K.lc,.slice oa s.op.length oc,.bool b] 0 false)) : CkX K h' O { s with bad := b } a c oa oc ms ∧ Tn K h h' O O := by
  have t : Turn h h' O O := ⟨x.mono fun i _ q => X.own i (.inl q),fun i q => .inl q⟩
  exact ⟨⟨X.mb,g,X.l.ext x fun i q e => X.pa (e ▸ q),X.o.ext x fun i q e => X.po (e ▸ q),X.own,fun i q => Nat.lt_of_lt_of_le (X.lt i q) x.next,X.res,fun i q => Nat.lt_of_lt_of_le (X.rlt i q) x.next,X.pa,X.po,X.ao,fun m hm => (X.st m hm).turn t,X.loc.turn t⟩,t,fun i q => x.get i (X.rlt i q) fun e => X.res _ (.inl rfl) (e ▸ q),fun i q => q⟩
theorem Vt {b : Bool} (X : CkX K h O s a c oa oc ms) : Fn Try.prog 100 [ptr K.p,.bool b] h fun v h' => CkX K h' O (s.fails b) a c oa oc ms ∧ Tn K h h' O O := by
  refine fnK F100.fok rfl ?_
  refine Wl (Wa rfl rfl (Wa rfl rfl (Wa rfl rfl (Wa rfl rfl (We (v := .bool s.bad) rfl X.g rfl (Wa rfl rfl ?_))))))
  have fin : ∀ {e : Env} {Q : Kn},e.get 4 = some (ptr K.p) → e.get 11 = some (.bool (s.bad || b)) → (∀ e2 h2,CkX K h2 O (s.fails b) a c oa oc ms ∧ Tn K h h2 O O → Q e2 h2) →
      Xd Try.prog [⟨some 12,none,.nilc (.t 4)⟩,⟨some 13,none,.fa 4 (.t 12)⟩,⟨none,none,.st 1 (.t 13) (.t 11)⟩] e h (KL Q []) := by
    intro e Q h4 h11 hQ
    refine Wa (v := ptr K.p) (h' := h) rfl (by simp [SO.run,Arg.ev,h4]) (Wa (v := .pointer (some ⟨K.p,0 + 4,none⟩)) (h' := h) rfl (by simp [SO.run,Arg.ev,Env.put,Env.get]) ?_)
    refine Wm (l := [.bool (s.bad || b)]) (v := .bool (s.bad || b)) rfl (show Arg.ev _ (.t 11) = _ from h11) rfl rfl X.g (by simp) rfl fun h2 n2 x2 g2 => ?_
    refine Wk [] rfl (hQ _ _ ?_)
    exact X.bad x2 g2
  cases hb : s.bad with
  | true =>
    refine Wg rfl (Wa rfl rfl ?_)
    exact fin rfl (by rw [hb]; rfl) fun e2 h2 q => Ws.mk [] rfl q
  | false =>
    refine Wh rfl (Wa rfl rfl (Wa rfl rfl ?_))
    exact fin rfl (by rw [hb]; rfl) fun e2 h2 q => Ws.mk [] rfl q
theorem C100 {b : Bool} (X : Ck K h O s) : Fn Try.prog 100 [ptr K.p,.bool b] h fun v h' => Vg K h O h' (s.fails b) := by
  obtain ⟨a,c,oa,oc,ms,X⟩ := X
  exact (Vt X).mono fun v h' ⟨q,t⟩ => ⟨O,⟨a,c,oa,oc,ms,q⟩,t⟩
theorem CkX.setL (X : CkX K h O s a c oa oc ms) {h1 h2 : Heap} {l' : List Nat} {a' : Option Addr} {c' : Nat} (x1 : Ext (Blk a) h h1) (o1 : OwS h1 1 a' l'.length c' (bys l')) (b1 : ∀ i,Blk a' i → Blk a i ∨ h.next ≤ i)
    (x2 : Ext (· = K.p) h1 h2) (g : At h2 K.p (.cells [.slice a' l'.length c',ptr K.pm,.slice K.la K.L.length K.lc,.slice oa s.op.length oc,.bool s.bad] 0 false)) : Vg K h O h2 { s with l := l' } := by
  have pl := X.g.lt
  have hpa : ¬ Blk a' K.p := fun q => (b1 _ q).elim X.pa fun w => by omega
  have x : Ext O h h2 := (x1.mono fun i _ q => X.own i (.inr (.inl q))).then x2 fun i q => .inl (X.own i (.inl q))
  have z1 := x1.next
  have z2 := x2.next
  have t : Turn h h2 O (fun i => O i ∨ Blk a' i) := ⟨x,fun i q => by
    rcases q with q | q
    · exact .inl q
    · exact (b1 i q).imp (fun w => X.own i (.inr (.inl w))) id⟩
  refine ⟨_,⟨a',c',oa,oc,ms,X.mb,g,o1.ext x2 fun i q e => hpa (e ▸ q),?_,?_,?_,?_,fun i q => by have := X.rlt i q; omega,hpa,X.po,fun i q r => (b1 i q).elim (fun w => X.ao i w r) fun w => by have := X.o.lt r; omega,fun m hm => (X.st m hm).turn t,X.loc.turn t⟩,t,fun i q => ?_,fun i q => .inl q⟩
  · exact (X.o.ext x1 fun i q e => X.ao i e q).ext x2 fun i q e => X.po (e ▸ q)
  · rintro i (q | q | q)
    · exact .inl (X.own i (.inl q))
    · exact .inr q
    · exact .inl (X.own i (.inr (.inr q)))
  · rintro i (q | q)
    · have := X.lt i q; omega
    · have := o1.lt q; omega
  · rintro i (q | q | q)
    · exact X.res i (.inl q)
    · exact (b1 i q).elim (fun w => X.res i (.inr (.inl w))) fun w r => by have := X.rlt i r; omega
    · exact X.res i (.inr (.inr q))
  · have := X.rlt i q
    rw [x2.get i (by omega) fun e => X.res _ (.inl rfl) (e ▸ q),x1.get i (by omega) fun e => X.res i (.inr (.inl e)) q]
abbrev VK.more (K : VK) (b : Nat) : VK := { K with R := fun i => K.R i ∨ i = b }
theorem Ck.more (X : Ck K h O s) {h' : Heap} {b : Nat} (x : Xe h h') (h1 : h.next ≤ b) (h2 : b < h'.next) : Ck (K.more b) h' (fun i => O i ∨ i = b) s ∧ Tn K h h' O (fun i => O i ∨ i = b) := by
  have t : Turn h h' O (fun i => O i ∨ i = b) := ⟨x.of0,fun i q => q.imp id fun e => by omega⟩
  obtain ⟨a,c,oa,oc,ms,X⟩ := X
  refine ⟨⟨a,c,oa,oc,ms,X.mb,X.g.ext x,X.l.ext x,X.o.ext x,fun i q => .inl (X.own i q),fun i q => q.elim (fun q => Nat.lt_of_lt_of_le (X.lt i q) x.next) fun e => by omega,fun i q r => r.elim (X.res i q) fun e => ?_,fun i q => q.elim (fun q => Nat.lt_of_lt_of_le (X.rlt i q) x.next) fun e => by omega,X.pa,X.po,X.ao,fun m hm => (X.st m hm).turn t,X.loc.turn t⟩,t,fun i q => x.get i (X.rlt i q) fun e => e,fun i q => .inl q⟩
  have := X.lt i (X.own i q)
  omega
theorem Ck.less {b : Nat} (X : Ck (K.more b) h O s) : Ck K h O s := by
  obtain ⟨a,c,oa,oc,ms,X⟩ := X
  exact ⟨a,c,oa,oc,ms,X.mb,X.g,X.l,X.o,X.own,X.lt,fun i q r => X.res i q (.inl r),fun i q => X.rlt i (.inl q),X.pa,X.po,X.ao,X.st,X.loc⟩
theorem Ck.write {b : Nat} (X : Ck K h O s) (hb : K.R b) (ho : O b) {h' : Heap} (x : Ext (· = b) h h') : Ck K h' O s ∧ Turn h h' O O := by
  have t : Turn h h' O O := ⟨x.mono fun i _ q => q ▸ ho,fun i q => .inl q⟩
  obtain ⟨a,c,oa,oc,ms,X⟩ := X
  exact ⟨⟨a,c,oa,oc,ms,X.mb,X.g.ext x (fun e => X.res _ (.inl rfl) (e ▸ hb)),X.l.ext x fun i q e => X.res i (.inr (.inl q)) (e ▸ hb),X.o.ext x fun i q e => X.res i (.inr (.inr q)) (e ▸ hb),X.own,fun i q => Nat.lt_of_lt_of_le (X.lt i q) x.next,X.res,fun i q => Nat.lt_of_lt_of_le (X.rlt i q) x.next,X.pa,X.po,X.ao,fun m hm => (X.st m hm).turn t,X.loc.turn t⟩,t⟩
theorem Ck.rb (X : Ck K h O s) {i : Nat} (q : K.R i) : i < h.next := by
  obtain ⟨a,c,oa,oc,ms,X⟩ := X
  exact X.rlt i q
theorem C93 {ts : List Nat} {ta : Option Addr} {tn tc : Nat} (X : Ck K h O s) (st : SlA h 1 ta tn tc (bys ts)) (hb : s.l.length ≤ 1000000000) (hb2 : tn ≤ 1000000) : Fn Try.prog 93 [ptr K.p,.slice ta tn tc] h fun v h' => Vg K h O h' (s.push ts) := by
  obtain ⟨a,c,oa,oc,ms,X⟩ := X
  have hn : ts.length = tn := by simpa using st.len
  refine fnK F93.fok rfl ?_
  refine Wl (Wa rfl rfl (Wa rfl rfl (Wa rfl rfl (Wa rfl rfl (We (v := .slice a s.l.length c) rfl X.g rfl (Wa rfl rfl ?_))))))
  refine Xk (m := tn) rfl rfl X.l rfl st.first ⟨by omega,by omega⟩ (by simp; omega) (bys_cell _) (by decide) fun h1 a1 c1 x1 o1 b1 => ?_
  have g1 := X.g.ext x1 X.pa
  refine Wa rfl rfl (Wa rfl rfl (Wm (l := [.slice a1 (s.l.length + tn) c1]) rfl rfl rfl rfl g1 (by simp) rfl fun h2 n2 x2 g2 => ?_))
  refine Wk [] rfl (Ws.mk [] rfl ?_)
  have e : s.l.length + tn = (s.l ++ ts).length := by rw [List.length_append,hn]
  rw [← bys_app,e] at o1
  rw [e] at g2
  exact X.setL x1 o1 b1 x2 g2
theorem C165 (X : CkX K h O s a c oa oc ms) (hne : s.op ≠ []) (B : Bd s) : Fn Try.prog 165 [ptr K.p] h fun v h' => ∃ id off vs m,oa = some ⟨id,off,none⟩ ∧ v = .pointer (some ⟨id,off + (s.op.length - 1) * 5,none⟩) ∧ h = h' ∧ At h id (.cells vs 5 false) ∧ off + s.op.length * 5 ≤ vs.length ∧ (vs.drop off).take (s.op.length * 5) = en BM.enc ms ∧
    ms[s.op.length - 1]? = some m ∧ m.b = s.top ∧ m ∈ ms ∧ ∀ r,r < 5 → vs[off + (s.op.length - 1) * 5 + r]? = m.enc[r]? := by
  have hpos : 0 < s.op.length := List.length_pos_iff.2 hne
  rcases X.o.ex with ⟨_,q,_⟩ | ⟨id,off,vs,rfl,go,hl,hw⟩
  · omega
  have hml := X.len
  obtain ⟨m,hm⟩ : ∃ m,ms[s.op.length - 1]? = some m := ⟨ms[s.op.length - 1],List.getElem?_eq_getElem (by omega)⟩
  have hmb : m.b = s.top := by
    have h1 := VS.top_get hne
    have h2 : (ms.map BM.b)[s.op.length - 1]? = some s.top := by rw [X.mb]; exact h1
    rw [List.getElem?_map,hm] at h2
    simpa using h2
  refine fnK F165.fok rfl ?_
  refine Wd (Wa rfl rfl (Wc [(0,_)] rfl (?_)))
  refine Wd (Wa rfl rfl (Wa rfl rfl (Wa rfl rfl (We (v := .slice (some ⟨id,off,none⟩) s.op.length oc) rfl X.g rfl (Wa rfl rfl (Wa rfl rfl (Wa rfl rfl (We (v := .slice (some ⟨id,off,none⟩) s.op.length oc) rfl X.g rfl (Wa rfl rfl ?_)))))))))
  have hb40 := B.2
  refine Wi (w := .int .i64 ((s.op.length - 1 : Nat) : Int)) rfl rfl (by rw [w64 (by omega)]; congr 1; omega) (Xi rfl rfl ⟨by omega,by omega⟩ (Wa rfl rfl (Wc [(2,_)] rfl (?_))))
  refine Xo (Ws.mk _ rfl ⟨id,off,vs,m,rfl,rfl,rfl,go,hl,hw,hm,hmb,List.mem_of_getElem? hm,fun r hr => ?_⟩)
  have := win_at BM.enc_len hw hml (i := s.op.length - 1) (r := r) (by omega) hr
  rw [this]
  rw [List.getElem?_eq_getElem (by omega)] at hm
  cases hm; rfl
end

end
section
/- val's checker: pop, want, take, opens, closes, rests. -/
section
variable {K : VK} {h : Heap} {O : Nat → Prop} {s : VS}
theorem Vg.of {a : Option Addr} {c : Nat} {oa : Option Addr} {oc : Nat} {ms : List BM} {h' : Heap} {s' : VS} (X : CkX K h' O s' a c oa oc ms) (t : Tn K h h' O O) : Vg K h O h' s' := ⟨O,⟨a,c,oa,oc,ms,X⟩,t⟩
theorem CkX.cut {a : Option Addr} {c : Nat} {oa : Option Addr} {oc : Nat} {ms : List BM} (X : CkX K h O s a c oa oc ms) {k : Nat} (hk : k ≤ s.l.length) {h2 : Heap} (x2 : Ext (· = K.p) h h2)
    (g : At h2 K.p (.cells [.slice a k c,ptr K.pm,.slice K.la K.L.length K.lc,.slice oa s.op.length oc,.bool s.bad] 0 false)) : Vg K h O h2 { s with l := s.l.take k } := by
  have o1 := X.l.sub (i := 0) (j := k) (Nat.zero_le _) hk
  have e : shift a (0 * 1) = a := by
    cases a with
    | none => rfl
    | some p => simp [shift]
  rw [e] at o1
  have e2 : ((bys s.l).drop (0 * 1)).take ((k - 0) * 1) = bys (s.l.take k) := by simp [bys,List.map_take]
  rw [e2] at o1
  have e3 : k = (s.l.take k).length := by rw [List.length_take]; omega
  have e4 : k - 0 = (s.l.take k).length := by rw [List.length_take]; omega
  rw [e4] at o1
  rw [e3] at g
  refine X.setL (l' := s.l.take k) (Ext.refl _ _) o1 (fun i q => .inl q) x2 ?_
  rw [List.take_eq_take_min] at g ⊢
  exact g
theorem C144 (X : Ck K h O s) (hne : s.op ≠ []) (w : VS.Wf s) (B : Bd s) : Fn Try.prog 144 [ptr K.p] h fun v h' => v = .int .u8 (s.pop.1 : Int) ∧ Vg K h O h' s.pop.2 := by
  obtain ⟨a,c,oa,oc,ms,X⟩ := X
  have hB := B.1
  refine fnK F144.fok rfl ?_
  refine Wd (Wa rfl rfl (Wc [(0,_)] rfl (?_)))
  refine Wd (Wa rfl rfl (Wb rfl (C165 X hne B) ?_))
  rintro _ _ ⟨id,off,vs,m,rfl,rfl,rfl,go,hl,hw,hm,hmb,hmm,hcell⟩
  refine Wa rfl rfl (Wc [(0,_),(3,_)] rfl (?_))
  have c3 : vs[off + (s.op.length - 1) * 5 + 3]? = some (.int .i64 (s.top.ht : Int)) := by rw [hcell 3 (by decide),← hmb]; rfl
  have c4 : vs[off + (s.op.length - 1) * 5 + 4]? = some (.bool s.top.dead) := by rw [hcell 4 (by decide),← hmb]; rfl
  refine Xc (Wd (Wa rfl rfl (Wa rfl rfl (Wa rfl rfl (Wa rfl rfl (We (v := .slice a s.l.length c) rfl X.g rfl (Wa rfl rfl (Wa rfl rfl (Wa rfl rfl (Wa rfl rfl (We (v := .int .i64 (s.top.ht : Int)) rfl go c3 ?_)))))))))))
  refine Wi (w := .bool (decide (s.l.length = s.top.ht))) rfl rfl (by congr 1; rw [Bool.eq_iff_iff]; simp; omega) (Wc [(0,_),(3,_),(17,_)] rfl (?_))
  refine Wo rfl (fun hc => ?_) (fun hc => ?_)
  · have he := of_decide_eq_true hc
    refine Xc (Wd (Wa rfl rfl (Wa rfl rfl (Wa rfl rfl (Wa rfl rfl (We (v := .bool s.top.dead) rfl go c4 (Wa rfl rfl (Wb rfl (Vt (b := !s.top.dead) X) ?_))))))))
    rintro _ h1 ⟨X1,t1⟩
    refine Wc [] rfl (?_)
    refine Xc (Wd (Wa rfl rfl (Wc [(2,_)] rfl (?_))))
    refine Yo (Ws.mk _ rfl ?_)
    unfold VS.pop
    rw [if_pos he]
    exact ⟨rfl,Vg.of X1 t1⟩
  · have he := of_decide_eq_false hc
    have hle := w.le _ (VS.top_mem hne)
    have hpos : 0 < s.l.length := by omega
    refine Wr (Wd (Wa rfl rfl (Wa rfl rfl (Wa rfl rfl (Wa rfl rfl (We (v := .slice a s.l.length c) rfl X.g rfl (Wa rfl rfl (Wa rfl rfl (Wa rfl rfl (Wa rfl rfl (We (v := .slice a s.l.length c) rfl X.g rfl (Wa rfl rfl ?_))))))))))))
    have hu : (bys s.l)[((s.l.length - 1 : Nat) : Int).toNat]? = some (.int .u8 ((s.l.getLastD 0 : Nat) : Int)) := by
      rw [Int.toNat_natCast,List.getElem?_map,List.getLastD_eq_getLast?,List.getLast?_eq_getElem?,List.getElem?_eq_getElem (by omega)]; rfl
    refine Wi (w := .int .i64 ((s.l.length - 1 : Nat) : Int)) rfl rfl (by rw [w64 (by omega)]; congr 1; omega) (Xx rfl rfl X.l.sl ⟨by omega,by omega⟩ hu fun p => ?_)
    refine Wa rfl rfl (Wc [(0,_),(4,_)] rfl (?_))
    refine Wd (Wa rfl rfl (Wa rfl rfl (Wa rfl rfl (Wa rfl rfl (Wa rfl rfl (We (v := .slice a s.l.length c) rfl X.g rfl (Wa rfl rfl (Wa rfl rfl (Wa rfl rfl (Wa rfl rfl (We (v := .slice a s.l.length c) rfl X.g rfl (Wa rfl rfl ?_))))))))))))
    refine Wi (w := .int .i64 ((s.l.length - 1 : Nat) : Int)) rfl rfl (by rw [w64 (by omega)]; congr 1; omega) (Jo rfl rfl rfl X.l.sl.ok (Qq (by omega)) ?_)
    have e : shift a (0 * 1) = a := by
      cases a with
      | none => rfl
      | some p => simp [shift]
    rw [e,Nat.sub_zero]
    refine Wa rfl rfl (Wa rfl rfl (Wa rfl rfl (Wm (l := [.slice a (s.l.length - 1) c]) rfl rfl rfl rfl X.g (by simp) rfl fun h2 n2 x2 g2 => ?_)))
    refine Wc [(4,_)] rfl (?_)
    refine Wd (Wa rfl rfl (Wa rfl rfl (Wc [(2,_)] rfl (?_))))
    refine Xo (Ws.mk _ rfl ?_)
    unfold VS.pop
    rw [if_neg he]
    refine ⟨rfl,?_⟩
    have := X.cut (k := s.l.length - 1) (by omega) x2 g2
    rw [← List.dropLast_eq_take] at this
    exact this
theorem C135 {t : Nat} (X : Ck K h O s) (hne : s.op ≠ []) (w : VS.Wf s) (B : Bd s) : Fn Try.prog 135 [ptr K.p,.int .u8 (t : Int)] h fun v h' => v = .int .u8 ((s.want t).1 : Int) ∧ Vg K h O h' (s.want t).2 := by
  refine fnK F135.fok rfl ?_
  refine Wd (Wa rfl rfl (Wc [(0,_),(1,_)] rfl (?_)))
  refine Wd (Wa rfl rfl (Wb rfl (C144 X hne w B) ?_))
  rintro _ h1 ⟨rfl,O1,X1,t1⟩
  refine Wa rfl rfl (Wc [(0,_),(1,_),(5,_)] rfl (?_))
  refine Wd (Wa rfl rfl (Wa rfl rfl (Wa rfl rfl (Wi (w := .bool (decide (s.pop.1 ≠ t))) rfl rfl (by congr 1; rw [Bool.eq_iff_iff]; simp; omega) (Wa rfl rfl ?_)))))
  have fin : ∀ {h2 : Heap} {b : Bool} {e : Env} {Q : Kn},e.get 8 = some (ptr K.p) → e.get 19 = some (.bool b) → e.get 5 = some (.int .u8 (s.pop.1 : Int)) → b = decide (s.pop.1 ≠ t ∧ s.pop.1 ≠ 0 ∧ t ≠ 0) →
      Xd Try.prog [⟨some 20,none,.call 100 [.t 8,.t 19]⟩] e h1 (KW Try.prog (.seq (.region [⟨some 21,none,.mov (.t 5)⟩,⟨some 4,none,.mov (.t 21)⟩] [4]) .ret) (K3 (Ws F135.res fun v h' => v = .int .u8 ((s.want t).1 : Int) ∧ Vg K h O h' (s.want t).2) (fun _ _ _ => False) (Ws F135.res fun v h' => v = .int .u8 ((s.want t).1 : Int) ∧ Vg K h O h' (s.want t).2)) [5]) := by
    intro h2 b e Q q1 q2 q3 hb
    refine Wb (vs := [ptr K.p,.bool b]) (by simp [evs,Arg.ev,q1,q2]) (C100 (b := b) X1) ?_
    rintro _ h3 g3
    refine Wc [(5,.int .u8 (s.pop.1 : Int))] (show (match Env.get _ 5 with | some v => _ | none => _) = _ from by rw [show Env.get (Env.put e (some 20) _) 5 = e.get 5 from rfl,q3]; rfl) ?_
    refine Wd (Wa rfl rfl (Wa rfl rfl (Wc [(4,_)] rfl (?_))))
    refine Xo (Ws.mk _ rfl ⟨rfl,?_⟩)
    rw [hb] at g3
    exact Vg.trans t1 g3
  by_cases c1 : s.pop.1 ≠ t
  · rw [decide_eq_true c1]
    refine Wh rfl (Wa rfl rfl (Wh rfl (Wi (w := .bool (decide (s.pop.1 ≠ 0))) rfl rfl (by congr 1; rw [Bool.eq_iff_iff]; simp) (Wa rfl rfl (Wa rfl rfl ?_)))))
    by_cases c2 : s.pop.1 ≠ 0
    · rw [decide_eq_true c2]
      refine Wh rfl (Wa rfl rfl (Wh rfl (Wi (w := .bool (decide (t ≠ 0))) rfl rfl (by congr 1; rw [Bool.eq_iff_iff]; simp) (Wa rfl rfl ?_))))
      exact fin (h2 := h1) (Q := fun _ _ => True) rfl rfl rfl (by simp [c1,c2])
    · rw [decide_eq_false c2]
      refine Wg rfl (Wg rfl (Wa rfl rfl ?_))
      exact fin (h2 := h1) (Q := fun _ _ => True) rfl rfl rfl (by simp [c2])
  · rw [decide_eq_false c1]
    refine Wg rfl (Wg rfl (Wa rfl rfl (Wa rfl rfl (Wg rfl (Wg rfl (Wa rfl rfl ?_))))))
    exact fin (h2 := h1) (Q := fun _ _ => True) rfl rfl rfl (by simp [c1])
end
theorem takeR_app : ∀ (a b : List Nat) (s : VS),VS.takeR (a ++ b) s = ((VS.takeR b (VS.takeR a s).2).1 ++ (VS.takeR a s).1,(VS.takeR b (VS.takeR a s).2).2)
  | [],b,s => by simp [VS.takeR]
  | t :: a,b,s => by
    simp only [List.cons_append,VS.takeR,takeR_app a b]
    simp
theorem take_cons (t : Nat) (suf : List Nat) (s : VS) : s.take (t :: suf) = (((s.take suf).2.want t).1 :: (s.take suf).1,((s.take suf).2.want t).2) := by
  unfold VS.take
  rw [List.reverse_cons,takeR_app]
  simp [VS.takeR]
section
variable {K : VK} {h : Heap} {O : Nat → Prop} {s : VS}
theorem C101 {ts : List Nat} {ta : Option Addr} {tn tc : Nat} (X : Ck K h O s) (st : Stl h O ta tn tc ts) (hne : s.op ≠ []) (w : VS.Wf s) (B : Bd s) (hb : tn ≤ 1000000) :
    Fn Try.prog 101 [ptr K.p,.slice ta tn tc] h fun v h' => ∃ ra rc O',v = .slice ra tn rc ∧ Ck K h' O' (s.take ts).2 ∧ Tn K h h' O O' ∧ SlA h' 1 ra tn rc (bys (s.take ts).1) := by
  have hn := st.len
  refine fnK F101.fok rfl ?_
  refine Wd (Wa rfl rfl (Wc [(0,_),(1,_)] rfl (?_)))
  refine Wd (Wa rfl rfl (Wa rfl rfl (Wops_mkSl (k := tn) rfl rfl ⟨by omega,by omega⟩ fun h1 cc n1 x1 g1 => ?_)))
  refine Wa rfl rfl (Wc [(0,_),(1,_),(5,_)] rfl (?_))
  obtain ⟨X1,t1⟩ := X.more x1 (Nat.le_refl _) (by omega)
  refine Xc (Wd (Wa rfl rfl (Wa rfl rfl (Wi (w := .int .i64 ((tn : Int) - 1)) rfl rfl (by rw [w64 (by omega)]) (Wa rfl rfl (Wc [(0,_),(1,_),(5,_),(6,_)] rfl (?_)))))))
  refine Wt ?_
  refine Xy (fun k e h' => ∃ (j : Nat) (O1 : Nat → Prop),e = [(0,ptr K.p),(1,.slice ta tn tc),(5,.slice (some ⟨h.next,0,none⟩) tn cc),(6,.int .i64 ((j : Int) - 1))] ∧ j ≤ tn ∧ k = j ∧ Ck (K.more h.next) h' O1 (s.take (ts.drop j)).2 ∧ Tn K h h' O O1 ∧ O1 h.next ∧
    At h' h.next (.cells (bys (List.replicate j 0 ++ (s.take (ts.drop j)).1)) 1 false)) ?_ (k := tn) ⟨tn,_,rfl,Nat.le_refl _,rfl,?_,t1,.inr rfl,?_⟩
  · rintro j e h2 ⟨_,O1,rfl,hj,rfl,X2,t2,iO,g2⟩
    refine Xc (Wd (Wa rfl rfl (Wa rfl rfl (Wc [(0,_),(1,_),(5,_),(6,_),(14,_)] rfl (?_)))))
    refine Wo rfl (fun hc => ?_) (fun hc => ?_)
    · have hj0 : 0 < j := by have := of_decide_eq_true hc; omega
      obtain ⟨i,rfl⟩ : ∃ i,j = i + 1 := ⟨j - 1,by omega⟩
      have hi : i < ts.length := by omega
      have kp := VS.take_kp (ts.drop (i + 1)) s
      have st2 := st.turn t2.t
      have eI : ((i + 1 : Nat) : Int) - 1 = (i : Int) := by omega
      have hu : (bys ts)[(((i + 1 : Nat) : Int) - 1).toNat]? = some (.int .u8 (ts[i] : Int)) := by
        rw [eI,Int.toNat_natCast,List.getElem?_map,List.getElem?_eq_getElem hi]; rfl
      refine Wr (Wt ?_)
      refine Wl (Wa rfl rfl (Wa rfl rfl (Wa rfl rfl (Wa rfl rfl (Wa rfl rfl (Xx rfl rfl st2.1 ⟨by omega,by omega⟩ hu fun p => ?_))))))
      refine Wb rfl (C135 (K := K.more h.next) (t := ts[i]) X2 (kp.ne hne) (kp.wf w hne) (B.kp kp (VS.take_gr _ _))) ?_
      rintro _ h3 ⟨rfl,O3,X3,t3⟩
      have g3 : At h3 h.next (.cells (bys (List.replicate (i + 1) 0 ++ (s.take (ts.drop (i + 1))).1)) 1 false) := by
        have : h3.get h.next = _ := t3.k h.next (.inr rfl)
        show h3.get h.next = _
        rw [this]; exact g2
      have iO3 : O3 h.next := t3.m _ iO
      refine Xi rfl rfl ⟨by omega,by omega⟩ (Wm (l := [.int .u8 (((s.take (ts.drop (i + 1))).2.want ts[i]).1 : Int)]) rfl rfl rfl rfl g3 (by
        have := VS.take_len (ts.drop (i + 1)) s
        simp [this]) rfl fun h4 n4 x4 g4 => ?_)
      refine Wk [(0,_),(1,_),(5,_),(6,_)] rfl (?_)
      refine Wl (Wa rfl rfl (Wa rfl rfl (Wa rfl rfl (Wk [(0,_),(1,_),(5,_),(6,_)] rfl (?_)))))
      have ed : ts.drop i = ts[i] :: ts.drop (i + 1) := List.drop_eq_getElem_cons hi
      obtain ⟨X4,t4⟩ := X3.write (K := K.more h.next) (b := h.next) (.inr rfl) iO3 x4
      refine ⟨i,by omega,i,O3,?_,by omega,rfl,by rw [ed,take_cons]; exact X4,(t2.trans ⟨t3.t,fun i q => t3.k i (.inl q),t3.m⟩).trans ⟨t4,fun i q => x4.get i ?_ fun e => ?_,fun i q => q⟩,iO3,?_⟩
      · rw [w64 (by omega),eI]
      · rename_i q; exact X3.rb (.inl q)
      · rename_i q; have := X.rb q; omega
      · have e5 : (bys (List.replicate (i + 1) 0 ++ (s.take (ts.drop (i + 1))).1)).set (0 + (((i + 1 : Nat) : Int) - 1).toNat * 1) (.int .u8 (((s.take (ts.drop (i + 1))).2.want ts[i]).1 : Int)) = bys (List.replicate i 0 ++ (s.take (ts.drop i)).1) := by
          rw [eI,Int.toNat_natCast,Nat.zero_add,Nat.mul_one,ed,take_cons,List.replicate_succ']
          simp [bys]
        rw [← e5]
        exact g4
    · have hj0 : j = 0 := by have := of_decide_eq_false hc; omega
      subst hj0
      refine Xn (Xp ?_)
      refine Wd (Wa rfl rfl (Wa rfl rfl (Wc [(4,_)] rfl (?_))))
      rw [List.drop_zero] at X2 g2
      simp only [List.replicate_zero,List.nil_append] at g2
      refine Xo (Ws.mk _ rfl ⟨some ⟨h.next,0,none⟩,cc,O1,rfl,X2.less,t2,?_⟩)
      have := SlA.mk' (c := cc) (n := tn) (off := 0) (sz := 1) g2 (by simp [VS.take_len]; omega) (.inr (.inr rfl))
      rw [List.drop_zero,List.take_of_length_le (by simp [VS.take_len]; omega)] at this
      exact this
  · rw [← hn,List.drop_length]; exact X1
  · rw [← hn,List.drop_length]
    have e : Xt [Value.int .u8 0] ts.length = bys (List.replicate ts.length 0 ++ (s.take []).1) := by rw [zeros_ints]; simp [bys,Yw,VS.take,VS.takeR]
    rw [← e,hn]; exact g1
end

end
section
/- val's checker: blocks opened and closed; a module as it lies, what it is asked for. -/
theorem Yj {P : Program} {rest : List SOp} {e : Env} {h : Heap} {Q : Env → Heap → Prop} {n c t1 sz : Nat} {d2 : Option Nat} {x i : Arg} {a : Option Addr} {l r : List Value} {k : IntKind} {j : Nat} (hx : x.ev e = some (.slice a n c)) (hi : i.ev e = some (.int k j)) (s : SlA h sz a n c l) (hj : j < n)
    (hr : (l.drop (j * sz)).take sz = r) (hq : ∀ p,Xd P rest (Env.put (Env.put e (some t1) p) d2 (.agg ⟨r⟩)) h Q) : Xd P (⟨some t1,.none,.iaV sz x i⟩ :: ⟨d2,.none,.ld sz true (.t t1)⟩ :: rest) e h Q := by
  obtain ⟨id,off,vs,ez,ro,rfl,g,hl,hw,_⟩ := s.at (by omega)
  have h1 : (j + 1) * sz ≤ n * sz := Nat.mul_le_mul_right _ (by omega)
  rw [Nat.add_mul,Nat.one_mul] at h1
  refine Xi hx hi ⟨by omega,by omega⟩ (Xj (l := r) (show (bif t1.beq t1 then _ else _) = _ by rw [Nat.beq_refl]; rfl) g ?_ ?_ (hq _))
  · rw [Int.toNat_natCast]; omega
  · rw [Int.toNat_natCast,← hr,hw,List.drop_take,List.take_take,List.drop_drop]
    congr 1
    omega
structure MoX (h : Heap) (O : Nat → Prop) (pm : Nat) (M : Mo) (mc : List Value) : Prop where
  g : At h pm (.cells mc 0 false)
  s : ¬ O pm
  ty : ∃ a c l,mc[0]? = some (.slice a M.types.length c) ∧ SlA h 2 a M.types.length c l ∧ (∀ i,Blk a i → i < h.next ∧ ¬ O i) ∧ ∀ i (hi : i < M.types.length),∃ pa pc ra rc,(l.drop (i * 2)).take 2 = [.slice pa M.types[i].1.length pc,.slice ra M.types[i].2.length rc] ∧ Stl h O pa M.types[i].1.length pc M.types[i].1 ∧ Stl h O ra M.types[i].2.length rc M.types[i].2
  fu : ∃ a c,mc[1]? = some (.slice a M.funcs.length c) ∧ SlA h 1 a M.funcs.length c (Qc M.funcs) ∧ ∀ i,Blk a i → i < h.next ∧ ¬ O i
  tb : ∃ a c l,mc[2]? = some (.slice a M.tables.length c) ∧ SlA h 4 a M.tables.length c l ∧ (∀ i,Blk a i → i < h.next ∧ ¬ O i) ∧ ∀ i (hi : i < M.tables.length),l[i * 4]? = some (.int .u8 (M.tables[i] : Int))
  me : ∃ a c,mc[3]? = some (.slice a M.mems c)
  gl : ∃ a c l,mc[4]? = some (.slice a M.globals.length c) ∧ SlA h 3 a M.globals.length c l ∧ (∀ i,Blk a i → i < h.next ∧ ¬ O i) ∧ ∀ i (hi : i < M.globals.length),∃ v,isCell v = true ∧ (l.drop (i * 3)).take 3 = [.int .u8 (M.globals[i].1 : Int),.bool M.globals[i].2,v]
  el : ∃ a c l,mc[8]? = some (.slice a M.elems.length c) ∧ SlA h 5 a M.elems.length c l ∧ (∀ i,Blk a i → i < h.next ∧ ¬ O i) ∧ ∀ i (hi : i < M.elems.length),l[i * 5 + 1]? = some (.int .u8 (M.elems[i] : Int))
  ct : mc[9]? = some (.bool M.counts) ∧ mc[10]? = some (.int .u32 (M.count : Int))
  da : ∃ a c,mc[12]? = some (.slice a M.datas c)
  len : mc.length = 13
  cell : mc.all isCell = true
  dc : ∀ h',h.next ≤ h'.next → (∀ i,i < h.next → ¬ O i → h'.get i = h.get i) → Fn Try.prog 120 [.agg ⟨mc⟩] h' fun v h'' => ∃ a c,v = .slice a M.decl.length c ∧ SlA h'' 1 a M.decl.length c (M.decl.map Value.bool) ∧ Xe h' h''
  dl : M.decl.length = M.funcs.length
  sz : M.types.length ≤ 1000000 ∧ M.funcs.length ≤ 1000000 ∧ M.tables.length ≤ 1000000 ∧ M.globals.length ≤ 1000000 ∧ M.elems.length ≤ 1000000 ∧ M.datas ≤ 1000000
  s8 : VS.Mo.Lp VS.short M
  fb : ∀ t ∈ M.funcs,t < 4294967296
theorem Yi {h h' : Heap} {O O' : Nat → Prop} (t : Turn h h' O O') {i : Nat} (q : i < h.next ∧ ¬ O i) : i < h'.next ∧ ¬ O' i :=
  ⟨Nat.lt_of_lt_of_le q.1 t.ext.next,fun w => (t.own i w).elim q.2 fun z => by omega⟩
theorem MoX.turn {h h' : Heap} {O O' : Nat → Prop} {pm : Nat} {M : Mo} {mc : List Value} (q : MoX h O pm M mc) (t : Turn h h' O O') : MoX h' O' pm M mc := by
  have d : ∀ {a : Option Addr},(∀ i,Blk a i → i < h.next ∧ ¬ O i) → ∀ i,Blk a i → ¬ O i := fun z i r => (z i r).2
  refine ⟨q.g.ext t.ext q.s,(Yi t ⟨q.g.lt,q.s⟩).2,?_,?_,?_,q.me,?_,?_,q.ct,q.da,q.len,q.cell,?_,q.dl,q.sz,q.s8,q.fb⟩
  · obtain ⟨a,c,l,h1,h2,h3,h4⟩ := q.ty
    refine ⟨a,c,l,h1,h2.ext t.ext (d h3),fun i r => Yi t (h3 i r),fun i hi => ?_⟩
    obtain ⟨pa,pc,ra,rc,e1,e2,e3⟩ := h4 i hi
    exact ⟨pa,pc,ra,rc,e1,e2.turn t,e3.turn t⟩
  · obtain ⟨a,c,h1,h2,h3⟩ := q.fu
    exact ⟨a,c,h1,h2.ext t.ext (d h3),fun i r => Yi t (h3 i r)⟩
  · obtain ⟨a,c,l,h1,h2,h3,h4⟩ := q.tb
    exact ⟨a,c,l,h1,h2.ext t.ext (d h3),fun i r => Yi t (h3 i r),h4⟩
  · obtain ⟨a,c,l,h1,h2,h3,h4⟩ := q.gl
    exact ⟨a,c,l,h1,h2.ext t.ext (d h3),fun i r => Yi t (h3 i r),h4⟩
  · obtain ⟨a,c,l,h1,h2,h3,h4⟩ := q.el
    exact ⟨a,c,l,h1,h2.ext t.ext (d h3),fun i r => Yi t (h3 i r),h4⟩
  · intro h2 hn hg
    refine q.dc h2 (Nat.le_trans t.ext.next hn) fun i hi hO => ?_
    have := Yi t ⟨hi,hO⟩
    rw [hg i this.1 this.2,t.ext.get i hi hO]
section
variable {K : VK} {h : Heap} {O : Nat → Prop} {s : VS} {M : Mo} {mc : List Value}
theorem set_last {α : Type} {l : List α} (h : l ≠ []) (x : α) : l.set (l.length - 1) x = l.dropLast ++ [x] := by
  obtain ⟨l',y,rfl⟩ : ∃ l' y,l = l' ++ [y] := ⟨l.dropLast,l.getLast h,(List.dropLast_concat_getLast h).symm⟩
  simp
theorem C91 {h : Heap} {n m : Nat} (hn : n < 4294967296) (hm : m ≤ 1099511627776) : Fn Try.prog 91 [.int .u32 (n : Int),.int .i64 (m : Int)] h fun v h' => v = .bool (decide (n < m)) ∧ h = h' := by
  refine fnK F91.fok rfl ?_
  refine Wd (Wa rfl rfl (Wc [(0,_),(1,_)] rfl (?_)))
  refine Wd (Wa rfl rfl (Wi (w := .int .u64 (n : Int)) rfl rfl (by rw [Vu (by omega)]) (Wa rfl rfl (Wi (w := .int .u64 (m : Int)) rfl rfl (by rw [Vu (by omega)]) (Wi (w := .bool (decide (n < m))) rfl rfl (by congr 1; rw [Bool.eq_iff_iff]; simp) (Wa rfl rfl (Wc [(4,_)] rfl (?_))))))))
  exact Xo (Ws.mk _ rfl ⟨rfl,rfl⟩)
theorem C58 {op : Int} {fr to : List Nat} {fa ta : Option Addr} {fc tc fn tn : Nat} (X : Ck K h O s) (sf : Stl h O fa fn fc fr) (st : Stl h O ta tn tc to) (B : Bd s) (hb : fn ≤ 1000000) :
    Fn Try.prog 58 [ptr K.p,.int .i64 op,.slice fa fn fc,.slice ta tn tc] h fun v h' => Vg K h O h' (s.opens op fr to) := by
  obtain ⟨a,c,oa,oc,ms,X⟩ := X
  have hfn := sf.len
  have htn := st.len
  have B1 := B.1
  have B2 := B.2
  refine fnK F58.fok rfl ?_
  refine Wd (Wa rfl rfl (Wa rfl rfl (Wa rfl rfl (Wa rfl rfl (We (v := .slice oa s.op.length oc) rfl X.g rfl (Wa rfl rfl (Wa rfl rfl (Wa rfl rfl (Wa rfl rfl (Wa rfl rfl (Wa rfl rfl (Wa rfl rfl (We (v := .slice a s.l.length c) rfl X.g rfl (Wa rfl rfl (Wa rfl rfl (Wj rfl rfl fun h1 n1 x1 g1 => ?_))))))))))))))))
  have X1 := X.ext0 x1
  refine Xk (m := 1) rfl rfl X1.o rfl (SlA.mk' (n := 1) (c := 1) (sz := 5) (off := 0) g1 (Nat.le_refl 5) (.inr (.inr rfl))).first ⟨by omega,by omega⟩ rfl rfl (by decide) fun h2 a2 c2 x2 o2 b2 => ?_
  have g2 := X1.g.ext x2 X1.po
  refine Wa rfl rfl (Wa rfl rfl (Wm (l := [.slice a2 (s.op.length + 1) c2]) rfl rfl rfl rfl g2 (by simp) rfl fun h3 n3 x3 g3 => ?_))
  refine Wc [(0,_),(2,_)] rfl (?_)
  replace g3 : At h3 K.p (.cells [.slice a s.l.length c,ptr K.pm,.slice K.la K.L.length K.lc,.slice a2 (s.op.length + 1) c2,.bool s.bad] 0 false) := g3
  have z1 := x1.next
  have z2 := x2.next
  have z3 := x3.next
  have hp1 := X1.g.lt
  have hpa2 : ¬ Blk a2 K.p := fun q => (b2 _ q).elim X1.po fun w => by omega
  have x : Ext O h1 h3 := (x2.mono fun i _ q => X1.own i (.inr (.inr q))).then x3 fun i q => .inl (X1.own i (.inl q))
  have t : Turn h1 h3 O (fun i => O i ∨ Blk a2 i) := ⟨x,fun i q => q.elim .inl fun q => (b2 i q).imp (fun w => X1.own i (.inr (.inr w))) id⟩
  have rk : ∀ i,K.R i → h3.get i = h1.get i := fun i q => by
    have := X1.rlt i q
    rw [x3.get i (by omega) fun e => X1.res _ (.inl rfl) (e ▸ q),x2.get i (by omega) fun e => X1.res i (.inr (.inr e)) q]
  have t03 : Tn K h h3 O (fun i => O i ∨ Blk a2 i) := ⟨(Turn.ext0' x1).trans t,fun i q => by rw [rk i q,x1.get i (X.rlt i q) fun e => e],fun i q => .inl q⟩
  have sf3 := (sf.ext0 x1).turn t
  have st3 := (st.ext0 x1).turn t
  have X3 : CkX K h3 (fun i => O i ∨ Blk a2 i) { s with op := s.op ++ [⟨op,fr,to,s.l.length,false⟩] } a c a2 c2 (ms ++ [⟨⟨op,fr,to,s.l.length,false⟩,fa,fc,ta,tc⟩]) := by
    refine ⟨by simp [X.mb],?_,?_,?_,?_,?_,?_,fun i q => by have := X1.rlt i q; omega,X.pa,hpa2,fun i q r => (b2 i r).elim (fun w => X.ao i q w) fun w => by have := X1.l.lt q; omega,fun m hm => ?_,X1.loc.turn t⟩
    · show At h3 K.p (.cells [.slice a s.l.length c,ptr K.pm,.slice K.la K.L.length K.lc,.slice a2 (s.op ++ [_]).length c2,.bool s.bad] 0 false)
      rw [List.length_append]; exact g3
    · exact (X1.l.ext x2 fun i q e => X.ao i q e).ext x3 fun i q e => X.pa (e ▸ q)
    · have o3 := o2.ext x3 fun i q e => hpa2 (e ▸ q)
      have e1 : en BM.enc (ms ++ [⟨⟨op,fr,to,s.l.length,false⟩,fa,fc,ta,tc⟩]) = en BM.enc ms ++ [.int .i64 op,.slice fa fn fc,.slice ta tn tc,.int .i64 (s.l.length : Int),.bool false] := by
        rw [en_app,← hfn,← htn]; rfl
      show OwS h3 5 a2 (s.op ++ [_]).length c2 _
      rw [List.length_append,e1]
      exact o3
    · rintro i (q | q | q)
      · exact .inl (X.own i (.inl q))
      · exact .inl (X.own i (.inr (.inl q)))
      · exact .inr q
    · rintro i (q | q)
      · have := X1.lt i q; omega
      · have := o2.lt q; omega
    · rintro i (q | q | q)
      · exact X.res i (.inl q)
      · exact X.res i (.inr (.inl q))
      · exact (b2 i q).elim (fun w => X.res i (.inr (.inr w))) fun w r => by have := X1.rlt i r; omega
    · rcases List.mem_append.1 hm with q | q
      · exact (X1.st m q).turn t
      · rw [List.mem_singleton] at q
        subst q
        exact ⟨by show Stl _ _ _ fr.length _ _; rw [hfn]; exact sf3,by show Stl _ _ _ to.length _ _; rw [htn]; exact st3⟩
  refine Wl (Wa rfl rfl (Wa rfl rfl (Wa rfl rfl (Wa rfl rfl (Wb rfl (C93 ⟨_,_,_,_,_,X3⟩ sf3.1 (by show s.l.length ≤ _; omega) hb) ?_)))))
  rintro _ h4 g4
  refine Wk [] rfl (Ws.mk [] rfl ?_)
  exact Vg.trans t03 g4
theorem C134 (X : Ck K h O s) (hne : s.op ≠ []) (w : VS.Wf s) (B : Bd s) : Fn Try.prog 134 [ptr K.p] h fun v h' => Vg K h O h' s.rests := by
  obtain ⟨a,c,oa,oc,ms,X⟩ := X
  have hle := w.le _ (VS.top_mem hne)
  have hpos : 0 < s.op.length := List.length_pos_iff.2 hne
  have hml := X.len
  refine fnK F134.fok rfl ?_
  refine Wd (Wa rfl rfl (Wb rfl (C165 X hne B) ?_))
  rintro _ _ ⟨id,off,vs,m,rfl,rfl,rfl,go,hl,hw,hm,hmb,hmm,hcell⟩
  refine Wa rfl rfl (Wc [(0,_),(2,_)] rfl (?_))
  have c3 : vs[off + (s.op.length - 1) * 5 + 3]? = some (.int .i64 (s.top.ht : Int)) := by rw [hcell 3 (by decide),← hmb]; rfl
  refine Wd (Wa rfl rfl (Wa rfl rfl (Wa rfl rfl (Wa rfl rfl (Wa rfl rfl (We (v := .slice a s.l.length c) rfl X.g rfl (Wa rfl rfl (Wa rfl rfl (Wa rfl rfl (We (v := .int .i64 (s.top.ht : Int)) rfl go c3 ?_))))))))))
  refine Jo rfl rfl rfl X.l.sl.ok (Qq hle) ?_
  have e : shift a (0 * 1) = a := by
    cases a with
    | none => rfl
    | some p => simp [shift]
  rw [e,Nat.sub_zero]
  refine Wa rfl rfl (Wa rfl rfl (Wa rfl rfl (Wm (l := [.slice a s.top.ht c]) rfl rfl rfl rfl X.g (by simp) rfl fun h2 n2 x2 g2 => ?_)))
  refine Wc [(2,_)] rfl (?_)
  obtain ⟨O2,⟨a2,c2,oa2,oc2,ms2,X2'⟩,t2⟩ := X.cut hle x2 g2
  clear X2' t2 O2 a2 c2 oa2 oc2 ms2
  replace g2 : At h2 K.p (.cells [.slice a s.top.ht c,ptr K.pm,.slice K.la K.L.length K.lc,.slice (some ⟨id,off,none⟩) s.op.length oc,.bool s.bad] 0 false) := g2
  have hid : id ≠ K.p := fun q => X.po (by rw [Blk.at]; exact q)
  have go2 := go.ext x2 hid
  have z2 := x2.next
  refine Wl (Wa rfl rfl (Wa rfl rfl (Wa rfl rfl (Wm (l := [.bool true]) rfl rfl rfl rfl go2 (by omega) rfl fun h3 n3 x3 g3 => ?_))))
  refine Wk [] rfl (Ws.mk [] rfl ?_)
  have z3 := x3.next
  have oid : Blk (some ⟨id,off,none⟩) id := by rw [Blk.at]
  have hT : Turn h h3 O O := ⟨(x2.mono fun i _ q => X.own i (.inl q)).then x3 fun i q => .inl (X.own i (.inr (.inr (q ▸ oid)))),fun i q => .inl q⟩
  have hk : ∀ i,K.R i → h3.get i = h.get i := fun i q => by
    have := X.rlt i q
    rw [x3.get i (by omega) fun e => X.res i (.inr (.inr (e ▸ oid))) q,x2.get i (by omega) fun e => X.res _ (.inl rfl) (e ▸ q)]
  have hr : s.op.length - 1 < ms.length := by omega
  refine ⟨O,⟨a,c,some ⟨id,off,none⟩,oc,ms.set (s.op.length - 1) { m with b := { m.b with dead := true } },?_⟩,hT,hk,fun i q => q⟩
  have eT : (s.l.take s.top.ht).length = s.top.ht := by rw [List.length_take]; omega
  have eO : (s.op.dropLast ++ [{ s.top with dead := true }]).length = s.op.length := by simp; omega
  refine ⟨?_,?_,?_,?_,X.own,fun i q => by have := X.lt i q; omega,X.res,fun i q => by have := X.rlt i q; omega,X.pa,X.po,X.ao,fun m' hm' => ?_,X.loc.turn hT⟩
  · show _ = s.op.dropLast ++ [{ s.top with dead := true }]
    rw [List.map_set,X.mb,set_last hne,← hmb]
  · show At h3 K.p (.cells [.slice a (s.l.take s.top.ht).length c,ptr K.pm,.slice K.la K.L.length K.lc,.slice (some ⟨id,off,none⟩) (s.op.dropLast ++ [{ s.top with dead := true }]).length oc,.bool s.bad] 0 false)
    rw [eT,eO]
    exact g2.ext x3 fun q => hid q.symm
  · show OwS h3 1 a (s.l.take s.top.ht).length c (bys (s.l.take s.top.ht))
    have o1 := X.l.sub (i := 0) (j := s.top.ht) (Nat.zero_le _) hle
    rw [e] at o1
    have e2 : ((bys s.l).drop (0 * 1)).take ((s.top.ht - 0) * 1) = bys (s.l.take s.top.ht) := by simp [bys,List.map_take]
    rw [e2,Nat.sub_zero] at o1
    rw [eT]
    exact (o1.ext x2 fun i q e => X.pa (e ▸ q)).ext x3 fun i q e => X.ao i q (e ▸ oid)
  · show OwS h3 5 (some ⟨id,off,none⟩) (s.op.dropLast ++ [{ s.top with dead := true }]).length oc _
    rw [eO]
    have W := win_part BM.enc_len hw hml hl (i := s.op.length - 1) (r := 4) (x := { m with b := { m.b with dead := true } }) (l := [.bool true]) (by omega) (by decide) (by
      rw [List.getElem?_eq_getElem hr] at hm
      rw [Option.some.inj hm]; rfl)
    exact ⟨by rw [Vh BM.enc_len,List.length_set,hml],.inr ⟨id,off,_,rfl,g3,by rw [Za]; exact hl,W⟩⟩
  · rcases List.mem_or_eq_of_mem_set hm' with q | q
    · exact (X.st m' q).turn hT
    · subst q
      exact (X.st m hmm).turn hT
end

end
section
/- val's checker: blocks closed; functions, labels, tables, locals, globals. -/
theorem shift0 (a : Option Addr) (k : Nat) : shift a (0 * k) = a := by
  cases a with
  | none => rfl
  | some p => simp [shift]
section
variable {K : VK} {h : Heap} {O : Nat → Prop} {s : VS} {M : Mo} {mc : List Value}
theorem CkX.cutO {a : Option Addr} {c : Nat} {oa : Option Addr} {oc : Nat} {ms : List BM} (X : CkX K h O s a c oa oc ms) {h2 : Heap} (x2 : Ext (· = K.p) h h2)
    (g : At h2 K.p (.cells [.slice a s.l.length c,ptr K.pm,.slice K.la K.L.length K.lc,.slice oa (s.op.length - 1) oc,.bool s.bad] 0 false)) : Vg K h O h2 { s with op := s.op.dropLast } := by
  have z2 := x2.next
  have hml := X.len
  have t : Turn h h2 O O := ⟨x2.mono fun i _ q => X.own i (.inl q),fun i q => .inl q⟩
  refine ⟨O,⟨a,c,oa,oc,ms.dropLast,?_,?_,X.l.ext x2 fun i q e => X.pa (e ▸ q),?_,X.own,fun i q => by have := X.lt i q; omega,X.res,fun i q => by have := X.rlt i q; omega,X.pa,X.po,X.ao,fun m hm => (X.st m (List.dropLast_subset _ hm)).turn t,X.loc.turn t⟩,t,fun i q => x2.get i (X.rlt i q) fun e => X.res _ (.inl rfl) (e ▸ q),fun i q => q⟩
  · rw [List.map_dropLast,X.mb]
  · show At h2 K.p (.cells [.slice a s.l.length c,ptr K.pm,.slice K.la K.L.length K.lc,.slice oa s.op.dropLast.length oc,.bool s.bad] 0 false)
    rw [List.length_dropLast]; exact g
  · have o := X.o.sub (i := 0) (j := s.op.length - 1) (Nat.zero_le _) (by omega)
    rw [shift0,Nat.zero_mul,List.drop_zero,Nat.sub_zero,en_take BM.enc_len (by omega)] at o
    show OwS h2 5 oa s.op.dropLast.length oc _
    rw [List.length_dropLast,List.dropLast_eq_take,hml]
    exact o.ext x2 fun i q e => X.po (e ▸ q)
theorem Tn.not {K : VK} {h h' : Heap} {O O' : Nat → Prop} (t : Tn K h h' O O') {i : Nat} (hi : i < h.next) (n : ¬ O i) : ¬ O' i := fun q => (t.t.own i q).elim n fun w => by omega
theorem Tn.less {K : VK} {b : Nat} {h h' : Heap} {O O' : Nat → Prop} (t : Tn (K.more b) h h' O O') : Tn K h h' O O' := ⟨t.t,fun i q => t.k i (.inl q),t.m⟩
theorem C137 (X : Ck K h O s) (hne : s.op ≠ []) (w : VS.Wf s) (B : Bd s) (z : VS.LP VS.short s) :
    Fn Try.prog 137 [ptr K.p] h fun v h' => ∃ (m : BM) (O' : Nat → Prop),m.b = s.closes.1 ∧ v = .agg ⟨m.enc⟩ ∧ m.St h' O' ∧ Ck K h' O' s.closes.2 ∧ Tn K h h' O O' := by
  have hpos : 0 < s.op.length := List.length_pos_iff.2 hne
  have olt : ∀ i,O i → i < h.next := by obtain ⟨a,c,oa,oc,ms,X⟩ := X; exact X.lt
  have rlt : ∀ i,K.R i → i < h.next := fun i q => X.rb q
  refine fnK F137.fok rfl ?_
  refine Wd (Xh fun h1 n1 x1 g1 => Wc [(0,_),(2,_)] rfl (?_))
  obtain ⟨X1,t1⟩ := X.more x1 (Nat.le_refl _) (by omega)
  obtain ⟨K1,hK1⟩ : ∃ K1,K1 = K.more h.next := ⟨_,rfl⟩
  rw [← hK1] at X1
  have hp : K.p = K1.p := by rw [hK1]
  have hR : K1.R h.next := by rw [hK1]; exact .inr rfl
  rw [hp]
  obtain ⟨a,c,oa,oc,ms,X1⟩ := X1
  have hml := X1.len
  refine Wd (Wa rfl rfl (Wb rfl (C165 X1 hne B) ?_))
  rintro _ _ ⟨id,off,vs,m,rfl,rfl,rfl,go,hl,hw,hm,hmb,hmm,hcell⟩
  have hr : s.op.length - 1 < ms.length := by omega
  have em : ms[s.op.length - 1] = m := by rw [List.getElem?_eq_getElem hr] at hm; exact Option.some.inj hm
  have wr := win_row BM.enc_len hw hml hr
  rw [em] at wr
  refine Wa rfl rfl (Xj (l := m.enc) rfl go (by omega) wr (Xh fun h2 n2 x2 g2 => Wm (l := m.enc) rfl rfl rfl rfl g2 (by simp) m.enc_cell fun h3 n3 x3 g3 => ?_))
  refine Wc [(0,_),(2,_),(3,_)] rfl (?_)
  replace g3 : At h3 h1.next (.cells m.enc 0 false) := g3
  have x13 : Xe h1 h3 := x2.then x3 fun i r => .inr (by omega)
  have z13 := x13.next
  have gA : At h3 h.next (.cells [.int .i64 0,Xf,Xf,.int .i64 0,.bool false] 0 false) := At.ext g1 x13
  have X3 : Ck K1 h3 (fun i => O i ∨ i = h.next) s := ⟨_,_,_,_,_,X1.ext0 x13⟩
  have ms3 : m.St h3 (fun i => O i ∨ i = h.next) := (X1.st m hmm).turn (Turn.ext0' x13)
  have t13 : Tn K1 h1 h3 (fun i => O i ∨ i = h.next) (fun i => O i ∨ i = h.next) := ⟨Turn.ext0' x13,fun i q => x13.get i (X1.rlt i q) fun e => e,fun i q => q⟩
  have hto : m.b.to.length ≤ 8 := by rw [hmb]; exact (z _ (VS.top_mem hne)).2
  have n3 : ¬ (O h1.next ∨ h1.next = h.next) := fun q => q.elim (fun q => by have := olt _ q; omega) fun e => by omega
  refine Wd (Wa rfl rfl (Wa rfl rfl (We (v := .slice m.ta m.b.to.length m.tc) rfl g3 rfl (Wb rfl (C101 X3 ms3.2 hne w B (by omega)) ?_))))
  rintro _ h4 ⟨ra,rc,O4,rfl,X4,t4,-⟩
  refine Wc [(0,_),(2,_),(3,_)] rfl (?_)
  have kp := VS.take_kp m.b.to s
  have g4 : At h4 h1.next (.cells m.enc 0 false) := g3.ext t4.t.ext n3
  have n4 := t4.not g3.lt n3
  have ms4 := ms3.turn t4.t
  obtain ⟨a4,c4,oa4,oc4,ms4',X4⟩ := X4
  refine Wd (Wa rfl rfl (Wa rfl rfl (Wa rfl rfl (Wa rfl rfl (Wa rfl rfl (We (v := .slice a4 (s.take m.b.to).2.l.length c4) rfl X4.g rfl (Wa rfl rfl (Wa rfl rfl (We (v := .int .i64 (m.b.ht : Int)) rfl g4 rfl ?_)))))))))
  refine Wi (w := .bool (decide ((s.take m.b.to).2.l.length ≠ m.b.ht))) rfl rfl (by congr 1; rw [Bool.eq_iff_iff]; simp; omega) (Wb rfl (Vt X4) ?_)
  rintro _ h5 ⟨X5,t5⟩
  refine Wc [(0,_),(2,_),(3,_)] rfl (?_)
  have g5 : At h5 h1.next (.cells m.enc 0 false) := g4.ext t5.t.ext n4
  have n5 := t5.not g4.lt n4
  have ms5 := ms4.turn t5.t
  have hle : m.b.ht ≤ (s.take m.b.to).2.l.length := by
    have h1 := kp.le w hne
    have h2 := congrArg VB.ht hmb
    omega
  refine Wd (Wa rfl rfl (Wa rfl rfl (Wa rfl rfl (Wa rfl rfl (Wa rfl rfl (We (v := .slice a4 (s.take m.b.to).2.l.length c4) rfl X5.g rfl (Wa rfl rfl (We (v := .int .i64 (m.b.ht : Int)) rfl g5 rfl ?_))))))))
  refine Jo rfl rfl rfl X5.l.sl.ok (Qq hle) ?_
  rw [shift0,Nat.sub_zero]
  refine Wa rfl rfl (Wa rfl rfl (Wa rfl rfl (Wm (l := [.slice a4 m.b.ht c4]) rfl rfl rfl rfl X5.g (by simp) rfl fun h6 n6' x6 g6 => ?_)))
  refine Wc [(0,_),(2,_),(3,_)] rfl (?_)
  obtain ⟨O6,⟨a6,c6,oa6,oc6,ms6,X6⟩,t6⟩ := X5.cut hle x6 g6
  have g6' : At h6 h1.next (.cells m.enc 0 false) := g5.ext t6.t.ext n5
  have n6 := t6.not g5.lt n5
  have mst6 := ms5.turn t6.t
  have hol : (s.take m.b.to).2.op.length = s.op.length := by rw [kp.op]
  have B2 := B.2
  refine Wd (Wa rfl rfl (Wa rfl rfl (Wa rfl rfl (Wa rfl rfl (We (v := .slice oa6 (s.take m.b.to).2.op.length oc6) rfl X6.g rfl (Wa rfl rfl (Wa rfl rfl (Wa rfl rfl (We (v := .slice oa6 (s.take m.b.to).2.op.length oc6) rfl X6.g rfl (Wa rfl rfl ?_))))))))))
  refine Wi (w := .int .i64 (((s.take m.b.to).2.op.length - 1 : Nat) : Int)) rfl rfl (by rw [w64 (by omega)]; congr 1; omega) (Jo rfl rfl rfl X6.o.sl.ok (Qq (by show (s.take m.b.to).2.op.length - 1 ≤ (s.take m.b.to).2.op.length; omega)) ?_)
  rw [shift0,Nat.sub_zero]
  refine Wa rfl rfl (Wa rfl rfl (Wm (l := [.slice oa6 ((s.take m.b.to).2.op.length - 1) oc6]) rfl rfl rfl rfl X6.g (by simp) rfl fun h7 n7 x7 g7 => ?_))
  refine Wc [(2,_),(3,_)] rfl (?_)
  obtain ⟨O7,X7,t7⟩ := X6.cutO x7 g7
  have g7' : At h7 h1.next (.cells m.enc 0 false) := g6'.ext t7.t.ext n6
  have mst7 := mst6.turn t7.t
  have t17 := (((t13.trans t4).trans t5).trans t6).trans t7
  have gA7 : At h7 h.next (.cells [.int .i64 0,Xf,Xf,.int .i64 0,.bool false] 0 false) := by
    show h7.get h.next = _
    rw [t17.k _ hR]; exact g1
  refine Wd (Xj (l := m.enc) rfl g7' (Nat.le_refl 5) rfl (Wm (l := m.enc) rfl rfl rfl rfl gA7 (Nat.le_refl 5) m.enc_cell fun h8 n8 x8 g8 => ?_))
  refine Wc [(2,_)] rfl (?_)
  replace g8 : At h8 h.next (.cells m.enc 0 false) := g8
  have hO7 : O7 h.next := t17.m _ (.inr rfl)
  obtain ⟨X8,t8⟩ := X7.write hR hO7 x8
  refine Xo (Ws.mk [.agg ⟨m.enc⟩] (Uf (res_c rfl g8 (Nat.le_refl 5) rfl) rfl) ⟨m,O7,hmb,rfl,mst7.turn t8,?_,?_⟩)
  · rw [hK1] at X8
    have := X8.less
    rw [hmb] at this
    exact this
  · rw [hK1] at t17
    exact (t1.trans t17.less).trans ⟨t8,fun i q => x8.get i (by have := rlt i q; have := t17.t.ext.next; have := x1.next; omega) fun e => by have := rlt i q; omega,fun i q => q⟩
theorem C143 {mc : List Value} {t : Nat} (X : Ck K h O s) (Y : MoX h O K.pm M mc) (ht : t < 18446744073709551616) :
    Fn Try.prog 143 [ptr K.p,.int .u64 (t : Int)] h fun v h' => ∃ fa fc ta tc O',v = .tuple ⟨[.slice fa (s.function M t).1.1.length fc,.slice ta (s.function M t).1.2.length tc]⟩ ∧ Ck K h' O' (s.function M t).2 ∧ Tn K h h' O O' ∧ Stl h' O' fa (s.function M t).1.1.length fc (s.function M t).1.1 ∧ Stl h' O' ta (s.function M t).1.2.length tc (s.function M t).1.2 := by
  obtain ⟨a,c,oa,oc,ms,X⟩ := X
  obtain ⟨ya,yc,yl,y1,y2,y3,y4⟩ := Y.ty
  have hsz := Y.sz.1
  refine fnK F143.fok rfl ?_
  refine Wd (Wa rfl rfl (Wa rfl rfl (Wc [(0,_),(1,_)] rfl (?_))))
  refine Xc (Wd (Wa rfl rfl (Wa rfl rfl (Wa rfl rfl (Wa rfl rfl (We (v := ptr K.pm) rfl X.g rfl (Wa rfl rfl (Wa rfl rfl (We (v := .slice ya M.types.length yc) rfl Y.g y1 (Wa rfl rfl ?_))))))))))
  refine Wi (w := .int .u64 (M.types.length : Int)) rfl rfl (by rw [Vu (by omega)]) (Wi (w := .bool (decide ¬ t < M.types.length)) rfl rfl (by congr 1; rw [Bool.eq_iff_iff]; simp) (Wc [(0,_),(1,_),(17,_)] rfl (?_)))
  refine Wo rfl (fun hc => ?_) (fun hc => ?_)
  · have hn := of_decide_eq_true hc
    refine Xc (Wd (Wa rfl rfl (Wb rfl (Vt X) ?_)))
    rintro _ h1 ⟨X1,t1⟩
    refine Wc [] rfl (?_)
    refine Xc (Wd (Wa rfl rfl (Wa rfl rfl (Wc [(4,_),(5,_)] rfl (?_)))))
    unfold VS.function
    simp only [if_neg hn]
    exact Yo (Ws.mk _ rfl ⟨none,0,none,0,O,rfl,⟨_,_,_,_,_,X1⟩,t1,Stl.none,Stl.none⟩)
  · have hn : t < M.types.length := by have := of_decide_eq_false hc; omega
    obtain ⟨pa,pc,ra,rc,e1,e2,e3⟩ := y4 t hn
    refine Wr (Wd (Wa rfl rfl (Wa rfl rfl (Wa rfl rfl (We (v := ptr K.pm) rfl X.g rfl (Wa rfl rfl (Wa rfl rfl (We (v := .slice ya M.types.length yc) rfl Y.g y1 (Wa rfl rfl ?_)))))))))
    refine Yj rfl rfl y2 hn e1 fun p => ?_
    refine Xh fun h1 n1 x1 g1 => Wm (l := [.slice pa M.types[t].1.length pc,.slice ra M.types[t].2.length rc]) rfl rfl rfl rfl g1 (by simp) rfl fun h2 n2 x2 g2 => ?_
    refine Wc [(6,_)] rfl (?_)
    replace g2 : At h2 h.next (.cells [.slice pa M.types[t].1.length pc,.slice ra M.types[t].2.length rc] 0 false) := g2
    have x02 : Xe h h2 := x1.then x2 fun i r => .inr (by omega)
    refine Wd (Wa rfl rfl (We (v := .slice pa M.types[t].1.length pc) rfl g2 rfl (Wa rfl rfl (We (v := .slice ra M.types[t].2.length rc) rfl g2 rfl ?_))))
    refine Wa rfl rfl (Wa rfl rfl (Wc [(4,_),(5,_)] rfl (?_)))
    have eg : M.types.getD t ([],[]) = M.types[t] := by simp [List.getD,hn]
    unfold VS.function
    simp only [if_pos hn,eg]
    exact Xo (Ws.mk _ rfl ⟨pa,pc,ra,rc,O,rfl,⟨_,_,_,_,_,X.ext0 x02⟩,⟨Turn.ext0' x02,fun i q => x02.get i (X.rlt i q) fun e => e,fun i q => q⟩,e2.ext0 x02,e3.ext0 x02⟩)
end

end
section
/- val's checker: what a module is asked for; numbers' types; locals. -/
def Ko : List Int := [40,41,44,45,46,47,48,49,50,51,52,53,54,55,58,59,60,61,62]
def Gi : List Int := [69,70,71,72,73,74,75,76,77,78,79,80,81,82,83,84,85,86,87,88,89,90,103,104,105,106,107,108,109,110,111,112,113,114,115,116,117,118,119,120,121,122,123,124,125,126,127,128,129,130,131,132,133,134,135,136,137,138,167,172,173,192,193,194,195,196]
theorem Uj {n f : Nat} {args : List Value} {h : Heap} {v : Value} {h' : Heap} (hr : fnR T n f args h = some (v,h')) : Fn Try.prog f args h fun v1 h1 => v1 = v ∧ h1 = h' := by
  rw [fnR_eq] at hr
  exact dfn_ok T.ok n _ _ _ _ _ hr
noncomputable def chk97 (op : Int) : Bool := match fnR T 300 97 [.int .i64 op] Heap.empty with
  | some (.int .i64 v,_) => v == ((VS.width op : Nat) : Int)
  | _ => false
noncomputable def chk152 (op : Int) : Bool := match fnR T 300 152 [.int .i64 op] Heap.empty with
  | some (.bool v,_) => v == VS.wide op
  | _ => false
noncomputable def chk99 (op : Int) : Bool := match fnR T 300 99 [.int .i64 op] Heap.empty with
  | some (.tuple ⟨[.slice (some ⟨0,0,none⟩) n 1,.int .u8 t]⟩,h0) => n.beq (VS.numbers op).1.length && (t == (((VS.numbers op).2 : Nat) : Int)) && h0.next.beq 1 && okH h0 1 && (match h0.get 0 with | some (.cells l 1 false) => Qb l (bys (VS.numbers op).1) | _ => false)
  | _ => false
set_option maxRecDepth 100000 in
theorem run97 : (Ko ++ Gi).all chk97 = true := by kernel_rfl
set_option maxRecDepth 100000 in
theorem run152 : Ko.all chk152 = true := by kernel_rfl
set_option maxRecDepth 100000 in
theorem run99 : Gi.all chk99 = true := by kernel_rfl
theorem C97 {h : Heap} {op : Int} (ho : op ∈ Ko ∨ op ∈ Gi) : Fn Try.prog 97 [.int .i64 op] h fun v h' => v = .int .i64 ((VS.width op : Nat) : Int) ∧ h = h' := by
  have hc := List.all_eq_true.1 run97 op (List.mem_append.2 ho)
  unfold chk97 at hc
  split at hc
  · rename_i v h0 hr
    have hv : v = ((VS.width op : Nat) : Int) := by simpa using hc
    subst hv
    exact Fn.anywhere (R := fun v => v = .int .i64 ((VS.width op : Nat) : Int)) rfl (Uj hr) fun v h' q => ⟨by rw [q.1]; rfl,q.1⟩
  · cases hc
theorem C152 {h : Heap} {op : Int} (ho : op ∈ Ko) : Fn Try.prog 152 [.int .i64 op] h fun v h' => v = .bool (VS.wide op) ∧ h = h' := by
  have hc := List.all_eq_true.1 run152 op ho
  unfold chk152 at hc
  split at hc
  · rename_i v h0 hr
    have hv : v = VS.wide op := by simpa using hc
    subst hv
    exact Fn.anywhere (R := fun v => v = .bool (VS.wide op)) rfl (Uj hr) fun v h' q => ⟨by rw [q.1]; rfl,q.1⟩
  · cases hc
theorem C99 {h : Heap} {op : Int} (ho : op ∈ Gi) : Fn Try.prog 99 [.int .i64 op] h fun v h' => v = .tuple ⟨[.slice (some ⟨h.next,0,none⟩) (VS.numbers op).1.length 1,.int .u8 (((VS.numbers op).2 : Nat) : Int)]⟩ ∧ Xe h h' ∧ At h' h.next (.cells (bys (VS.numbers op).1) 1 false) := by
  have hc := List.all_eq_true.1 run99 op ho
  unfold chk99 at hc
  split at hc
  · rename_i n t h0 hr
    simp only [Bool.and_eq_true,Ww,decide_eq_true_eq] at hc
    obtain ⟨⟨⟨⟨e1,e2⟩,e3⟩,e4⟩,e5⟩ := hc
    have e2 : t = (((VS.numbers op).2 : Nat) : Int) := by simpa using e2
    subst e1; subst e2
    rw [← e3] at e4
    refine (Fn.moved (n := 3) (Uj hr) rfl rfl e4 h).mono ?_
    rintro v h' ⟨rfl,rfl⟩
    refine ⟨by simp [shV],moved_ext _ _ _,?_⟩
    split at e5
    · rename_i l hg
      have := Vl e5
      subst this
      have q := moved_at (h := h) (m := h0.next) (i := 0) (by omega) hg
      have e6 : shO h.next (.cells (bys (VS.numbers op).1) 1 false) = .cells (bys (VS.numbers op).1) 1 false := by
        simp [shO,shV,bys,List.map_map,Function.comp_def]
      rw [e6] at q
      exact q
    · cases e5
  · cases hc
theorem C145 {h : Heap} {t : Nat} : Fn Try.prog 145 [.int .u8 (t : Int)] h fun v h' => v = .bool (VS.own t) ∧ h = h' := by
  refine fnK F145.fok rfl ?_
  refine Wd (Wa rfl rfl (Wc [(0,_)] rfl (?_)))
  refine Wd (Wa rfl rfl (Wi (w := .bool (decide (t = 112))) rfl rfl (by congr 1; rw [Bool.eq_iff_iff]; simp; omega) (Wa rfl rfl ?_)))
  by_cases c : t = 112
  · rw [decide_eq_true c]
    refine Wg rfl (Wg rfl (Wa rfl rfl (Wa rfl rfl (Wc [(2,_)] rfl (?_)))))
    exact Xo (Ws.mk _ rfl ⟨by subst c; rfl,rfl⟩)
  · rw [decide_eq_false c]
    refine Wh rfl (Wa rfl rfl (Wh rfl (Wi (w := .bool (decide (t = 111))) rfl rfl (by congr 1; rw [Bool.eq_iff_iff]; simp; omega) (Wa rfl rfl (Wa rfl rfl (Wc [(2,_)] rfl (?_)))))))
    exact Xo (Ws.mk _ rfl ⟨by show Value.bool _ = Value.bool _; unfold VS.own; simp [c],rfl⟩)
theorem C148 {h : Heap} {t : Nat} : Fn Try.prog 148 [.int .u8 (t : Int)] h fun v h' => v = .bool (VS.own t || decide (t = 0)) ∧ h = h' := by
  refine fnK F148.fok rfl ?_
  refine Wd (Wa rfl rfl (Wc [(0,_)] rfl (?_)))
  refine Wd (Wa rfl rfl (Wb rfl C145 ?_))
  rintro _ _ ⟨rfl,rfl⟩
  refine Wa rfl rfl ?_
  cases c : VS.own t with
  | true =>
    refine Wg rfl (Wg rfl (Wa rfl rfl (Wa rfl rfl (Wc [(2,_)] rfl (?_)))))
    exact Xo (Ws.mk _ rfl ⟨rfl,rfl⟩)
  | false =>
    refine Wh rfl (Wa rfl rfl (Wh rfl (Wi (w := .bool (decide (t = 0))) rfl rfl (by congr 1; rw [Bool.eq_iff_iff]; simp) (Wa rfl rfl (Wa rfl rfl (Wc [(2,_)] rfl (?_)))))))
    exact Xo (Ws.mk _ rfl ⟨rfl,rfl⟩)
section
variable {K : VK} {h : Heap} {O : Nat → Prop} {s : VS} {M : Mo} {mc : List Value}
theorem CkX.ext0' {a : Option Addr} {c : Nat} {oa : Option Addr} {oc : Nat} {ms : List BM} (X : CkX K h O s a c oa oc ms) {h' : Heap} (x : Xe h h') : Ck K h' O s ∧ Tn K h h' O O :=
  ⟨⟨_,_,_,_,_,X.ext0 x⟩,Turn.ext0' x,fun i q => x.get i (X.rlt i q) fun e => e,fun i q => q⟩
theorem Tn.refl (K : VK) (h : Heap) (O : Nat → Prop) : Tn K h h O O := ⟨Turn.refl _ _,fun i q => rfl,fun i q => q⟩
theorem C136 {t : Int} (X : Ck K h O s) (Y : MoX h O K.pm M mc) (ht : -9223372036854775808 ≤ t ∧ t ≤ 9223372036854775807) :
    Fn Try.prog 136 [ptr K.p,.int .i64 t] h fun v h' => ∃ fa fc ta tc O',v = .tuple ⟨[.slice fa (s.signature M t).1.1.length fc,.slice ta (s.signature M t).1.2.length tc]⟩ ∧ Ck K h' O' (s.signature M t).2 ∧ Tn K h h' O O' ∧ Stl h' O' fa (s.signature M t).1.1.length fc (s.signature M t).1.1 ∧ Stl h' O' ta (s.signature M t).1.2.length tc (s.signature M t).1.2 := by
  refine fnK F136.fok rfl ?_
  refine Wd (Wa rfl rfl (Wa rfl rfl (Wc [(0,_),(1,_)] rfl (?_))))
  refine Wt ?_
  refine Wd (Wa rfl rfl (Wi (w := .bool (decide (t = -64))) rfl rfl (by congr 1) (Wa rfl rfl (Wc [(0,_),(1,_),(6,_)] rfl (?_)))))
  refine Wn rfl (fun hc => ?_) (fun hc => ?_)
  · have e := of_decide_eq_true hc
    refine Wd (Wa rfl rfl (Wa rfl rfl (Wc [(4,_),(5,_)] rfl (?_))))
    unfold VS.signature
    simp only [if_pos e]
    exact Xo (Ws.mk _ rfl ⟨none,0,none,0,O,rfl,X,Tn.refl _ _ _,Stl.none,Stl.none⟩)
  have e := of_decide_eq_false hc
  refine Wd (Wa rfl rfl (Wa rfl rfl (Wa rfl rfl (Wc [(0,_),(1,_),(9,_)] rfl (?_)))))
  refine Wn rfl (fun hc => ?_) (fun hc => ?_)
  · have e2 : t < 0 := of_decide_eq_true hc
    refine Wd (Wa rfl rfl (Wi (w := .int .i64 (t + 128)) rfl rfl (by rw [w64 (by omega)]) (Wi (w := .int .u8 (((t + 128) % 256).toNat : Int)) rfl rfl (by congr 1; simp [IntKind.wrap,IntKind.signed,IntKind.bits]; omega) (Wj rfl rfl fun h1 n1 x1 g1 => ?_))))
    refine Wa rfl rfl (Wa rfl rfl (Wc [(4,_),(5,_)] rfl (?_)))
    obtain ⟨a,c,oa,oc,ms,X⟩ := X
    obtain ⟨X1,t1⟩ := X.ext0' x1
    unfold VS.signature
    simp only [if_neg e,if_pos e2]
    refine Xo (Ws.mk _ rfl ⟨none,0,some ⟨h.next,0,none⟩,1,O,rfl,X1,t1,Stl.none,?_,fun i q => ?_⟩)
    · exact SlA.mk' (n := 1) (c := 1) (sz := 1) (off := 0) g1 (Nat.le_refl 1) (.inr (.inr rfl))
    · rw [Blk.at] at q
      subst q
      exact ⟨by omega,fun q => by have := X.lt _ q; omega⟩
  · have e2 : ¬ t < 0 := of_decide_eq_false hc
    refine Ya ?_
    have ew : IntKind.wrap .u64 t = ((t.toNat : Nat) : Int) := by rw [Vu (by omega)]; omega
    refine Wd (Wa rfl rfl (Wa rfl rfl (Wi (w := .int .u64 ((t.toNat : Nat) : Int)) rfl rfl (by rw [ew]) (Wb rfl (C143 (t := t.toNat) X Y (by omega)) ?_))))
    rintro _ h1 ⟨fa,fc,ta,tc,O1,rfl,X1,t1,f1,f2⟩
    refine Wa rfl rfl (Wa rfl rfl (Wa rfl rfl (Wa rfl rfl (Wc [(4,_),(5,_)] rfl (?_)))))
    unfold VS.signature
    simp only [if_neg e,if_neg e2]
    exact Xo (Ws.mk _ rfl ⟨fa,fc,ta,tc,O1,rfl,X1,t1,f1,f2⟩)
theorem C166 {h : Heap} {m : BM} : Fn Try.prog 166 [.agg ⟨m.enc⟩] h fun v h' => v = (if m.b.op = 3 then .slice m.fa m.b.fr.length m.fc else .slice m.ta m.b.to.length m.tc) ∧ Xe h h' := by
  refine fnK F166.fok rfl ?_
  refine Wd (Ye (cs := m.enc) rfl rfl fun h1 n1 x1 g1 => Wa rfl rfl (Wc [(1,_)] rfl (?_)))
  refine Xc (Wd (Wa rfl rfl (We (v := .int .i64 m.b.op) rfl g1 rfl (Wi (w := .bool (decide (m.b.op = 3))) rfl rfl (by congr 1) (Wc [(1,_),(5,_)] rfl (?_))))))
  refine Wo rfl (fun hc => ?_) (fun hc => ?_)
  · have e := of_decide_eq_true hc
    refine Xc (Wd (Wa rfl rfl (We (v := .slice m.fa m.b.fr.length m.fc) rfl g1 rfl (Wa rfl rfl (Wc [(2,_)] rfl (?_))))))
    rw [if_pos e]
    exact Yo (Ws.mk _ rfl ⟨rfl,x1⟩)
  · have e := of_decide_eq_false hc
    refine Wr (Wd (Wa rfl rfl (We (v := .slice m.ta m.b.to.length m.tc) rfl g1 rfl (Wa rfl rfl (Wc [(2,_)] rfl (?_))))))
    rw [if_neg e]
    exact Xo (Ws.mk _ rfl ⟨rfl,x1⟩)
theorem C139 {n : Nat} (X : Ck K h O s) (B : Bd s) (hn : n < 4294967296) :
    Fn Try.prog 139 [ptr K.p,.int .u32 (n : Int)] h fun v h' => ∃ la lc O',v = .slice la (s.label n).1.length lc ∧ Ck K h' O' (s.label n).2 ∧ Tn K h h' O O' ∧ Stl h' O' la (s.label n).1.length lc (s.label n).1 := by
  obtain ⟨a,c,oa,oc,ms,X⟩ := X
  have B2 := B.2
  have hml := X.len
  refine fnK F139.fok rfl ?_
  refine Wd (Wa rfl rfl (Wc [(0,_),(1,_)] rfl (?_)))
  refine Xc (Wd (Wa rfl rfl (Wa rfl rfl (Wa rfl rfl (Wa rfl rfl (We (v := .slice oa s.op.length oc) rfl X.g rfl (Wa rfl rfl (Wb rfl (C91 hn (by omega)) ?_))))))))
  rintro _ _ ⟨rfl,rfl⟩
  refine Wa rfl rfl (Wc [(0,_),(1,_),(12,_)] rfl (?_))
  unfold VS.label
  by_cases hl : n < s.op.length
  · refine Wo rfl (fun hc => by rw [decide_eq_true hl] at hc; cases hc) (fun _ => ?_)
    have hi : s.op.length - 1 - n < ms.length := by omega
    rcases X.o.ex with ⟨_,q,_⟩ | ⟨id,off,vs,e,go,hl2,hw⟩
    · omega
    refine Wr (Wd (Wa rfl rfl (Wa rfl rfl (Wa rfl rfl (We (v := .slice oa s.op.length oc) rfl X.g rfl (Wa rfl rfl (Wa rfl rfl (Wa rfl rfl (We (v := .slice oa s.op.length oc) rfl X.g rfl (Wa rfl rfl ?_))))))))))
    refine Wi (w := .int .i64 ((s.op.length - 1 : Nat) : Int)) rfl rfl (by rw [w64 (by omega)]; congr 1; omega) (Wa rfl rfl (Wi (w := .int .i64 (n : Int)) rfl rfl (by rw [w64 (by omega)]) (Wi (w := .int .i64 ((s.op.length - 1 - n : Nat) : Int)) rfl rfl (by rw [w64 (by omega)]; congr 1; omega) ?_)))
    refine Wops_elA BM.enc_len rfl rfl X.o.sl hml hi fun p => ?_
    refine Wb rfl C166 ?_
    rintro _ h1 ⟨rfl,x1⟩
    refine Wa rfl rfl (Wc [(4,_)] rfl (?_))
    have hm := X.st _ (List.getElem_mem hi)
    have eb : (ms[s.op.length - 1 - n]).b = s.op.getD (s.op.length - 1 - n) ⟨0,[],[],0,false⟩ := by
      have : s.op.length - 1 - n < s.op.length := by omega
      simp only [List.getD,List.getElem?_eq_getElem this,Option.getD_some]
      have h2 : (ms.map BM.b)[s.op.length - 1 - n]? = s.op[s.op.length - 1 - n]? := by rw [X.mb]
      rw [List.getElem?_map,List.getElem?_eq_getElem hi,List.getElem?_eq_getElem this] at h2
      simpa using h2
    obtain ⟨X1,t1⟩ := X.ext0' x1
    simp only [if_pos hl,← eb]
    unfold VS.labels
    by_cases e3 : ms[s.op.length - 1 - n].b.op = 3
    · simp only [if_pos e3]
      exact Xo (Ws.mk _ rfl ⟨_,_,O,rfl,X1,t1,hm.1.ext0 x1⟩)
    · simp only [if_neg e3]
      exact Xo (Ws.mk _ rfl ⟨_,_,O,rfl,X1,t1,hm.2.ext0 x1⟩)
  · refine Wo rfl (fun _ => ?_) (fun hc => by rw [decide_eq_false hl] at hc; cases hc)
    refine Xc (Wd (Wa rfl rfl (Wb rfl (Vt X) ?_)))
    rintro _ h1 ⟨X1,t1⟩
    refine Wc [] rfl (?_)
    refine Xc (Wd (Wa rfl rfl (Wc [(4,_)] rfl (?_))))
    simp only [if_neg hl]
    exact Yo (Ws.mk _ rfl ⟨none,0,O,rfl,⟨_,_,_,_,_,X1⟩,t1,Stl.none⟩)
theorem C142 {n : Nat} (X : Ck K h O s) (Y : MoX h O K.pm M mc) (hn : n < 4294967296) :
    Fn Try.prog 142 [ptr K.p,.int .u32 (n : Int)] h fun v h' => v = .int .u8 ((s.table M n).1 : Int) ∧ Vg K h O h' (s.table M n).2 := by
  obtain ⟨a,c,oa,oc,ms,X⟩ := X
  obtain ⟨ya,yc,yl,y1,y2,y3,y4⟩ := Y.tb
  have hsz := Y.sz.2.2.1
  refine fnK F142.fok rfl ?_
  refine Wd (Wa rfl rfl (Wc [(0,_),(1,_)] rfl (?_)))
  refine Xc (Wd (Wa rfl rfl (Wa rfl rfl (Wa rfl rfl (Wa rfl rfl (We (v := ptr K.pm) rfl X.g rfl (Wa rfl rfl (Wa rfl rfl (We (v := .slice ya M.tables.length yc) rfl Y.g y1 (Wa rfl rfl (Wb rfl (C91 hn (by omega)) ?_)))))))))))
  rintro _ _ ⟨rfl,rfl⟩
  refine Wa rfl rfl (Wc [(0,_),(1,_),(15,_)] rfl (?_))
  unfold VS.table
  by_cases hl : n < M.tables.length
  · refine Wo rfl (fun hc => by rw [decide_eq_true hl] at hc; cases hc) (fun _ => ?_)
    have hu : yl[(n : Int).toNat * 4 + 0]? = some (.int .u8 (M.tables.getD n 0 : Int)) := by
      rw [Int.toNat_natCast,Nat.add_zero,y4 n hl]
      simp [List.getD,hl]
    refine Wr (Wd (Wa rfl rfl (Wa rfl rfl (Wa rfl rfl (We (v := ptr K.pm) rfl X.g rfl (Wa rfl rfl (Wa rfl rfl (We (v := .slice ya M.tables.length yc) rfl Y.g y1 (Wa rfl rfl ?_)))))))))
    refine Wops_idxF rfl rfl y2 ⟨by omega,by omega⟩ (by decide) hu fun p q => ?_
    refine Wa rfl rfl (Wc [(4,_)] rfl (?_))
    simp only [if_pos hl]
    exact Xo (Ws.mk _ rfl ⟨rfl,Vg.of X (Tn.refl _ _ _)⟩)
  · refine Wo rfl (fun _ => ?_) (fun hc => by rw [decide_eq_false hl] at hc; cases hc)
    refine Xc (Wd (Wa rfl rfl (Wb rfl (Vt X) ?_)))
    rintro _ h1 ⟨X1,t1⟩
    refine Wc [] rfl (?_)
    refine Xc (Wd (Wa rfl rfl (Wc [(4,_)] rfl (?_))))
    simp only [if_neg hl]
    exact Yo (Ws.mk _ rfl ⟨rfl,Vg.of X1 t1⟩)
theorem C151 {n : Nat} (X : Ck K h O s) (Y : MoX h O K.pm M mc) (hn : n < 4294967296) :
    Fn Try.prog 151 [ptr K.p,.int .u32 (n : Int)] h fun v h' => v = .int .u8 ((s.elem M n).1 : Int) ∧ Vg K h O h' (s.elem M n).2 := by
  obtain ⟨a,c,oa,oc,ms,X⟩ := X
  obtain ⟨ya,yc,yl,y1,y2,y3,y4⟩ := Y.el
  have hsz := Y.sz.2.2.2.2.1
  refine fnK F151.fok rfl ?_
  refine Wd (Wa rfl rfl (Wc [(0,_),(1,_)] rfl (?_)))
  refine Xc (Wd (Wa rfl rfl (Wa rfl rfl (Wa rfl rfl (Wa rfl rfl (We (v := ptr K.pm) rfl X.g rfl (Wa rfl rfl (Wa rfl rfl (We (v := .slice ya M.elems.length yc) rfl Y.g y1 (Wa rfl rfl (Wb rfl (C91 hn (by omega)) ?_)))))))))))
  rintro _ _ ⟨rfl,rfl⟩
  refine Wa rfl rfl (Wc [(0,_),(1,_),(15,_)] rfl (?_))
  unfold VS.elem
  by_cases hl : n < M.elems.length
  · refine Wo rfl (fun hc => by rw [decide_eq_true hl] at hc; cases hc) (fun _ => ?_)
    have hu : yl[(n : Int).toNat * 5 + 1]? = some (.int .u8 (M.elems.getD n 0 : Int)) := by
      rw [Int.toNat_natCast,y4 n hl]
      simp [List.getD,hl]
    refine Wr (Wd (Wa rfl rfl (Wa rfl rfl (Wa rfl rfl (We (v := ptr K.pm) rfl X.g rfl (Wa rfl rfl (Wa rfl rfl (We (v := .slice ya M.elems.length yc) rfl Y.g y1 (Wa rfl rfl ?_)))))))))
    refine Wops_idxF rfl rfl y2 ⟨by omega,by omega⟩ (by decide) hu fun p q => ?_
    refine Wa rfl rfl (Wc [(4,_)] rfl (?_))
    simp only [if_pos hl]
    exact Xo (Ws.mk _ rfl ⟨rfl,Vg.of X (Tn.refl _ _ _)⟩)
  · refine Wo rfl (fun _ => ?_) (fun hc => by rw [decide_eq_false hl] at hc; cases hc)
    refine Xc (Wd (Wa rfl rfl (Wb rfl (Vt X) ?_)))
    rintro _ h1 ⟨X1,t1⟩
    refine Wc [] rfl (?_)
    refine Xc (Wd (Wa rfl rfl (Wc [(4,_)] rfl (?_))))
    simp only [if_neg hl]
    exact Yo (Ws.mk _ rfl ⟨rfl,Vg.of X1 t1⟩)
theorem C146 {n : Nat} (X : Ck K h O s) (hL : K.L.length ≤ 1000000) (hn : n < 4294967296) :
    Fn Try.prog 146 [ptr K.p,.int .u32 (n : Int)] h fun v h' => v = .int .u8 ((s.loc K.L n).1 : Int) ∧ Vg K h O h' (s.loc K.L n).2 := by
  obtain ⟨a,c,oa,oc,ms,X⟩ := X
  refine fnK F146.fok rfl ?_
  refine Wd (Wa rfl rfl (Wc [(0,_),(1,_)] rfl (?_)))
  refine Xc (Wd (Wa rfl rfl (Wa rfl rfl (Wa rfl rfl (Wa rfl rfl (We (v := .slice K.la K.L.length K.lc) rfl X.g rfl (Wa rfl rfl (Wb rfl (C91 hn (by omega)) ?_))))))))
  rintro _ _ ⟨rfl,rfl⟩
  refine Wa rfl rfl (Wc [(0,_),(1,_),(12,_)] rfl (?_))
  unfold VS.loc
  by_cases hl : n < K.L.length
  · refine Wo rfl (fun hc => by rw [decide_eq_true hl] at hc; cases hc) (fun _ => ?_)
    have hu : (bys K.L)[(n : Int).toNat]? = some (.int .u8 (K.L.getD n 0 : Int)) := by
      rw [Int.toNat_natCast,List.getElem?_map,List.getElem?_eq_getElem hl]
      simp [List.getD,hl]
    refine Wr (Wd (Wa rfl rfl (Wa rfl rfl (Wa rfl rfl (We (v := .slice K.la K.L.length K.lc) rfl X.g rfl (Wa rfl rfl (Xx rfl rfl X.loc.1 ⟨by omega,by omega⟩ hu fun p => ?_)))))))
    refine Wa rfl rfl (Wc [(4,_)] rfl (?_))
    simp only [if_pos hl]
    exact Xo (Ws.mk _ rfl ⟨rfl,Vg.of X (Tn.refl _ _ _)⟩)
  · refine Wo rfl (fun _ => ?_) (fun hc => by rw [decide_eq_false hl] at hc; cases hc)
    refine Xc (Wd (Wa rfl rfl (Wb rfl (Vt X) ?_)))
    rintro _ h1 ⟨X1,t1⟩
    refine Wc [] rfl (?_)
    refine Xc (Wd (Wa rfl rfl (Wc [(4,_)] rfl (?_))))
    simp only [if_neg hl]
    exact Yo (Ws.mk _ rfl ⟨rfl,Vg.of X1 t1⟩)
theorem C149 (X : Ck K h O s) (Y : MoX h O K.pm M mc) : Fn Try.prog 149 [ptr K.p] h fun v h' => Vg K h O h' (s.memory M) := by
  obtain ⟨a,c,oa,oc,ms,X⟩ := X
  obtain ⟨ya,yc,y1⟩ := Y.me
  refine fnK F149.fok rfl ?_
  refine Wl (Wa rfl rfl (Wa rfl rfl (Wa rfl rfl (Wa rfl rfl (We (v := ptr K.pm) rfl X.g rfl (Wa rfl rfl (Wa rfl rfl (We (v := .slice ya M.mems yc) rfl Y.g y1 (Wa rfl rfl ?_)))))))))
  refine Wi (w := .bool (decide (M.mems = 0))) rfl rfl (by congr 1; rw [Bool.eq_iff_iff]; simp) (Wb rfl (Vt X) ?_)
  rintro _ h1 ⟨X1,t1⟩
  exact Wk [] rfl (Ws.mk [] rfl (Vg.of X1 t1))
theorem C150 {n : Nat} (X : Ck K h O s) (Y : MoX h O K.pm M mc) (hn : n < 4294967296) : Fn Try.prog 150 [ptr K.p,.int .u32 (n : Int)] h fun v h' => Vg K h O h' (s.data M n) := by
  obtain ⟨a,c,oa,oc,ms,X⟩ := X
  obtain ⟨y1,y2⟩ := Y.ct
  obtain ⟨ya,yc,y3⟩ := Y.da
  have hsz := Y.sz.2.2.2.2.2
  refine fnK F150.fok rfl ?_
  refine Xc (Wd (Wa rfl rfl (Wa rfl rfl (Wa rfl rfl (We (v := ptr K.pm) rfl X.g rfl (Wa rfl rfl (Wa rfl rfl (We (v := .bool M.counts) rfl Y.g y1 (Wc [(0,_),(1,_),(10,_)] rfl (?_))))))))))
  unfold VS.data
  refine Wo rfl (fun hc => ?_) (fun hc => ?_)
  · refine Xc (Wd (Wa rfl rfl (Wa rfl rfl (Wa rfl rfl (Wa rfl rfl (Wa rfl rfl (We (v := ptr K.pm) rfl X.g rfl (Wa rfl rfl (Wa rfl rfl (We (v := .int .u32 (M.count : Int)) rfl Y.g y2 ?_))))))))))
    refine Wi (w := .bool (decide (n ≥ M.count))) rfl rfl (by congr 1; rw [Bool.eq_iff_iff]; simp) (Wb rfl (Vt X) ?_)
    rintro _ h1 ⟨X1,t1⟩
    refine Wc [] rfl ?_
    rw [if_pos hc]
    exact Yo (Ws.mk [] rfl (Vg.of X1 t1))
  · refine Wr (Wl (Wa rfl rfl (Wa rfl rfl (Wa rfl rfl (Wa rfl rfl (Wa rfl rfl (We (v := ptr K.pm) rfl X.g rfl (Wa rfl rfl (Wa rfl rfl (We (v := .slice ya M.datas yc) rfl Y.g y3 (Wa rfl rfl (Wb rfl (C91 hn (by omega)) ?_))))))))))))
    rintro _ _ ⟨rfl,rfl⟩
    refine Wi (w := .bool (decide ¬ n < M.datas)) rfl rfl (by congr 1; rw [Bool.eq_iff_iff]; simp) (Wb rfl (Vt X) ?_)
    rintro _ h1 ⟨X1,t1⟩
    rw [if_neg (by rw [hc]; simp)]
    exact Wk [] rfl (Ws.mk [] rfl (Vg.of X1 t1))
end

end
section
/- val's checker: globals, lists compared; how a round goes on. -/
theorem C138 {h : Heap} {a b : Option Addr} {n m c d : Nat} {xs ys : List Nat} (s : SlA h 1 a n c (bys xs)) (s2 : SlA h 1 b m d (bys ys)) (hb : n ≤ 1000000) : Fn Try.prog 138 [.slice a n c,.slice b m d] h fun v h' => v = .bool (decide (xs = ys)) ∧ h = h' := by
  have hn : xs.length = n := by simpa using s.len
  have hm : ys.length = m := by simpa using s2.len
  refine fnK F138.fok rfl ?_
  refine Wd (Wa rfl rfl (Wc [(0,_),(1,_)] rfl (?_)))
  refine Xc (Wd (Wa rfl rfl (Wa rfl rfl (Wa rfl rfl (Wa rfl rfl (Wi (w := .bool (decide (n ≠ m))) rfl rfl (by congr 1; rw [Bool.eq_iff_iff]; simp; omega) (Wc [(0,_),(1,_),(10,_)] rfl (?_))))))))
  refine Wo rfl (fun hc => ?_) (fun hc => ?_)
  · have e := of_decide_eq_true hc
    refine Xc (Wd (Wa rfl rfl (Wc [(4,_)] rfl (?_))))
    refine Yo (Ws.mk _ rfl ⟨?_,rfl⟩)
    rw [decide_eq_false (fun q => e (by rw [← hn,← hm,q]))]; rfl
  · have e : n = m := by simpa using hc
    refine Wr (Xc (Wd (Wa rfl rfl (Wa rfl rfl (Wa rfl rfl (Wc [(0,_),(1,_),(12,_),(13,_)] rfl (?_)))))))
    refine Wt ?_
    refine Xy (fun k e h' => ∃ i : Nat,e = [(0,.slice a n c),(1,.slice b m d),(12,.int .i64 (n : Int)),(13,.int .i64 (i : Int))] ∧ i ≤ n ∧ k = n - i ∧ h = h' ∧ xs.take i = ys.take i) ?_ (k := n) ⟨0,rfl,by omega,rfl,rfl,rfl⟩
    rintro k e' h' ⟨i,rfl,hi,rfl,rfl,he⟩
    refine Wd (Wa rfl rfl (Wc [(0,_),(1,_),(12,_),(13,_),(14,_)] rfl (?_)))
    refine Wo rfl (fun hc => ?_) (fun hc => ?_)
    · have hil : i < n := by have := of_decide_eq_true hc; omega
      have h1 : (bys xs)[(i : Int).toNat]? = some (.int .u8 (xs[i]'(by omega) : Int)) := by rw [Int.toNat_natCast,List.getElem?_map,List.getElem?_eq_getElem (by omega)]; rfl
      have h2 : (bys ys)[(i : Int).toNat]? = some (.int .u8 (ys[i]'(by omega) : Int)) := by rw [Int.toNat_natCast,List.getElem?_map,List.getElem?_eq_getElem (by omega)]; rfl
      refine Wr (Wt ?_)
      refine Wd (Wa rfl rfl (Wa rfl rfl (Wc [(0,_),(1,_),(5,_),(12,_),(13,_)] rfl (?_))))
      refine Wd (Wa rfl rfl (Wa rfl rfl (Xx rfl rfl s ⟨by omega,by omega⟩ h1 fun p => Wa rfl rfl (Wa rfl rfl (Xx rfl rfl s2 ⟨by omega,by omega⟩ h2 fun q => ?_)))))
      refine Wi (w := .bool (decide (xs[i]'(by omega) ≠ ys[i]'(by omega)))) rfl rfl (by congr 1; rw [Bool.eq_iff_iff]; simp; omega) (Wc [(0,_),(1,_),(12,_),(13,_),(24,_)] rfl (?_))
      refine Wn rfl (fun hc => ?_) (fun hc => ?_)
      · have hne := of_decide_eq_true hc
        refine Wd (Wa rfl rfl (Wc [(4,_)] rfl (?_)))
        refine Xo (Ws.mk _ rfl ⟨?_,rfl⟩)
        rw [decide_eq_false (fun q => hne (by subst q; rfl))]; rfl
      · have heq : xs[i]'(by omega) = ys[i]'(by omega) := by simpa using hc
        refine Ya ?_
        refine Wl (Wa rfl rfl (Wa rfl rfl (Wk [(0,_),(1,_),(12,_),(13,_)] rfl (?_))))
        refine ⟨n - (i + 1),by omega,i + 1,?_,by omega,rfl,rfl,?_⟩
        · rw [Zi (by omega)]
        · rw [List.take_succ_eq_append_getElem (by omega),List.take_succ_eq_append_getElem (by omega),he,heq]
    · have hil : i = n := by have := of_decide_eq_false hc; omega
      subst hil
      refine Xn (Xp ?_)
      refine Wd (Wa rfl rfl (Wc [(4,_)] rfl (?_)))
      refine Xo (Ws.mk _ rfl ⟨?_,rfl⟩)
      rw [List.take_of_length_le (by omega),List.take_of_length_le (by omega)] at he
      rw [decide_eq_true he]; rfl
section
variable {K : VK} {h : Heap} {O : Nat → Prop} {s : VS} {M : Mo} {mc : List Value}
theorem C147 {n : Nat} (X : Ck K h O s) (Y : MoX h O K.pm M mc) (hn : n < 4294967296) :
    Fn Try.prog 147 [ptr K.p,.int .u32 (n : Int)] h fun v h' => (∃ w,isCell w = true ∧ v = .agg ⟨[.int .u8 ((s.glob M n).1.1 : Int),.bool (s.glob M n).1.2,w]⟩) ∧ Vg K h O h' (s.glob M n).2 := by
  have hsz := Y.sz.2.2.2.1
  have olt : ∀ i,O i → i < h.next := by obtain ⟨a,c,oa,oc,ms,X⟩ := X; exact X.lt
  have rlt : ∀ i,K.R i → i < h.next := fun i q => X.rb q
  refine fnK F147.fok rfl ?_
  refine Wd (Xh fun h1 n1 x1 g1 => Wc [(0,_),(1,_),(4,_)] rfl (?_))
  obtain ⟨X1,t1⟩ := X.more x1 (Nat.le_refl _) (by omega)
  have Y1 := Y.turn t1.t
  obtain ⟨a,c,oa,oc,ms,X1⟩ := X1
  obtain ⟨ya,yc,yl,y1,y2,y3,y4⟩ := Y1.gl
  have z1 := x1.next
  refine Xc (Wd (Wa rfl rfl (Wa rfl rfl (Wa rfl rfl (Wa rfl rfl (We (v := ptr K.pm) rfl X1.g rfl (Wa rfl rfl (Wa rfl rfl (We (v := .slice ya M.globals.length yc) rfl Y1.g y1 (Wa rfl rfl (Wb rfl (C91 hn (by omega)) ?_)))))))))))
  rintro _ _ ⟨rfl,rfl⟩
  refine Wa rfl rfl (Wc [(0,_),(1,_),(4,_),(15,_)] rfl (?_))
  unfold VS.glob
  by_cases hl : n < M.globals.length
  · refine Wo rfl (fun hc => by rw [decide_eq_true hl] at hc; cases hc) (fun _ => ?_)
    obtain ⟨w,hw,e⟩ := y4 n hl
    refine Wr (Wd (Wa rfl rfl (Wa rfl rfl (Wa rfl rfl (We (v := ptr K.pm) rfl X1.g rfl (Wa rfl rfl (Wa rfl rfl (We (v := .slice ya M.globals.length yc) rfl Y1.g y1 (Wa rfl rfl ?_)))))))))
    refine Yj rfl rfl y2 hl e fun p => ?_
    have hcl : [Value.int .u8 (M.globals[n].1 : Int),.bool M.globals[n].2,w].all isCell = true := by simp only [List.all_cons,hw]; rfl
    refine Wm (l := [.int .u8 (M.globals[n].1 : Int),.bool M.globals[n].2,w]) rfl rfl rfl rfl g1 (by simp) hcl fun h2 n2 x2 g2 => ?_
    refine Wc [(4,_)] rfl (?_)
    replace g2 : At h2 h.next (.cells [.int .u8 (M.globals[n].1 : Int),.bool M.globals[n].2,w] 0 false) := g2
    obtain ⟨X2,t2⟩ := Ck.write (K := K.more h.next) ⟨_,_,_,_,_,X1⟩ (b := h.next) (.inr rfl) (.inr rfl) x2
    have eg : M.globals.getD n (0,false) = M.globals[n] := by simp [List.getD,hl]
    simp only [if_pos hl,eg]
    refine Xo (Ws.mk [.agg ⟨[.int .u8 (M.globals[n].1 : Int),.bool M.globals[n].2,w]⟩] (Uf (res_c rfl g2 (Nat.le_refl 3) rfl) rfl) ⟨⟨w,hw,rfl⟩,_,X2.less,t1.trans ⟨t2,fun i q => x2.get i (by have := rlt i q; omega) fun e => by have := rlt i q; omega,fun i q => q⟩⟩)
  · refine Wo rfl (fun _ => ?_) (fun hc => by rw [decide_eq_false hl] at hc; cases hc)
    refine Xc (Wd (Wa rfl rfl (Wb rfl (Vt (K := K.more h.next) X1) ?_)))
    rintro _ h2 ⟨X2,t2⟩
    refine Wc [(4,_)] rfl (?_)
    have g2 : At h2 h.next (.cells [.int .u8 0,.bool false,.slice none 0 0] 0 false) := by
      show h2.get h.next = _
      rw [t2.k _ (.inr rfl)]; exact g1
    refine Xc (Wd (Wa rfl rfl (Wm (l := [.int .u8 0,.bool false,.slice none 0 0]) rfl rfl rfl rfl g2 (by simp) rfl fun h3 n3 x3 g3 => ?_)))
    refine Wc [(4,_)] rfl (?_)
    replace g3 : At h3 h.next (.cells [.int .u8 0,.bool false,.slice none 0 0] 0 false) := g3
    obtain ⟨X3,t3⟩ := Ck.write (K := K.more h.next) ⟨_,_,_,_,_,X2⟩ (b := h.next) (.inr rfl) (.inr rfl) x3
    simp only [if_neg hl]
    refine Yo (Ws.mk [.agg ⟨[.int .u8 0,.bool false,.slice none 0 0]⟩] (Uf (res_c rfl g3 (Nat.le_refl 3) rfl) rfl) ⟨⟨Xf,rfl,rfl⟩,_,X3.less,(t1.trans t2.less).trans ⟨t3,fun i q => x3.get i (by have := rlt i q; have := t2.t.ext.next; omega) fun e => by have := rlt i q; omega,fun i q => q⟩⟩)
end
structure IM where
  i : Ins
  la : Option Addr
  lc : Nat
def IM.enc (x : IM) : List Value := [.int .i64 x.i.op,.int .u32 (x.i.a : Int),.int .u32 (x.i.b : Int),.int .u64 (x.i.n : Int),.slice x.la x.i.l.length x.lc,.int .i64 x.i.t]
structure Ins.Ok (x : Ins) : Prop where
  a : x.a < 4294967296
  b : x.b < 4294967296
  l : ∀ n ∈ x.l,n < 4294967296
  ll : x.l.length ≤ 1000
  t : -9223372036854775808 ≤ x.t ∧ x.t ≤ 9223372036854775807
structure Rn (K : VK) (M : Mo) (mc : List Value) (h0 : Heap) (O0 : Nat → Prop) (b : Nat) (xe : List Value) (N : Nat) (h : Heap) (O : Nat → Prop) (s : VS) : Prop where
  X : Ck K h O s
  T : Tn K h0 h O0 O
  Y : MoX h O K.pm M mc
  g : At h b (.cells xe 0 false)
  nb : ¬ O b
  w : VS.Wf s
  l : s.l.length ≤ N
  n : N ≤ 1000000000
  o : s.op.length ≤ 1000000
section
variable {K : VK} {M : Mo} {mc : List Value} {h0 h : Heap} {O0 O : Nat → Prop} {b N : Nat} {xe : List Value} {s : VS}
theorem Rn.B (R : Rn K M mc h0 O0 b xe N h O s) : Bd s := ⟨Nat.le_trans R.l R.n,R.o⟩
theorem Rn.go {h' : Heap} {O' : Nat → Prop} {s' : VS} {N' : Nat} (R : Rn K M mc h0 O0 b xe N h O s) (X : Ck K h' O' s') (t : Tn K h h' O O') (w : VS.Wf s') (l : s'.l.length ≤ N') (n : N' ≤ 1000000000) (o : s'.op.length ≤ 1000000) : Rn K M mc h0 O0 b xe N' h' O' s' :=
  ⟨X,R.T.trans t,R.Y.turn t.t,R.g.ext t.t.ext R.nb,t.not R.g.lt R.nb,w,l,n,o⟩
theorem Rn.kp {h' : Heap} {O' : Nat → Prop} {s' : VS} (R : Rn K M mc h0 O0 b xe N h O s) (hne : s.op ≠ []) (k : VS.Kp s s') (g : VS.Gr 0 s s') (X : Ck K h' O' s') (t : Tn K h h' O O') : Rn K M mc h0 O0 b xe N h' O' s' :=
  R.go X t (k.wf R.w hne) (by have := R.l; unfold VS.Gr at g; omega) R.n (by rw [k.op]; exact R.o)
theorem Rn.ext0 {h' : Heap} (R : Rn K M mc h0 O0 b xe N h O s) (x : Xe h h') : Rn K M mc h0 O0 b xe N h' O s ∧ Tn K h h' O O := by
  obtain ⟨a,c,oa,oc,ms,X⟩ := id R.X
  obtain ⟨X1,t1⟩ := X.ext0' x
  exact ⟨R.go X1 t1 R.w R.l R.n R.o,t1⟩
def St (K : VK) (M : Mo) (mc : List Value) (h0 : Heap) (O0 : Nat → Prop) (b : Nat) (xe : List Value) (N : Nat) (h : Heap) (O : Nat → Prop) (h' : Heap) (s' : VS) : Prop := ∃ O',Rn K M mc h0 O0 b xe N h' O' s' ∧ Tn K h h' O O'
theorem Rn.of {h' : Heap} {s' : VS} (R : Rn K M mc h0 O0 b xe N h O s) (hne : s.op ≠ []) (k : VS.Kp s s') (g : VS.Gr 0 s s') (v : Vg K h O h' s') : St K M mc h0 O0 b xe N h O h' s' := by
  obtain ⟨O',X,t⟩ := v
  exact ⟨O',R.kp hne k g X t,t⟩
theorem Rn.fails {bb : Bool} (R : Rn K M mc h0 O0 b xe N h O s) : Fn Try.prog 100 [ptr K.p,.bool bb] h fun v h' => St K M mc h0 O0 b xe N h O h' (s.fails bb) :=
  (C100 R.X).mono fun v h' ⟨O',X,t⟩ => ⟨O',R.go X t ⟨R.w.up,R.w.le⟩ R.l R.n R.o,t⟩
theorem Rn.pop (R : Rn K M mc h0 O0 b xe N h O s) (hne : s.op ≠ []) : Fn Try.prog 144 [ptr K.p] h fun v h' => v = .int .u8 (s.pop.1 : Int) ∧ St K M mc h0 O0 b xe N h O h' s.pop.2 :=
  (C144 R.X hne R.w R.B).mono fun v h' ⟨e,q⟩ => ⟨e,R.of hne (VS.pop_kp s) (VS.pop_gr s) q⟩
theorem Rn.want {t : Nat} (R : Rn K M mc h0 O0 b xe N h O s) (hne : s.op ≠ []) : Fn Try.prog 135 [ptr K.p,.int .u8 (t : Int)] h fun v h' => v = .int .u8 ((s.want t).1 : Int) ∧ St K M mc h0 O0 b xe N h O h' (s.want t).2 :=
  (C135 R.X hne R.w R.B).mono fun v h' ⟨e,q⟩ => ⟨e,R.of hne (VS.want_kp t s) (VS.want_gr t s) q⟩
theorem Rn.take {ts : List Nat} {ta : Option Addr} {tn tc : Nat} (R : Rn K M mc h0 O0 b xe N h O s) (hne : s.op ≠ []) (st : Stl h O ta tn tc ts) (hb : tn ≤ 1000000) : Fn Try.prog 101 [ptr K.p,.slice ta tn tc] h fun v h' => ∃ ra rc O',v = .slice ra tn rc ∧ SlA h' 1 ra tn rc (bys (s.take ts).1) ∧ Rn K M mc h0 O0 b xe N h' O' (s.take ts).2 ∧ Tn K h h' O O' :=
  (C101 R.X st hne R.w R.B hb).mono fun v h' ⟨ra,rc,O',e,X,t,sl⟩ => ⟨ra,rc,O',e,sl,R.kp hne (VS.take_kp ts s) (VS.take_gr ts s) X t,t⟩
theorem Rn.push {ts : List Nat} {ta : Option Addr} {tn tc : Nat} (R : Rn K M mc h0 O0 b xe N h O s) (hne : s.op ≠ []) (st : SlA h 1 ta tn tc (bys ts)) (hb : tn ≤ 1000000) (hN : N + tn ≤ 1000000000) : Fn Try.prog 93 [ptr K.p,.slice ta tn tc] h fun v h' => St K M mc h0 O0 b xe (N + tn) h O h' (s.push ts) :=
  (C93 R.X st R.B.1 hb).mono fun v h' ⟨O',X,t⟩ => ⟨O',R.go X t ((VS.push_kp ts s).wf R.w hne) (by
    have h1 := R.l
    have h2 : ts.length = tn := by simpa using st.len
    simp [VS.push]
    omega) hN R.o,t⟩
theorem Rn.label {n : Nat} (R : Rn K M mc h0 O0 b xe N h O s) (hne : s.op ≠ []) (hn : n < 4294967296) : Fn Try.prog 139 [ptr K.p,.int .u32 (n : Int)] h fun v h' => ∃ la lc O',v = .slice la (s.label n).1.length lc ∧ Stl h' O' la (s.label n).1.length lc (s.label n).1 ∧ Rn K M mc h0 O0 b xe N h' O' (s.label n).2 ∧ Tn K h h' O O' :=
  (C139 R.X R.B hn).mono fun v h' ⟨la,lc,O',e,X,t,st⟩ => ⟨la,lc,O',e,st,R.kp hne (VS.label_kp n s) (VS.label_gr n s) X t,t⟩
theorem Rn.table {n : Nat} (R : Rn K M mc h0 O0 b xe N h O s) (hne : s.op ≠ []) (hn : n < 4294967296) : Fn Try.prog 142 [ptr K.p,.int .u32 (n : Int)] h fun v h' => v = .int .u8 ((s.table M n).1 : Int) ∧ St K M mc h0 O0 b xe N h O h' (s.table M n).2 :=
  (C142 R.X R.Y hn).mono fun v h' ⟨e,q⟩ => ⟨e,R.of hne (VS.table_kp M n s) (VS.table_gr M n s) q⟩
theorem Rn.elem {n : Nat} (R : Rn K M mc h0 O0 b xe N h O s) (hne : s.op ≠ []) (hn : n < 4294967296) : Fn Try.prog 151 [ptr K.p,.int .u32 (n : Int)] h fun v h' => v = .int .u8 ((s.elem M n).1 : Int) ∧ St K M mc h0 O0 b xe N h O h' (s.elem M n).2 :=
  (C151 R.X R.Y hn).mono fun v h' ⟨e,q⟩ => ⟨e,R.of hne (VS.elem_kp M n s) (VS.elem_gr M n s) q⟩
theorem Rn.loc {n : Nat} (R : Rn K M mc h0 O0 b xe N h O s) (hne : s.op ≠ []) (hL : K.L.length ≤ 1000000) (hn : n < 4294967296) : Fn Try.prog 146 [ptr K.p,.int .u32 (n : Int)] h fun v h' => v = .int .u8 ((s.loc K.L n).1 : Int) ∧ St K M mc h0 O0 b xe N h O h' (s.loc K.L n).2 :=
  (C146 R.X hL hn).mono fun v h' ⟨e,q⟩ => ⟨e,R.of hne (VS.loc_kp K.L n s) (VS.loc_gr K.L n s) q⟩
theorem Rn.glob {n : Nat} (R : Rn K M mc h0 O0 b xe N h O s) (hne : s.op ≠ []) (hn : n < 4294967296) : Fn Try.prog 147 [ptr K.p,.int .u32 (n : Int)] h fun v h' => (∃ w,isCell w = true ∧ v = .agg ⟨[.int .u8 ((s.glob M n).1.1 : Int),.bool (s.glob M n).1.2,w]⟩) ∧ St K M mc h0 O0 b xe N h O h' (s.glob M n).2 :=
  (C147 R.X R.Y hn).mono fun v h' ⟨e,q⟩ => ⟨e,R.of hne (VS.glob_kp M n s) (VS.glob_gr M n s) q⟩
theorem Rn.memory (R : Rn K M mc h0 O0 b xe N h O s) (hne : s.op ≠ []) : Fn Try.prog 149 [ptr K.p] h fun v h' => St K M mc h0 O0 b xe N h O h' (s.memory M) :=
  (C149 R.X R.Y).mono fun v h' q => R.of hne (VS.memory_kp M s) (VS.fails_gr _ s) q
theorem Rn.data {n : Nat} (R : Rn K M mc h0 O0 b xe N h O s) (hne : s.op ≠ []) (hn : n < 4294967296) : Fn Try.prog 150 [ptr K.p,.int .u32 (n : Int)] h fun v h' => St K M mc h0 O0 b xe N h O h' (s.data M n) :=
  (C150 R.X R.Y hn).mono fun v h' q => R.of hne (VS.data_kp M n s) (VS.data_gr M n s) q
theorem Rn.function {t : Nat} (R : Rn K M mc h0 O0 b xe N h O s) (hne : s.op ≠ []) (ht : t < 18446744073709551616) : Fn Try.prog 143 [ptr K.p,.int .u64 (t : Int)] h fun v h' => ∃ fa fc ta tc O',v = .tuple ⟨[.slice fa (s.function M t).1.1.length fc,.slice ta (s.function M t).1.2.length tc]⟩ ∧ Stl h' O' fa (s.function M t).1.1.length fc (s.function M t).1.1 ∧ Stl h' O' ta (s.function M t).1.2.length tc (s.function M t).1.2 ∧ Rn K M mc h0 O0 b xe N h' O' (s.function M t).2 ∧ Tn K h h' O O' :=
  (C143 R.X R.Y ht).mono fun v h' ⟨fa,fc,ta,tc,O',e,X,t1,f1,f2⟩ => ⟨fa,fc,ta,tc,O',e,f1,f2,R.kp hne (VS.function_kp M t s) (VS.function_gr M t s) X t1,t1⟩
theorem Rn.signature {t : Int} (R : Rn K M mc h0 O0 b xe N h O s) (hne : s.op ≠ []) (ht : -9223372036854775808 ≤ t ∧ t ≤ 9223372036854775807) : Fn Try.prog 136 [ptr K.p,.int .i64 t] h fun v h' => ∃ fa fc ta tc O',v = .tuple ⟨[.slice fa (s.signature M t).1.1.length fc,.slice ta (s.signature M t).1.2.length tc]⟩ ∧ Stl h' O' fa (s.signature M t).1.1.length fc (s.signature M t).1.1 ∧ Stl h' O' ta (s.signature M t).1.2.length tc (s.signature M t).1.2 ∧ Rn K M mc h0 O0 b xe N h' O' (s.signature M t).2 ∧ Tn K h h' O O' :=
  (C136 R.X R.Y ht).mono fun v h' ⟨fa,fc,ta,tc,O',e,X,t1,f1,f2⟩ => ⟨fa,fc,ta,tc,O',e,f1,f2,R.kp hne (VS.signature_kp M t s) (VS.signature_gr M t s) X t1,t1⟩
theorem Rn.closes (R : Rn K M mc h0 O0 b xe N h O s) (hne : s.op ≠ []) (z : VS.LP VS.short s) : Fn Try.prog 137 [ptr K.p] h fun v h' => ∃ (m : BM) (O' : Nat → Prop),m.b = s.closes.1 ∧ v = .agg ⟨m.enc⟩ ∧ m.St h' O' ∧ Rn K M mc h0 O0 b xe N h' O' s.closes.2 ∧ Tn K h h' O O' :=
  (C137 R.X hne R.w R.B z).mono fun v h' ⟨m,O',e1,e2,st,X,t⟩ => ⟨m,O',e1,e2,st,R.go X t (VS.closes_wf R.w hne).1 (by have := R.l; have := VS.closes_gr s; unfold VS.Gr at this; omega) R.n (by rw [(VS.closes_wf R.w hne).2,List.length_dropLast]; have := R.o; omega),t⟩
theorem Rn.olt (R : Rn K M mc h0 O0 b xe N h O s) : ∀ i,O i → i < h.next := by
  obtain ⟨a,c,oa,oc,ms,X⟩ := R.X
  exact X.lt
theorem Rn.start {h1 : Heap} {cs : List Value} (X : Ck K h O s) (Y : MoX h O K.pm M mc) (w : VS.Wf s) (hl : s.l.length ≤ 900000000) (ho : s.op.length ≤ 1000000) (x : Xe h h1) (n : h1.next = h.next + 1) (g : h1.get h.next = some (.cells cs 0 false)) : Rn K M mc h O h.next cs 900000000 h1 O s := by
  have olt : ∀ i,O i → i < h.next := by
    obtain ⟨a,c,oa,oc,ms,X⟩ := X
    exact X.lt
  obtain ⟨a,c,oa,oc,ms,X⟩ := X
  obtain ⟨X1,t1⟩ := X.ext0' x
  exact ⟨X1,t1,Y.turn t1.t,g,fun q => by have := olt _ q; omega,w,hl,by decide,ho⟩
def Sw (K : VK) (h : Heap) (O : Nat → Prop) (s : VS) (r : Option VS) (v : Value) (h' : Heap) : Prop :=
  match r with
  | some r => v = .bool true ∧ Vg K h O h' r
  | none => v = .bool false ∧ Vg K h O h' s
theorem Rn.done (R : Rn K M mc h0 O0 b xe N h O s) : Vg K h0 O0 h s := ⟨O,R.X,R.T⟩
theorem Rn.rests (R : Rn K M mc h0 O0 b xe N h O s) (hne : s.op ≠ []) : Fn Try.prog 134 [ptr K.p] h fun v h' => Vg K h0 O0 h' s.rests :=
  (C134 R.X hne R.w R.B).mono fun v h' q => Vg.trans R.T q
theorem Rn.opens {op : Int} {fr to : List Nat} {fa ta : Option Addr} {fc tc fn tn : Nat} (R : Rn K M mc h0 O0 b xe N h O s) (sf : Stl h O fa fn fc fr) (st : Stl h O ta tn tc to) (hb : fn ≤ 1000000) : Fn Try.prog 58 [ptr K.p,.int .i64 op,.slice fa fn fc,.slice ta tn tc] h fun v h' => Vg K h0 O0 h' (s.opens op fr to) :=
  (C58 R.X sf st R.B hb).mono fun v h' q => Vg.trans R.T q
end

end
end Go.Dx.SYtpkefdoleieloaa
