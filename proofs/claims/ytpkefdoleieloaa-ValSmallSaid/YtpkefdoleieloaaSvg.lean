/- Texts merged: De1.lean, Nm1.lean, Mk1.lean, Mk2.lean, Bk1.lean, Vl1.lean, Fi0.lean, Sm1.lean, Sm2.lean. -/
import Derived.Test.YtpkefdoleieloaaSvf
import Derived.Test.YtpkefdoleieloaaDy36
import Derived.Test.YtpkefdoleieloaaDy39
namespace Go.Dx.SYtpkefdoleieloaa
open Go.Proofs
set_option linter.unusedVariables false
set_option linter.unusedSimpArgs false
section
/- Which functions may be named (val's and the document's): all, where each is exported. -/
abbrev bos (xs : List Bool) : List Value := xs.map Value.bool
theorem zeros_bos : ∀ n : Nat,Xj [.bool false] n = bos (List.replicate n false)
  | 0 => rfl
  | n + 1 => by
    show Value.bool false :: Xj [.bool false] n = _
    rw [zeros_bos n]; rfl
theorem put_bos (D : List Bool) (x : Nat) : putL (bos D) (0 + (x : Int).toNat * 1) [.bool true] = bos (D.set x true) := by
  show (bos D).set (0 + (x : Int).toNat * 1) (.bool true) = _
  rw [show 0 + (x : Int).toNat * 1 = x by omega]
  simp [bos,List.map_set]
theorem Gf {l u : List Value} {k m r : Nat} (h : (l.drop k).take m = u) (hr : r < m) : l[k + r]? = u[r]? := by
  rw [← h,List.getElem?_take,if_pos hr,List.getElem?_drop]
structure DcS (h : Heap) (S : Nat → Prop) (mc : List Value) (n : Nat) : Prop where
  fu : ∃ a c,mc[1]? = some (.slice a n c)
  gl : ∃ a m c l,mc[4]? = some (.slice a m c) ∧ SlA h 3 a m c l ∧ (∀ i,Blk a i → S i) ∧ m ≤ 1000000 ∧ ∀ i,i < m → ∃ u v ia ic,∃ x : List IM,(l.drop (i * 3)).take 3 = [u,v,.slice ia x.length ic] ∧ isCell u = true ∧ isCell v = true ∧ SlA h 6 ia x.length ic (en IM.enc x) ∧ (∀ i,Blk ia i → S i) ∧ x.length ≤ 1000000 ∧ ∀ y ∈ x,y.i.a < 4294967296
  el : ∃ a m c l,mc[8]? = some (.slice a m c) ∧ SlA h 5 a m c l ∧ (∀ i,Blk a i → S i) ∧ m ≤ 1000000 ∧ ∀ i,i < m → ∃ t u v w qa qn qc ql,(l.drop (i * 5)).take 5 = [t,u,v,w,.slice qa qn qc] ∧ [t,u,v,w].all isCell = true ∧ SlA h 1 qa qn qc ql ∧ (∀ i,Blk qa i → S i) ∧ qn ≤ 1000000 ∧ ∀ j,j < qn → ∃ ia ic,∃ x : List IM,ql[j]? = some (.slice ia x.length ic) ∧ SlA h 6 ia x.length ic (en IM.enc x) ∧ (∀ i,Blk ia i → S i) ∧ x.length ≤ 1000000 ∧ ∀ y ∈ x,y.i.a < 4294967296
  ex : ∃ a c l,mc[5]? = some (.slice a n c) ∧ SlA h 3 a n c l ∧ (∀ i,Blk a i → S i) ∧ ∀ j,j < n → ∃ s : ByteArray,(l.drop (j * 3)).take 3 = [.string s,.int .u8 0,.int .u32 (j : Int)]
  hn : n ≤ 1000000
  len : mc.length = 13
  cell : mc.all isCell = true
abbrev fnM (po : Nat) : Value := .func (.func 158) ⟨[]⟩ ⟨[ptr po]⟩
section
variable {h : Heap} {po pm o n c : Nat} {D : List Bool}
theorem C158 {x : Nat} (gp : At h po (.cells [.slice (some ⟨o,0,none⟩) n c] 0 false)) (go : At h o (.cells (bos D) 1 false)) (hD : D.length = n) (hx : x < 4294967296) (hn : n ≤ 1000000) :
    Fn Try.prog 158 [.int .u32 (x : Int),ptr po] h fun v h' => At h' o (.cells (bos (D.set x true)) 1 false) ∧ Ext (· = o) h h' := by
  refine fnK F158.fok rfl ?_
  refine Wi (Wa rfl rfl (We (v := .slice (some ⟨o,0,none⟩) n c) rfl gp rfl (Wa rfl rfl (Wc rfl (C91 (n := x) (m := n) hx (by omega)) ?_))))
  rintro _ _ ⟨rfl,rfl⟩
  refine Wh [(0,_),(1,_),(6,_)] rfl ?_
  refine Wn rfl (fun hc => ?_) (fun hc => ?_)
  · have hlt := of_decide_eq_true hc
    refine Wk (We (v := .slice (some ⟨o,0,none⟩) n c) rfl gp rfl (Wa rfl rfl (Yk rfl rfl ⟨by omega,by omega⟩ (Wm (l := [.bool true]) rfl rfl rfl rfl go (by simp [bos]; omega) rfl fun h1 n1 x1 g1 => Wj [] rfl ?_))))
    rw [put_bos] at g1
    exact Wx.mk _ rfl ⟨g1,x1⟩
  · have hlt := of_decide_eq_false hc
    refine Ye (Wx.mk _ rfl ⟨?_,Ext.refl _ _⟩)
    rw [List.set_eq_of_length_le (by omega)]; exact go
theorem C159 {ia : Option Addr} {ic : Nat} {x : List IM} (gm : At h pm (.cells [fnM po] 0 false)) (gp : At h po (.cells [.slice (some ⟨o,0,none⟩) n c] 0 false)) (go : At h o (.cells (bos D) 1 false)) (hD : D.length = n) (hn : n ≤ 1000000) (s : SlA h 6 ia x.length ic (en IM.enc x)) (bi : ∀ i,Blk ia i → i ≠ o) (ho1 : po ≠ o) (ho2 : pm ≠ o) (hx : x.length ≤ 1000000) (ha : ∀ y ∈ x,y.i.a < 4294967296) :
    Fn Try.prog 159 [.slice ia x.length ic,ptr pm] h fun v h' => ∃ D',D'.length = n ∧ At h' o (.cells (bos D') 1 false) ∧ Ext (· = o) h h' := by
  have hol := go.lt
  refine fnK F159.fok rfl ?_
  refine Wi (Wa rfl rfl (Wa rfl rfl (Wa rfl rfl (Wh [(1,_),(5,_),(6,_),(7,_)] rfl ?_))))
  refine Yw ?_
  refine Ym (fun k e h' => ∃ (i : Nat) (D' : List Bool),e = [(1,ptr pm),(5,.slice ia x.length ic),(6,.int .i64 (x.length : Int)),(7,.int .i64 (i : Int))] ∧ i ≤ x.length ∧ k = x.length - i ∧ D'.length = n ∧ At h' o (.cells (bos D') 1 false) ∧ Ext (· = o) h h') ?_ (k := x.length) ⟨0,D,rfl,by omega,rfl,hD,go,Ext.refl _ _⟩
  rintro k e h1 ⟨i,D1,rfl,hi,rfl,hD1,go1,x1⟩
  refine Wi (Wa rfl rfl (Wh [(1,_),(5,_),(6,_),(7,_),(8,_)] rfl ?_))
  refine Wp rfl (fun hc => ?_) (fun hc => ?_)
  · have hlt : i < x.length := by have := of_decide_eq_true hc; omega
    have hn1 := x1.next
    refine Wt (Xa ?_)
    refine Wi (Kb IM.enc_len rfl rfl (s.ext x1 bi) rfl hlt fun p => Xl fun h2 n2 x2 g2 => Wm (l := x[i].enc) rfl rfl rfl rfl g2 (by simp) rfl fun h3 n3 x3 g3 => Wh [(1,_),(4,_),(5,_),(6,_),(7,_)] rfl ?_)
    replace g3 : At h3 h1.next (.cells x[i].enc 0 false) := g3
    have x13 : Xk h1 h3 := x2.then x3 fun j q => .inr (by omega)
    have x03 := x1.then0 x13
    refine Wi (Wa rfl rfl (We (v := .int .i64 x[i].i.op) rfl g3 rfl (Wa rfl rfl (Wh [(1,_),(4,_),(5,_),(6,_),(7,_),(13,_)] rfl ?_))))
    refine Wn rfl (fun hc2 => ?_) (fun hc2 => ?_)
    · refine Wk (We (v := fnM po) rfl (gm.ext x03 ho2) rfl (Wa rfl rfl (We (v := .int .u32 (x[i].i.a : Int)) rfl g3 rfl (Uk rfl rfl (C158 (gp.ext x03 ho1) (go1.ext x13 fun q => q) hD1 (ha _ (List.getElem_mem hlt)) hn) ?_))))
      rintro _ h4 ⟨go4,x4⟩
      refine Wj [(1,_),(5,_),(6,_),(7,_)] rfl ?_
      refine Wk (Wa rfl rfl (Wa rfl rfl (Wj [(1,_),(5,_),(6,_),(7,_)] rfl ?_)))
      exact ⟨x.length - (i + 1),by omega,i + 1,_,by rw [Ju (by omega)],by omega,rfl,by rw [List.length_set,hD1],go4,x03.trans x4⟩
    · refine Ye (Wk (Wa rfl rfl (Wa rfl rfl (Wj [(1,_),(5,_),(6,_),(7,_)] rfl ?_))))
      exact ⟨x.length - (i + 1),by omega,i + 1,D1,by rw [Ju (by omega)],by omega,rfl,hD1,go1.ext x13 fun q => q,x03⟩
  · refine Xv (Xu ?_)
    exact Wx.mk _ rfl ⟨D1,hD1,go1,x1⟩
theorem C104 {ia : Option Addr} {ic : Nat} {x : List IM} (go : At h o (.cells (bos D) 1 false)) (hD : D.length = n) (hn : n ≤ 1000000) (s : SlA h 6 ia x.length ic (en IM.enc x)) (bi : ∀ i,Blk ia i → i ≠ o) (hx : x.length ≤ 1000000) (ha : ∀ y ∈ x,y.i.a < 4294967296) :
    Fn Try.prog 104 [.slice (some ⟨o,0,none⟩) n c,.slice ia x.length ic] h fun v h' => ∃ D',D'.length = n ∧ At h' o (.cells (bos D') 1 false) ∧ Ext (· = o) h h' := by
  refine fnK F104.fok rfl ?_
  refine Wi (Wa rfl rfl (Wh [(0,_),(1,_),(4,_)] rfl ?_))
  refine Yw ?_
  refine Ym (fun k e h' => ∃ (i : Nat) (D' : List Bool),e = [(0,.slice (some ⟨o,0,none⟩) n c),(1,.slice ia x.length ic),(4,.int .i64 (i : Int))] ∧ i ≤ x.length ∧ k = x.length - i ∧ D'.length = n ∧ At h' o (.cells (bos D') 1 false) ∧ Ext (· = o) h h') ?_ (k := x.length) ⟨0,D,rfl,by omega,rfl,hD,go,Ext.refl _ _⟩
  rintro k e h1 ⟨i,D1,rfl,hi,rfl,hD1,go1,x1⟩
  refine Xd (Wi (Wa rfl rfl (Wa rfl rfl (Wa rfl rfl (Wa rfl rfl (Wh [(0,_),(1,_),(4,_),(8,_)] rfl ?_))))))
  refine Wp rfl (fun hc => ?_) (fun hc => ?_)
  · have hlt : i < x.length := by have := of_decide_eq_true hc; omega
    have s1 := s.ext x1 bi
    have hax := ha _ (List.getElem_mem hlt)
    have u0 : (en IM.enc x)[((i : Nat) : Int).toNat * 6 + 0]? = some (.int .i64 x[i].i.op) := by rw [Int.toNat_natCast,en_at IM.enc_len x i 0 hlt (by decide)]; rfl
    have u1 : (en IM.enc x)[((i : Nat) : Int).toNat * 6 + 1]? = some (.int .u32 (x[i].i.a : Int)) := by rw [Int.toNat_natCast,en_at IM.enc_len x i 1 hlt (by decide)]; rfl
    refine Wt (Xa ?_)
    refine Ww (fun e' h' => ∃ d,e' = [(0,.slice (some ⟨o,0,none⟩) n c),(1,.slice ia x.length ic),(4,.int .i64 (i : Int)),(28,.bool d)] ∧ h1 = h' ∧ (d = true → x[i].i.a < n)) ?_ ?_
    · refine Wk (Wa rfl rfl (Wa rfl rfl (Zi rfl rfl s1 ⟨by omega,by omega⟩ (by decide) u0 fun p q => Wa rfl rfl (Wa rfl rfl ?_))))
      cases hq : (x[i].i.op == 210)
      · exact Wb rfl (Wb rfl (Wb rfl (Wb rfl (Wb rfl (Wb rfl (Wb rfl (Wb rfl (Wb rfl (Wb rfl (Wa rfl rfl (Wj [(0,_),(1,_),(4,_),(28,_)] rfl ⟨_,rfl,rfl,fun q => by cases q⟩)))))))))))
      · refine Wd rfl (Wa rfl rfl (Wd rfl (Wa rfl rfl (Wd rfl ?_))))
        refine Jf rfl rfl s1 ⟨by omega,by omega⟩ fun id off vs ez ro _ v1 v2 v3 => ?_
        refine Wd rfl (Wa rfl rfl (Wd rfl (We (v := .int .u32 (x[i].i.a : Int)) rfl v1 ?_ (Wd rfl (Wg (w := .int .u64 (x[i].i.a : Int)) rfl rfl (by rw [Qd (by omega)]) (Wd rfl (Wa rfl rfl (Wd rfl (Wa rfl rfl (Wd rfl (Wg (w := .int .u64 (n : Int)) rfl rfl (by rw [Qd (by omega)]) (Wd rfl (Wa rfl rfl (Wa rfl rfl (Wj [(0,_),(1,_),(4,_),(28,_)] rfl ⟨_,rfl,rfl,fun q => by have := of_decide_eq_true q; omega⟩)))))))))))))))
        rw [show off + ((i : Nat) : Int).toNat * 6 + 1 = off + (((i : Nat) : Int).toNat * 6 + 1) by omega,v3 _ (by omega)]; exact u1
    rintro _ _ ⟨d,rfl,rfl,hd⟩
    refine Wn rfl (fun hc2 => ?_) (fun hc2 => ?_)
    · have hlt2 := hd hc2
      refine Wk (Wa rfl rfl (Wa rfl rfl (Wa rfl rfl (Zi rfl rfl s1 ⟨by omega,by omega⟩ (by decide) u1 fun p q => ?_))))
      refine Yk rfl rfl ⟨by omega,by omega⟩ (Wm (l := [.bool true]) rfl rfl rfl rfl go1 (by simp [bos]; omega) rfl fun h2 n2 x2 g2 => Wj [(0,_),(1,_),(4,_)] rfl ?_)
      rw [put_bos] at g2
      refine Wk (Wa rfl rfl (Wa rfl rfl (Wa rfl rfl (Wj [(0,_),(1,_),(4,_)] rfl ?_))))
      exact ⟨x.length - (i + 1),by omega,i + 1,_,by rw [Ju (by omega)],by omega,rfl,by rw [List.length_set,hD1],g2,x1.trans x2⟩
    · refine Ye (Wk (Wa rfl rfl (Wa rfl rfl (Wa rfl rfl (Wj [(0,_),(1,_),(4,_)] rfl ?_)))))
      exact ⟨x.length - (i + 1),by omega,i + 1,D1,by rw [Ju (by omega)],by omega,rfl,hD1,go1,x1⟩
  · refine Xv (Xu ?_)
    exact Wx.mk _ rfl ⟨D1,hD1,go1,x1⟩
end
structure Dci (h h' : Heap) (b po pm o n c : Nat) (mc : List Value) (D : List Bool) : Prop where
  x : Xk h h'
  gb : At h' b (.cells mc 0 false)
  gp : At h' po (.cells [.slice (some ⟨o,0,none⟩) n c] 0 false)
  gm : At h' pm (.cells [fnM po] 0 false)
  go : At h' o (.cells (bos D) 1 false)
  hD : D.length = n
  ob : b ≠ o
  op : po ≠ o
  om : pm ≠ o
  on : h.next ≤ o
section
variable {h h' h2 : Heap} {b po pm o n c : Nat} {mc : List Value} {D D' : List Bool}
theorem Dci.ext0 (q : Dci h h' b po pm o n c mc D) (x : Xk h' h2) : Dci h h2 b po pm o n c mc D :=
  ⟨q.x.then0 x,q.gb.ext x,q.gp.ext x,q.gm.ext x,q.go.ext x,q.hD,q.ob,q.op,q.om,q.on⟩
theorem Dci.step (q : Dci h h' b po pm o n c mc D) (x : Ext (· = o) h' h2) (g : At h2 o (.cells (bos D') 1 false)) (l : D'.length = n) : Dci h h2 b po pm o n c mc D' :=
  ⟨q.x.then x fun i r => .inr (by have := q.on; omega),q.gb.ext x q.ob,q.gp.ext x q.op,q.gm.ext x q.om,g,l,q.ob,q.op,q.om,q.on⟩
end
def trues (n : Nat) (D : List Bool) (j : Nat) : Prop := ∀ i,i < j → i < n → D[i]? = some true
theorem trues_set {n : Nat} {D : List Bool} {j : Nat} (t : trues n D j) (hD : D.length = n) : trues n (D.set j true) (j + 1) := fun i hi hn => by
  rw [List.getElem?_set]
  by_cases e : j = i
  · subst e; rw [if_pos rfl,if_pos (by omega)]
  · rw [if_neg e]; exact t i (by omega) hn
theorem trues_all {n : Nat} {D : List Bool} (t : trues n D n) (hD : D.length = n) : D = List.replicate n true := by
  apply List.ext_getElem?
  intro i
  by_cases hi : i < n
  · rw [t i hi hi]; simp [hi]
  · rw [List.getElem?_eq_none (by omega),List.getElem?_eq_none (by simp; omega)]
set_option maxHeartbeats 1000000 in
theorem C120 {h : Heap} {S : Nat → Prop} {mc : List Value} {n : Nat} (q : DcS h S mc n) (hS : ∀ i,S i → i < h.next) :
    Fn Try.prog 120 [.agg ⟨mc⟩] h fun v h' => ∃ a c,v = .slice a n c ∧ SlA h' 1 a n c (bos (List.replicate n true)) ∧ Xk h h' := by
  obtain ⟨fa,fc,fu⟩ := q.fu
  obtain ⟨ga,gm,gc,gl,gu,gs,gS,gml,gi⟩ := q.gl
  obtain ⟨ea,em,ec,el,eu,es,eS,eml,ei⟩ := q.el
  obtain ⟨xa,xc,xl,xu,xs,xS,xi⟩ := q.ex
  have hn := q.hn
  refine fnK F120.fok rfl ?_
  refine Wi (Xp (cs := mc) rfl rfl fun h1 n1 x1 g1 => Wa rfl rfl (Wh [(1,_)] rfl ?_))
  refine Wi (Wa rfl rfl (We (v := .slice fa n fc) rfl g1 fu (Wa rfl rfl (Wops_mkSl (k := n) rfl rfl ⟨by omega,by omega⟩ fun h2 cc n2 x2 g2 => Xl fun h3 n3 x3 g3 => Wm (l := [.slice (some ⟨h1.next,0,none⟩) n cc]) rfl rfl rfl rfl g3 (by simp) rfl fun h4 n4 x4 g4 => Wh [(1,_),(3,_)] rfl ?_))))
  refine Wi (Wa rfl rfl (Xl fun h5 n5 x5 g5 => Wm (l := [fnM h2.next]) rfl rfl rfl rfl g5 (by simp) rfl fun h6 n6 x6 g6 => Wh [(1,_),(3,_),(4,_)] rfl ?_))
  refine Wi (Wa rfl rfl (Wa rfl rfl (Wh [(1,_),(3,_),(4,_),(5,_)] rfl ?_)))
  have x24 : Xk h2 h4 := x3.then x4 fun i r => .inr (by omega)
  have x46 : Xk h4 h6 := x5.then x6 fun i r => .inr (by omega)
  rw [zeros_bos] at g2
  have Q0 : Dci h h6 h.next h2.next h4.next h1.next n cc mc (List.replicate n false) := by
    have y := ((x1.then0 x2).then0 x24).then0 x46
    have z1 := x2.next
    have z2 := x24.next
    refine ⟨y,((At.ext g1 x2 fun q => q).ext x24 fun q => q).ext x46 fun q => q,(show At h4 h2.next _ from g4).ext x46 fun q => q,g6,(At.ext g2 x24 fun q => q).ext x46 fun q => q,List.length_replicate,by omega,by omega,by omega,by omega⟩
  generalize hb : h.next = b at Q0 ⊢
  generalize hpo : h2.next = po at Q0 ⊢
  generalize hpm : h4.next = pm at Q0 ⊢
  generalize ho : h1.next = o at Q0 ⊢
  clear g1 g2 g3 g4 g5 g6 x1 x2 x3 x4 x5 x6 x24 x46 n1 n2 n3 n4 n5 n6 hpo hpm ho
  have hbo : ∀ {h' : Heap} {D : List Bool},Dci h h' b po pm o n cc mc D → ∀ i,S i → i ≠ o := fun q i r => by have := q.on; have := hS i r; omega
  refine Xd (Wi (Wa rfl rfl (We (v := .slice ga gm gc) rfl Q0.gb gu (Wa rfl rfl (Wa rfl rfl (Wh [(1,_),(3,_),(4,_),(5,_),(21,_),(22,_),(23,_)] rfl ?_))))))
  refine Xa ?_
  refine Ym (fun k e h' => ∃ (i : Nat) (D : List Bool),e = [(1,ptr b),(3,ptr po),(4,ptr pm),(5,.func (.func 159) ⟨[]⟩ ⟨[ptr pm]⟩),(21,.slice ga gm gc),(22,.int .i64 (gm : Int)),(23,.int .i64 (i : Int))] ∧ i ≤ gm ∧ k = gm - i ∧ Dci h h' b po pm o n cc mc D) ?_ (k := gm) ⟨0,_,rfl,by omega,rfl,Q0⟩
  clear Q0
  rintro k e h7 ⟨i,D7,rfl,hi,rfl,Q7⟩
  refine Wi (Wa rfl rfl (Wh [(1,_),(3,_),(4,_),(5,_),(21,_),(22,_),(23,_),(24,_)] rfl ?_))
  refine Wp rfl (fun hc => ?_) (fun hc => ?_)
  · have hlt : i < gm := by have := of_decide_eq_true hc; omega
    obtain ⟨u,v,ia,ic,x,e1,e2,e3,e4,e5,e6,e7⟩ := gi i hlt
    refine Wt (Xa ?_)
    refine Wi (Vh rfl rfl (gs.ext Q7.x) hlt e1 fun p => Xl fun h8 n8 x8 g8 => Wm (l := [u,v,.slice ia x.length ic]) rfl rfl rfl rfl g8 (by simp) (show (isCell u && (isCell v && true)) = true by rw [e2,e3]; rfl) fun h9 n9 x9 g9 => Wh [(1,_),(3,_),(4,_),(5,_),(7,_),(21,_),(22,_),(23,_)] rfl ?_)
    have Q9 := Q7.ext0 (x8.then x9 fun j r => .inr (by omega))
    refine Wk (Wa rfl rfl (Wa rfl rfl (We (v := .slice ia x.length ic) rfl g9 rfl (Uk rfl rfl (C159 Q9.gm Q9.gp Q9.go Q9.hD hn (e4.ext Q9.x) (fun j r => hbo Q9 j (e5 j r)) Q9.op Q9.om e6 e7) ?_))))
    rintro _ h10 ⟨D10,l10,g10,x10⟩
    refine Wj [(1,_),(3,_),(4,_),(5,_),(21,_),(22,_),(23,_)] rfl ?_
    refine Wk (Wa rfl rfl (Wa rfl rfl (Wj [(1,_),(3,_),(4,_),(5,_),(21,_),(22,_),(23,_)] rfl ?_)))
    exact ⟨gm - (i + 1),by omega,i + 1,D10,by rw [Ju (by omega)],by omega,rfl,Q9.step x10 g10 l10⟩
  refine Xv (Xu ?_)
  refine Xd (Wi (Wa rfl rfl (We (v := .slice ea em ec) rfl Q7.gb eu (Wa rfl rfl (Wa rfl rfl (Wh [(1,_),(3,_),(4,_),(5,_),(33,_),(34,_),(35,_)] rfl ?_))))))
  refine Xa ?_
  refine Ym (fun k e h' => ∃ (i : Nat) (D : List Bool),e = [(1,ptr b),(3,ptr po),(4,ptr pm),(5,.func (.func 159) ⟨[]⟩ ⟨[ptr pm]⟩),(33,.slice ea em ec),(34,.int .i64 (em : Int)),(35,.int .i64 (i : Int))] ∧ i ≤ em ∧ k = em - i ∧ Dci h h' b po pm o n cc mc D) ?_ (k := em) ⟨0,_,rfl,by omega,rfl,Q7⟩
  clear Q7 hc hi
  rintro k e h7 ⟨i,D7,rfl,hi,rfl,Q7⟩
  refine Wi (Wa rfl rfl (Wh [(1,_),(3,_),(4,_),(5,_),(33,_),(34,_),(35,_),(36,_)] rfl ?_))
  refine Wp rfl (fun hc => ?_) (fun hc => ?_)
  · have hlt : i < em := by have := of_decide_eq_true hc; omega
    obtain ⟨t,u,v,w,qa,qn,qc,ql,e1,e2,e3,e4,e5,e6⟩ := ei i hlt
    refine Wt (Xa ?_)
    refine Wi (Vh rfl rfl (es.ext Q7.x) hlt e1 fun p => Xl fun h8 n8 x8 g8 => Wm (l := [t,u,v,w,.slice qa qn qc]) rfl rfl rfl rfl g8 (by simp) (show ([t,u,v,w] ++ [Value.slice qa qn qc]).all isCell = true by rw [List.all_append,e2]; rfl) fun h9 n9 x9 g9 => Wh [(1,_),(3,_),(4,_),(5,_),(9,_),(33,_),(34,_),(35,_)] rfl ?_)
    have Q9 := Q7.ext0 (x8.then x9 fun j r => .inr (by omega))
    refine Wi (Wa rfl rfl (We (v := .slice qa qn qc) rfl g9 rfl (Wa rfl rfl (Wa rfl rfl (Wh [(1,_),(3,_),(4,_),(5,_),(33,_),(34,_),(35,_),(40,_),(41,_),(42,_)] rfl ?_)))))
    refine Yw ?_
    refine Ym (fun k e h' => ∃ (j : Nat) (D : List Bool),e = [(1,ptr b),(3,ptr po),(4,ptr pm),(5,.func (.func 159) ⟨[]⟩ ⟨[ptr pm]⟩),(33,.slice ea em ec),(34,.int .i64 (em : Int)),(35,.int .i64 (i : Int)),(40,.slice qa qn qc),(41,.int .i64 (qn : Int)),(42,.int .i64 (j : Int))] ∧ j ≤ qn ∧ k = qn - j ∧ Dci h h' b po pm o n cc mc D) ?_ (k := qn) ⟨0,_,rfl,by omega,rfl,Q9⟩
    clear Q7 Q9 g8 g9 x8 x9 n8 n9
    rintro k e h10 ⟨j,D10,rfl,hj,rfl,Q10⟩
    refine Wi (Wa rfl rfl (Wh [(1,_),(3,_),(4,_),(5,_),(33,_),(34,_),(35,_),(40,_),(41,_),(42,_),(43,_)] rfl ?_))
    refine Wp rfl (fun hc2 => ?_) (fun hc2 => ?_)
    · have hlt2 : j < qn := by have := of_decide_eq_true hc2; omega
      obtain ⟨ia,ic,x,f1,f2,f3,f4,f5⟩ := e6 j hlt2
      refine Wt (Xa ?_)
      refine Wi (Xm (u := .slice ia x.length ic) rfl rfl (e3.ext Q10.x) ⟨by omega,by omega⟩ (by rw [Int.toNat_natCast]; exact f1) fun p => Wa rfl rfl (Wh [(1,_),(3,_),(4,_),(5,_),(11,_),(33,_),(34,_),(35,_),(40,_),(41,_),(42,_)] rfl ?_))
      refine Wk (Wa rfl rfl (Wa rfl rfl (Uk rfl rfl (C159 Q10.gm Q10.gp Q10.go Q10.hD hn (f2.ext Q10.x) (fun j r => hbo Q10 j (f3 j r)) Q10.op Q10.om f4 f5) ?_)))
      rintro _ h11 ⟨D11,l11,g11,x11⟩
      refine Wj [(1,_),(3,_),(4,_),(5,_),(33,_),(34,_),(35,_),(40,_),(41,_),(42,_)] rfl ?_
      refine Wk (Wa rfl rfl (Wa rfl rfl (Wj [(1,_),(3,_),(4,_),(5,_),(33,_),(34,_),(35,_),(40,_),(41,_),(42,_)] rfl ?_)))
      exact ⟨qn - (j + 1),by omega,j + 1,D11,by rw [Ju (by omega)],by omega,rfl,Q10.step x11 g11 l11⟩
    · refine Xv (Xu ?_)
      refine Wk (Wa rfl rfl (Wa rfl rfl (Wj [(1,_),(3,_),(4,_),(5,_),(33,_),(34,_),(35,_)] rfl ?_)))
      exact ⟨em - (i + 1),by omega,i + 1,D10,by rw [Ju (by omega)],by omega,rfl,Q10⟩
  refine Xv (Xu ?_)
  refine Xd (Wi (Wa rfl rfl (We (v := .slice xa n xc) rfl Q7.gb xu (Wa rfl rfl (Wa rfl rfl (Wh [(3,_),(4,_),(52,_),(53,_),(54,_)] rfl ?_))))))
  refine Xa ?_
  refine Ym (fun k e h' => ∃ (i : Nat) (D : List Bool),e = [(3,ptr po),(4,ptr pm),(52,.slice xa n xc),(53,.int .i64 (n : Int)),(54,.int .i64 (i : Int))] ∧ i ≤ n ∧ k = n - i ∧ Dci h h' b po pm o n cc mc D ∧ trues n D i) ?_ (k := n) ⟨0,_,rfl,by omega,rfl,Q7,fun j hj => by omega⟩
  clear Q7 hc hi
  rintro k e h7 ⟨i,D7,rfl,hi,rfl,Q7,T7⟩
  refine Wi (Wa rfl rfl (Wh [(3,_),(4,_),(52,_),(53,_),(54,_),(55,_)] rfl ?_))
  refine Wp rfl (fun hc => ?_) (fun hc => ?_)
  · have hlt : i < n := by have := of_decide_eq_true hc; omega
    obtain ⟨s,e1⟩ := xi i hlt
    refine Wt (Xa ?_)
    refine Wi (Vh rfl rfl (xs.ext Q7.x) hlt e1 fun p => Xl fun h8 n8 x8 g8 => Wm (l := [.string s,.int .u8 0,.int .u32 (i : Int)]) rfl rfl rfl rfl g8 (by simp) rfl fun h9 n9 x9 g9 => Wh [(3,_),(4,_),(13,_),(52,_),(53,_),(54,_)] rfl ?_)
    have Q9 := Q7.ext0 (x8.then x9 fun j r => .inr (by omega))
    refine Wi (Wa rfl rfl (We (v := .int .u8 0) rfl g9 rfl (Wa rfl rfl (Wh [(3,_),(4,_),(13,_),(52,_),(53,_),(54,_),(60,_)] rfl ?_))))
    refine Wn (t := true) rfl (fun _ => ?_) (fun hc => by cases hc)
    refine Wk (We (v := fnM po) rfl Q9.gm rfl (Wa rfl rfl (We (v := .int .u32 (i : Int)) rfl g9 rfl (Uk rfl rfl (C158 Q9.gp Q9.go Q9.hD (by omega) hn) ?_))))
    rintro _ h10 ⟨g10,x10⟩
    refine Wj [(3,_),(4,_),(52,_),(53,_),(54,_)] rfl ?_
    refine Wk (Wa rfl rfl (Wa rfl rfl (Wj [(3,_),(4,_),(52,_),(53,_),(54,_)] rfl ?_)))
    exact ⟨n - (i + 1),by omega,i + 1,_,by rw [Ju (by omega)],by omega,rfl,Q9.step x10 g10 (by rw [List.length_set,Q9.hD]),trues_set T7 Q9.hD⟩
  have hin : i = n := by have := of_decide_eq_false hc; omega
  subst hin
  refine Xv (Xu ?_)
  refine Wi (We (v := .slice (some ⟨o,0,none⟩) i cc) rfl Q7.gp rfl (Wa rfl rfl (Wh [(2,_)] rfl ?_)))
  have eD := trues_all T7 Q7.hD
  subst eD
  exact Xn (Wx.mk _ rfl ⟨some ⟨o,0,none⟩,cc,rfl,(OwS.new (n := i) (c := cc) Q7.go (by simp [bos])).sl,Q7.x⟩)
structure Dcj (h h' : Heap) (b o n : Nat) (mc : List Value) (D : List Bool) : Prop where
  x : Xk h h'
  gb : At h' b (.cells mc 0 false)
  go : At h' o (.cells (bos D) 1 false)
  hD : D.length = n
  ob : b ≠ o
  on : h.next ≤ o
theorem Dcj.step {h h' h2 : Heap} {b o n : Nat} {mc : List Value} {D D' : List Bool} (q : Dcj h h' b o n mc D) (x : Ext (· = o) h' h2) (g : At h2 o (.cells (bos D') 1 false)) (l : D'.length = n) : Dcj h h2 b o n mc D' :=
  ⟨q.x.then x fun i r => .inr (by have := q.on; omega),q.gb.ext x q.ob,g,l,q.ob,q.on⟩
set_option maxHeartbeats 1000000 in
theorem C61 {h : Heap} {S : Nat → Prop} {mc : List Value} {n : Nat} (q : DcS h S mc n) (hS : ∀ i,S i → i < h.next) :
    Fn Try.prog 61 [.agg ⟨mc⟩] h fun v h' => ∃ a c,v = .slice a n c ∧ SlA h' 1 a n c (bos (List.replicate n true)) ∧ (∀ i,Blk a i → i < h'.next) ∧ Xk h h' := by
  obtain ⟨fa,fc,fu⟩ := q.fu
  obtain ⟨ga,gm,gc,gl,gu,gs,gS,gml,gi⟩ := q.gl
  obtain ⟨ea,em,ec,el,eu,es,eS,eml,ei⟩ := q.el
  obtain ⟨xa,xc,xl,xu,xs,xS,xi⟩ := q.ex
  have hn := q.hn
  refine fnK F61.fok rfl ?_
  refine Wi (Xp (cs := mc) rfl rfl fun h1 n1 x1 g1 => Wa rfl rfl (Wh [(1,_)] rfl ?_))
  refine Wi (Wa rfl rfl (We (v := .slice fa n fc) rfl g1 fu (Wa rfl rfl (Wops_mkSl (k := n) rfl rfl ⟨by omega,by omega⟩ fun h2 cc n2 x2 g2 => Wa rfl rfl (Wh [(1,_),(3,_)] rfl ?_)))))
  rw [zeros_bos] at g2
  have Q0 : Dcj h h2 h.next h1.next n mc (List.replicate n false) :=
    ⟨x1.then0 x2,At.ext g1 x2 fun q => q,g2,List.length_replicate,by omega,by omega⟩
  generalize hb : h.next = b at Q0 ⊢
  generalize ho : h1.next = o at Q0 ⊢
  clear g1 g2 x1 x2 n1 n2 ho
  have hbo : ∀ {h' : Heap} {D : List Bool},Dcj h h' b o n mc D → ∀ i,S i → i ≠ o := fun q i r => by have := q.on; have := hS i r; omega
  refine Xd (Wi (Wa rfl rfl (Wh [(1,_),(3,_),(4,_)] rfl ?_)))
  refine Xa ?_
  refine Ym (fun k e h' => ∃ (i : Nat) (D : List Bool),e = [(1,ptr b),(3,.slice (some ⟨o,0,none⟩) n cc),(4,.int .i64 (i : Int))] ∧ i ≤ gm ∧ k = gm - i ∧ Dcj h h' b o n mc D) ?_ (k := gm) ⟨0,_,rfl,by omega,rfl,Q0⟩
  clear Q0
  rintro k e h7 ⟨i,D7,rfl,hi,rfl,Q7⟩
  refine Xd (Wi (Wa rfl rfl (Wa rfl rfl (We (v := .slice ga gm gc) rfl Q7.gb gu (Wa rfl rfl (Wa rfl rfl (Wh [(1,_),(3,_),(4,_),(16,_)] rfl ?_)))))))
  refine Wp rfl (fun hc => ?_) (fun hc => ?_)
  · have hlt : i < gm := by have := of_decide_eq_true hc; omega
    obtain ⟨u,v,ia,ic,x,e1,e2,e3,e4,e5,e6,e7⟩ := gi i hlt
    have u2 : gl[((i : Nat) : Int).toNat * 3 + 2]? = some (.slice ia x.length ic) := by rw [Int.toNat_natCast,Gf e1 (by decide)]; rfl
    refine Wt (Xa ?_)
    refine Wk (Wa rfl rfl (Wa rfl rfl (We (v := .slice ga gm gc) rfl Q7.gb gu (Wa rfl rfl (Zi rfl rfl (gs.ext Q7.x) ⟨by omega,by omega⟩ (by decide) u2 fun p q => Wc rfl (C104 Q7.go Q7.hD hn (e4.ext Q7.x) (fun j r => hbo Q7 j (e5 j r)) e6 e7) ?_)))))
    rintro _ h10 ⟨D10,l10,g10,x10⟩
    refine Wj [(1,_),(3,_),(4,_)] rfl ?_
    refine Wk (Wa rfl rfl (Wa rfl rfl (Wa rfl rfl (Wj [(1,_),(3,_),(4,_)] rfl ?_))))
    exact ⟨gm - (i + 1),by omega,i + 1,D10,by rw [Ju (by omega)],by omega,rfl,Q7.step x10 g10 l10⟩
  refine Xv (Xu ?_)
  refine Xd (Wi (Wa rfl rfl (Wh [(1,_),(3,_),(5,_)] rfl ?_)))
  refine Xa ?_
  refine Ym (fun k e h' => ∃ (i : Nat) (D : List Bool),e = [(1,ptr b),(3,.slice (some ⟨o,0,none⟩) n cc),(5,.int .i64 (i : Int))] ∧ i ≤ em ∧ k = em - i ∧ Dcj h h' b o n mc D) ?_ (k := em) ⟨0,_,rfl,by omega,rfl,Q7⟩
  clear Q7 hc hi
  rintro k e h7 ⟨i,D7,rfl,hi,rfl,Q7⟩
  refine Xd (Wi (Wa rfl rfl (Wa rfl rfl (We (v := .slice ea em ec) rfl Q7.gb eu (Wa rfl rfl (Wa rfl rfl (Wh [(1,_),(3,_),(5,_),(31,_)] rfl ?_)))))))
  refine Wp rfl (fun hc => ?_) (fun hc => ?_)
  · have hlt : i < em := by have := of_decide_eq_true hc; omega
    obtain ⟨t,u,v,w,qa,qn,qc,ql,e1,e2,e3,e4,e5,e6⟩ := ei i hlt
    have u4 : el[((i : Nat) : Int).toNat * 5 + 4]? = some (.slice qa qn qc) := by rw [Int.toNat_natCast,Gf e1 (by decide)]; rfl
    refine Wt (Xa ?_)
    refine Wi (Wa rfl rfl (Wh [(1,_),(3,_),(5,_),(6,_)] rfl ?_))
    refine Yw ?_
    refine Ym (fun k e h' => ∃ (j : Nat) (D : List Bool),e = [(1,ptr b),(3,.slice (some ⟨o,0,none⟩) n cc),(5,.int .i64 (i : Int)),(6,.int .i64 (j : Int))] ∧ j ≤ qn ∧ k = qn - j ∧ Dcj h h' b o n mc D) ?_ (k := qn) ⟨0,_,rfl,by omega,rfl,Q7⟩
    clear Q7
    rintro k e h10 ⟨j,D10,rfl,hj,rfl,Q10⟩
    refine Xd (Wi (Wa rfl rfl (Wa rfl rfl (We (v := .slice ea em ec) rfl Q10.gb eu (Wa rfl rfl (Zi rfl rfl (es.ext Q10.x) ⟨by omega,by omega⟩ (by decide) u4 fun p q => Wa rfl rfl (Wa rfl rfl (Wh [(1,_),(3,_),(5,_),(6,_),(42,_)] rfl ?_))))))))
    refine Wp rfl (fun hc2 => ?_) (fun hc2 => ?_)
    · have hlt2 : j < qn := by have := of_decide_eq_true hc2; omega
      obtain ⟨ia,ic,x,f1,f2,f3,f4,f5⟩ := e6 j hlt2
      refine Wt (Xa ?_)
      refine Wk (Wa rfl rfl (Wa rfl rfl (We (v := .slice ea em ec) rfl Q10.gb eu (Wa rfl rfl (Zi rfl rfl (es.ext Q10.x) ⟨by omega,by omega⟩ (by decide) u4 fun p q => Wa rfl rfl (Xm (u := .slice ia x.length ic) rfl rfl (e3.ext Q10.x) ⟨by omega,by omega⟩ (by rw [Int.toNat_natCast]; exact f1) fun p2 => Wc rfl (C104 Q10.go Q10.hD hn (f2.ext Q10.x) (fun j r => hbo Q10 j (f3 j r)) f4 f5) ?_))))))
      rintro _ h11 ⟨D11,l11,g11,x11⟩
      refine Wj [(1,_),(3,_),(5,_),(6,_)] rfl ?_
      refine Wk (Wa rfl rfl (Wa rfl rfl (Wa rfl rfl (Wj [(1,_),(3,_),(5,_),(6,_)] rfl ?_))))
      exact ⟨qn - (j + 1),by omega,j + 1,D11,by rw [Ju (by omega)],by omega,rfl,Q10.step x11 g11 l11⟩
    · refine Xv (Xu ?_)
      refine Wk (Wa rfl rfl (Wa rfl rfl (Wa rfl rfl (Wj [(1,_),(3,_),(5,_)] rfl ?_))))
      exact ⟨em - (i + 1),by omega,i + 1,D10,by rw [Ju (by omega)],by omega,rfl,Q10⟩
  refine Xv (Xu ?_)
  refine Xd (Wi (Wa rfl rfl (Wh [(1,_),(3,_),(7,_)] rfl ?_)))
  refine Xa ?_
  refine Ym (fun k e h' => ∃ (i : Nat) (D : List Bool),e = [(1,ptr b),(3,.slice (some ⟨o,0,none⟩) n cc),(7,.int .i64 (i : Int))] ∧ i ≤ n ∧ k = n - i ∧ Dcj h h' b o n mc D ∧ trues n D i) ?_ (k := n) ⟨0,_,rfl,by omega,rfl,Q7,fun j hj => by omega⟩
  clear Q7 hc hi
  rintro k e h7 ⟨i,D7,rfl,hi,rfl,Q7,T7⟩
  refine Xd (Wi (Wa rfl rfl (Wa rfl rfl (We (v := .slice xa n xc) rfl Q7.gb xu (Wa rfl rfl (Wa rfl rfl (Wh [(1,_),(3,_),(7,_),(60,_)] rfl ?_)))))))
  refine Wp rfl (fun hc => ?_) (fun hc => ?_)
  · have hlt : i < n := by have := of_decide_eq_true hc; omega
    obtain ⟨s,e1⟩ := xi i hlt
    have u1 : xl[((i : Nat) : Int).toNat * 3 + 1]? = some (.int .u8 0) := by rw [Int.toNat_natCast,Gf e1 (by decide)]; rfl
    have u2 : xl[((i : Nat) : Int).toNat * 3 + 2]? = some (.int .u32 (i : Int)) := by rw [Int.toNat_natCast,Gf e1 (by decide)]; rfl
    have xs7 := xs.ext Q7.x
    refine Wt (Xa ?_)
    refine Wi (Wa rfl rfl (We (v := .slice xa n xc) rfl Q7.gb xu (Wa rfl rfl (Zi rfl rfl xs7 ⟨by omega,by omega⟩ (by decide) u1 fun p q => Wa rfl rfl (Wa rfl rfl ?_)))))
    refine Wd rfl (Wa rfl rfl (Wd rfl (We (v := .slice xa n xc) rfl Q7.gb xu (Wd rfl (Wa rfl rfl (Wd rfl ?_))))))
    refine Jf rfl rfl xs7 ⟨by omega,by omega⟩ fun id off vs ez ro _ v1 v2 v3 => ?_
    refine Wd rfl (Wa rfl rfl (Wd rfl (We (v := .int .u32 (i : Int)) rfl v1 ?_ (Wd rfl (Wg (w := .int .u64 (i : Int)) rfl rfl (by rw [Qd (by omega)]) (Wd rfl (Wa rfl rfl (Wd rfl (Wa rfl rfl (Wd rfl (Wg (w := .int .u64 (n : Int)) rfl rfl (by rw [Qd (by omega)]) (Wd rfl (Wg (w := .bool true) rfl rfl (by rw [decide_eq_true (by omega)]) (Wa rfl rfl (Wh [(1,_),(3,_),(7,_),(82,_)] rfl ?_)))))))))))))))
    · rw [show off + ((i : Nat) : Int).toNat * 3 + 2 = off + (((i : Nat) : Int).toNat * 3 + 2) by omega,v3 _ (by omega)]; exact u2
    refine Wn (t := true) rfl (fun _ => ?_) (fun hc => by cases hc)
    refine Wk (Wa rfl rfl (Wa rfl rfl (We (v := .slice xa n xc) rfl Q7.gb xu (Wa rfl rfl (Zi rfl rfl xs7 ⟨by omega,by omega⟩ (by decide) u2 fun p q => ?_)))))
    refine Yk rfl rfl ⟨by omega,by omega⟩ (Wm (l := [.bool true]) rfl rfl rfl rfl Q7.go (by have := Q7.hD; simp [bos]; omega) rfl fun h10 n10 x10 g10 => Wj [(1,_),(3,_),(7,_)] rfl ?_)
    rw [put_bos] at g10
    refine Wk (Wa rfl rfl (Wa rfl rfl (Wa rfl rfl (Wj [(1,_),(3,_),(7,_)] rfl ?_))))
    exact ⟨n - (i + 1),by omega,i + 1,_,by rw [Ju (by omega)],by omega,rfl,Q7.step x10 g10 (by rw [List.length_set,Q7.hD]),trues_set T7 Q7.hD⟩
  have hin : i = n := by have := of_decide_eq_false hc; omega
  subst hin
  refine Xv (Xu ?_)
  refine Wi (Wa rfl rfl (Wa rfl rfl (Wh [(2,_)] rfl ?_)))
  have eD := trues_all T7 Q7.hD
  subst eD
  have ow : OwS h7 1 (some ⟨o,0,none⟩) i cc (bos (List.replicate i true)) := OwS.new Q7.go (by simp [bos])
  exact Xn (Wx.mk _ rfl ⟨some ⟨o,0,none⟩,cc,rfl,ow.sl,fun j r => ow.lt r,Q7.x⟩)

end
section
/- The document's names of instructions: all are known. -/
def is64 (xs : List Int) : List Value := xs.map (Value.int .i64)
noncomputable def kdd (n : Int) : Option (Int × Int) := match fnR T 400 60 [.int .i64 n] Heap.empty with
  | some (.tuple ⟨[.int .i64 a,.int .i64 b]⟩,_) => some (a,b)
  | _ => none
theorem C60 {h : Heap} {n a b : Int} (hk : kdd n = some (a,b)) : Fn Try.prog 60 [.int .i64 n] h fun v h' => v = .tuple ⟨[.int .i64 a,.int .i64 b]⟩ ∧ h = h' := by
  refine Fn.anywhere (R := fun v => v = .tuple ⟨[.int .i64 a,.int .i64 b]⟩) rfl (Q := fun v _ => v = .tuple ⟨[.int .i64 a,.int .i64 b]⟩) ?_ fun v h' q => ⟨by rw [q]; rfl,q⟩
  unfold kdd at hk
  split at hk
  · rename_i a' b' h' hq
    simp only [Option.some.injEq,Prod.mk.injEq] at hk
    obtain ⟨rfl,rfl⟩ := hk
    rw [fnR_eq] at hq
    refine (dfn_ok T.ok 400 _ _ _ _ _ hq).mono ?_
    rintro v1 h1 ⟨rfl,_⟩
    rfl
  · cases hk
def opsA : List Int := opsC ++ Uh ++ Ki
noncomputable def kno (n : Int) : Bool := match kdd n with
  | some (_,b) => !(b == 0) || opsA.contains n
  | none => false
set_option maxRecDepth 100000 in
theorem kno_a0 : allB (fun m => kno (0 + (m : Int))) 64 0 = true := by kernel_rfl
set_option maxRecDepth 100000 in
theorem kno_a1 : allB (fun m => kno (0 + (m : Int))) 64 64 = true := by kernel_rfl
set_option maxRecDepth 100000 in
theorem kno_a2 : allB (fun m => kno (0 + (m : Int))) 64 128 = true := by kernel_rfl
set_option maxRecDepth 100000 in
theorem kno_a3 : allB (fun m => kno (0 + (m : Int))) 64 192 = true := by kernel_rfl
theorem kno_a {m : Nat} (h : m < 256) : kno (0 + (m : Int)) = true := by
  by_cases h0 : m < 64
  · exact Jo (g := fun m => kno (0 + (m : Int))) 64 0 kno_a0 m (by omega) (by omega)
  by_cases h1 : m < 128
  · exact Jo (g := fun m => kno (0 + (m : Int))) 64 64 kno_a1 m (by omega) (by omega)
  by_cases h2 : m < 192
  · exact Jo (g := fun m => kno (0 + (m : Int))) 64 128 kno_a2 m (by omega) (by omega)
  exact Jo (g := fun m => kno (0 + (m : Int))) 64 192 kno_a3 m (by omega) (by omega)
set_option maxRecDepth 100000 in
theorem kno_b0 : allB (fun m => kno (64512 + (m : Int))) 64 0 = true := by kernel_rfl
set_option maxRecDepth 100000 in
theorem kno_b1 : allB (fun m => kno (64512 + (m : Int))) 64 64 = true := by kernel_rfl
set_option maxRecDepth 100000 in
theorem kno_b2 : allB (fun m => kno (64512 + (m : Int))) 64 128 = true := by kernel_rfl
set_option maxRecDepth 100000 in
theorem kno_b3 : allB (fun m => kno (64512 + (m : Int))) 64 192 = true := by kernel_rfl
theorem kno_b {m : Nat} (h : m < 256) : kno (64512 + (m : Int)) = true := by
  by_cases h0 : m < 64
  · exact Jo (g := fun m => kno (64512 + (m : Int))) 64 0 kno_b0 m (by omega) (by omega)
  by_cases h1 : m < 128
  · exact Jo (g := fun m => kno (64512 + (m : Int))) 64 64 kno_b1 m (by omega) (by omega)
  by_cases h2 : m < 192
  · exact Jo (g := fun m => kno (64512 + (m : Int))) 64 128 kno_b2 m (by omega) (by omega)
  exact Jo (g := fun m => kno (64512 + (m : Int))) 64 192 kno_b3 m (by omega) (by omega)
theorem kno_ok {n : Int} (h : kno n = true) : ∃ a b,kdd n = some (a,b) ∧ (b = 0 → n ∈ opsC ∨ n ∈ Uh ∨ n ∈ Ki) := by
  unfold kno at h
  split at h
  · rename_i a b hk
    refine ⟨a,b,hk,fun q => ?_⟩
    subst q
    have h2 : n ∈ opsA := by simpa using h
    rcases List.mem_append.1 h2 with q | q
    · exact (List.mem_append.1 q).elim .inl fun r => .inr (.inl r)
    · exact .inr (.inr q)
  · cases h
noncomputable def nob (n : Int) : Bool := match kdd n with
  | some (_,b) => !(b == 0)
  | none => false
theorem nob254 : nob 254 = true := by kernel_rfl
noncomputable def yes (n : Int) : Bool := match kdd n with
  | some (_,b) => b == 0
  | none => false
theorem yes0 : yes 0 = true := by kernel_rfl
theorem kdd0 {a b : Int} (h : kdd 0 = some (a,b)) : b = 0 := by
  have q := yes0
  unfold yes at q
  rw [h] at q
  exact eq_of_beq q
def opCs : List Int := [0,1,2,3,4,5,11,12,13,14,15,16,17,26,27,28,32,33,34,35,36,37,38,40,41,42,43,44,45,46,47,48,49,50,51,52,53,54,55,56,57,58,59,60,61,62,63,64,65,66,67,68,69,90,91,102,103,138,139,166,167,168,171,172,173,174,191,192,196,208,209,210,253,64512,64519,64520,64521,64522,64523,64524,64525,64526,64527,64528,64529,64768,65023,65024]
def opF : Nat → List Nat
  | 102 => [0,3]
  | _ => [0]
theorem op_fns : cfns .i64 opCs T opF [60,102,103] = true := by kernel_rfl
theorem cs_gap : opCs.all (fun c => decide (c ≤ 253) || decide (64512 ≤ c)) = true := by decide
theorem kdd_mid {n : Int} (h1 : 254 ≤ n) (h2 : n < 64512) : kdd n = kdd 254 := by
  unfold kdd
  rw [fnR_eq,cfn_same (K := .i64) (x := n) (y := 254) (Cs := opCs) (G := [60,102,103]) (fun c hc => by
    have := List.all_eq_true.1 cs_gap c hc
    simp at this
    omega) op_fns 400 60 (by decide) Heap.empty]
theorem kdd_all {n : Nat} (h : n < 64768) : ∃ a b,kdd (n : Int) = some (a,b) ∧ (b = 0 → (n : Int) ∈ opsC ∨ (n : Int) ∈ Uh ∨ (n : Int) ∈ Ki) := by
  by_cases h1 : n < 256
  · have := kno_ok (kno_a (m := n) (by omega))
    rw [Int.zero_add] at this; exact this
  by_cases h2 : n < 64512
  · rw [kdd_mid (by omega) (by omega)]
    have h := nob254
    unfold nob at h
    split at h
    · rename_i a b hk
      exact ⟨a,b,hk,fun q => by subst q; cases h⟩
    · cases h
  · have := kno_ok (kno_b (m := n - 64512) (by omega))
    rw [show (64512 : Int) + ((n - 64512 : Nat) : Int) = n by omega] at this; exact this
theorem C17 {h : Heap} : Fn Try.prog 17 [] h fun v h' => ∃ a c xs,v = .slice a xs.length c ∧ SlA h' 1 a xs.length c (is64 xs) ∧ Xk h h' ∧ (∀ m,Blk a m → h.next ≤ m ∧ m < h'.next) ∧ 0 < xs.length ∧ xs.length ≤ 64768 ∧ ∀ x ∈ xs,x ∈ opsC ∨ x ∈ Uh ∨ x ∈ Ki := by
  refine fnK F17.fok rfl ?_
  refine Wi (Wa rfl rfl (Wh [] rfl (?_)))
  refine Wi (Wa rfl rfl (Wh [(1,_)] rfl (?_)))
  refine Xd (Wi (Wa rfl rfl (Wh [(1,_),(2,_)] rfl (?_))))
  refine Xa ?_
  generalize hN : (64768 : Nat) = N at *
  refine Ym (fun k e h' => ∃ (j no co : Nat) (ao : Option Addr) (xs : List Int),e = [(1,.slice ao no co),(2,.int .i64 j)] ∧ j ≤ N ∧ k = N - j ∧ Xk h h' ∧ OwS h' 1 ao no co (is64 xs) ∧ (∀ m,Blk ao m → h.next ≤ m) ∧ no ≤ j ∧ (0 < j → 0 < no) ∧ ∀ x ∈ xs,x ∈ opsC ∨ x ∈ Uh ∨ x ∈ Ki) ?_ (k := N) ⟨0,0,0,none,[],rfl,by omega,rfl,Ext.refl _ _,OwS.none,fun m r => absurd r Blk.none,Nat.le_refl _,fun q => q,fun x hx => by cases hx⟩
  rintro k e h3 ⟨j,no,co,ao,xs,rfl,hj,rfl,x3,oo,bo,hnj,hpos,hxs⟩
  have hno : xs.length = no := by have := oo.len; simpa [is64] using this
  refine Xd (Wi (Wa rfl rfl ?_))
  by_cases hc : (j : Int) < 64768
  · refine Wg (w := .bool true) rfl rfl (by rw [decide_eq_true hc]) (Wh [(1,_),(2,_),(6,_)] rfl (?_))
    refine Wp rfl (fun _ => ?_) (fun hc => by cases hc)
    obtain ⟨a,e2,hk,hkn⟩ := kdd_all (n := j) (by omega)
    refine Wt (Xa ?_)
    refine Wi (Wa rfl rfl (Wc rfl (C60 hk) ?_))
    rintro _ _ ⟨rfl,rfl⟩
    refine Wa rfl rfl (Wa rfl rfl (Wa rfl rfl (Wa rfl rfl (Wa rfl rfl (Wh [(1,_),(2,_),(4,_)] rfl (?_))))))
    refine Wi (Wa rfl rfl (Jc (v := e2 == 0) rfl rfl rfl (Wh [(1,_),(2,_),(15,_)] rfl (?_))))
    refine Wn rfl (fun hd => ?_) (fun hd => ?_)
    · have he2 : e2 = 0 := eq_of_beq hd
      refine Wk (Wa rfl rfl (Wa rfl rfl (Wl (l := is64 [(j : Int)]) rfl rfl fun h4 n4 x4 g4 => ?_)))
      refine Zf rfl rfl (oo.ext x4) rfl (OwS.new (n := 1) (c := 1) g4 rfl).sl.first ⟨by omega,by omega⟩ rfl rfl (by decide) fun h5 a5 c5 x5 o5 b5 => ?_
      refine Wa rfl rfl (Wj [(1,_),(2,_)] rfl (?_))
      refine Wk (Wa rfl rfl (Wa rfl rfl (Wa rfl rfl (Wj [(1,_),(2,_)] rfl (?_)))))
      have e3 := x3.next
      refine ⟨N - (j + 1),by omega,j + 1,no + 1,c5,a5,xs ++ [(j : Int)],by rw [Ju (by omega)],by omega,rfl,(x3.trans x4).then x5 fun m r => .inr (bo m r),?_,fun m r => (b5 m r).elim (bo m) fun r => by omega,by omega,fun _ => by omega,fun x hx => ?_⟩
      · rw [is64,List.map_append]; exact o5
      · rcases List.mem_append.1 hx with q | q
        · exact hxs x q
        · rw [List.mem_singleton] at q; rw [q]; exact hkn he2
    · refine Ye (Wk (Wa rfl rfl (Wa rfl rfl (Wa rfl rfl (Wj [(1,_),(2,_)] rfl (?_))))))
      refine ⟨N - (j + 1),by omega,j + 1,no,co,ao,xs,by rw [Ju (by omega)],by omega,rfl,x3,oo,bo,by omega,fun _ => ?_,hxs⟩
      by_cases hz : j = 0
      · subst hz
        have := kdd0 hk
        subst this
        cases hd
      · exact hpos (by omega)
  · have hj2 : j = N := by omega
    subst hj2
    refine Wg (w := .bool false) rfl rfl (by rw [decide_eq_false hc]) (Wh [(1,_),(2,_),(6,_)] rfl (?_))
    refine Wp rfl (fun hc => by cases hc) (fun _ => ?_)
    refine Xv (Xu ?_)
    subst hno
    refine Wi (Wa rfl rfl (Wa rfl rfl (Wh [(0,_)] rfl (?_))))
    exact Xn (Wx.mk _ rfl ⟨ao,co,xs,rfl,oo.sl,x3,fun m r => ⟨bo m r,oo.lt r⟩,hpos (by omega),by omega,hxs⟩)

end
section
/- The module that is made of no numbers: a closed run, moved. -/
theorem C10 {h : Heap} : Fn Try.prog 10 [Zy] h fun v h' => v = ptr h.next ∧ At h' h.next (.cells [Zy,.int .i64 0] 0 false) ∧ Xk h h' := by
  refine fnK F10.fok rfl ?_
  refine Wi (Wa rfl rfl (Wh [(0,_)] rfl (?_)))
  refine Wi (Wa rfl rfl (Wa rfl rfl (Xp (cs := [Zy,.int .i64 0]) rfl rfl fun h1 n1 x1 g1 => ?_)))
  refine Wa rfl rfl (Wh [(2,_)] rfl (?_))
  exact Xn (Wx.mk _ rfl ⟨rfl,g1,x1⟩)
abbrev sl (i n : Nat) : Value := .slice (some ⟨i,0,none⟩) n 1
abbrev insC (op : Int) (a : Int) (n : Int) : List Value := [.int .i64 op,.int .u32 a,.int .u32 0,.int .u64 n,Zy,.int .i64 0]
def BL : List (Nat × AObj) := [
  (2,.cells (bys [127]) 1 false),(3,.cells (bys [127]) 1 false),(4,.cells (bys [127,127]) 1 false),(5,.cells (bys [127]) 1 false),(6,.cells (bys [126]) 1 false),(7,.cells (bys [126]) 1 false),(8,.cells (bys [127]) 1 false),(9,.cells (bys [127]) 1 false),(10,.cells (bys [127,127]) 1 false),
  (11,.cells [Zy,Zy,sl 2 1,sl 3 1,sl 4 2,sl 5 1,sl 6 1,sl 7 1,Zy,sl 8 1,sl 9 1,sl 10 2] 2 false),
  (13,.cells [.int .u8 112,.int .u32 4,.int .u32 8,.bool true] 4 false),
  (16,.cells (insC 66 0 18446744073709551615 ++ insC 11 0 0) 6 false),(17,.cells (insC 65 0 0 ++ insC 11 0 0) 6 false),
  (18,.cells [.int .u8 127,.bool true,sl 17 2,.int .u8 126,.bool true,sl 16 2] 3 false),
  (20,.cells [.int .u32 1] 1 false),
  (24,.cells (insC 208 112 0 ++ insC 11 0 0) 6 false),(27,.cells (insC 208 112 0 ++ insC 11 0 0) 6 false),(30,.cells (insC 208 112 0 ++ insC 11 0 0) 6 false),
  (32,.cells [sl 24 2,sl 27 2,sl 30 2] 1 false),(33,.cells (insC 65 0 0 ++ insC 11 0 0) 6 false),
  (34,.cells [.int .u8 0,.int .u8 112,.int .u32 0,sl 33 2,sl 32 3,.int .u8 1,.int .u8 112,.int .u32 0,Zy,sl 32 3] 5 false)]
def mcK (k : Nat) : M13 := ⟨sl (11 + k) 6,sl (20 + k) 1,sl (13 + k) 1,sl (12 + k) 1,sl (18 + k) 2,sl (23 + k) 1,.bool false,.int .u32 0,sl (34 + k) 2,.bool true,.int .u32 2,sl (51 + k) 1,sl (37 + k) 2⟩
noncomputable def look11 : Option (Value × Nat × Option AObj × List (Option AObj)) := match fnR T 400 11 [ptr 0] (heap1 [Zy,.int .i64 0] 0) with
  | some (v,h) => some (v,h.next,h.get 0,BL.map fun p => gk h p.1)
  | none => none
set_option maxRecDepth 100000 in
theorem run11 : look11 = some (.agg ⟨(mcK 0).l⟩,52,some (.cells [Zy,.int .i64 0] 0 false),BL.map fun p => some p.2) := by kernel_rfl
noncomputable def look11x : Bool := match fnR T 400 11 [ptr 0] (heap1 [Zy,.int .i64 0] 0) with
  | some (_,h) => match gk h 23 with
    | some (.cells [.string _,.int .u8 0,.int .u32 0] 3 false) => true
    | _ => false
  | none => false
set_option maxRecDepth 100000 in
theorem run11x : look11x = true := by kernel_rfl
structure ModAt (h : Heap) (k : Nat) : Prop where
  b : ∀ p ∈ BL,At h (p.1 + k) (shO k p.2)
  x : ∃ s : ByteArray,At h (23 + k) (.cells [.string s,.int .u8 0,.int .u32 0] 3 false)
  n : 51 + k < h.next
theorem C11 {h : Heap} {p : Nat} (g : At h p (.cells [Zy,.int .i64 0] 0 false)) : Fn Try.prog 11 [ptr p] h fun v h' => ∃ k,v = .agg ⟨(mcK k).l⟩ ∧ ModAt h' k ∧ Xk h h' := by
  have hl := run11
  have hx := run11x
  unfold look11 at hl
  unfold look11x at hx
  split at hl
  · rename_i v h1 hr
    simp only [Option.some.injEq,Prod.mk.injEq] at hl
    obtain ⟨rfl,hn,h0,hb⟩ := hl
    rw [hr] at hx
    simp only at hx
    have hp := Heap.get_lt g
    refine (Fn.moved1 (n := 1) (Jr hr) rfl h0 rfl rfl g).mono ?_
    rintro v h' ⟨rfl,rfl⟩
    have hn1 : h1.next - 1 = 51 := by omega
    refine ⟨h.next - 1,rfl,⟨fun p hm => ?_,?_,?_⟩,moved1_ext _ _ _⟩
    · have hg := List.map_inj_left.1 hb p hm
      have h1b : 1 ≤ p.1 ∧ p.1 ≤ 51 := by
        have : ∀ q ∈ BL,1 ≤ q.1 ∧ q.1 ≤ 51 := by decide
        exact this p hm
      exact moved1_at h1b.1 (by omega) hg (by omega)
    · split at hx
      · rename_i s hg
        exact ⟨s,moved1_at (h := h) (by omega) (by omega) hg (by omega)⟩
      · cases hx
    · rw [Zm]; omega
  · cases hl

end
section
/- The module that is made of no numbers: what checkers look at. -/
def M1 : Mo := { types := [([],[]),([127],[127]),([127,127],[127]),([126],[126]),([],[127]),([127],[127,127])],funcs := [1],tables := [112],mems := 1,globals := [(127,true),(126,true)],elems := [112,112],counts := true,count := 2,datas := 2,decl := [true] }
section
variable {h : Heap} {k : Nat}
theorem ModAt.ext {h' : Heap} (q : ModAt h k) (hn : h.next ≤ h'.next) (hg : ∀ i,i < h.next → h'.get i = h.get i) : ModAt h' k := by
  have e : ∀ {i o},At h i o → At h' i o := fun {i o} g => by
    have := g.lt
    show h'.get i = _
    rw [hg i this]; exact g
  exact ⟨fun p hm => e (q.b p hm),q.x.elim fun s g => ⟨s,e g⟩,Nat.lt_of_lt_of_le q.n hn⟩
theorem ModAt.sa {i n : Nat} {l : List Value} {ez sz : Nat} (g : At h (i + k) (.cells l ez false)) (hl : l.length = n * sz) (he : ez = sz) : SlA h sz (some ⟨i + k,0,none⟩) n 1 l := by
  subst he
  exact (OwS.new g hl).sl
theorem Vr (q : ModAt h k) {i j : Nat} (hi : i ≤ 51) (r : Blk (some ⟨i + k,0,none⟩) j) : j < h.next := by
  have := q.n
  rw [Blk.at] at r
  omega
theorem mk_same (k : Nat) : Yh (.agg ⟨(mcK k).l⟩) (.agg ⟨(mcK k).l⟩) = true := by
  simp [Yh,Zs,M13.l,mcK,Yx]
def x2 (op : Int) (a n : Nat) : List IM := [⟨⟨op,a,0,n,[],0⟩,none,0⟩,⟨⟨11,0,0,0,[],0⟩,none,0⟩]
theorem ModAt.dc (q : ModAt h k) : DcS h (fun i => i < h.next) (mcK k).l 1 := by
  have b := q.b
  refine ⟨⟨_,_,rfl⟩,?_,?_,?_,by omega,rfl,rfl⟩
  · refine ⟨_,2,_,_,rfl,ModAt.sa (n := 2) (b BL[13] (List.getElem_mem _)) rfl rfl,fun i r => Vr q (by omega) r,by omega,fun i hi => ?_⟩
    match i,hi with
    | 0,_ => exact ⟨_,_,_,_,x2 65 0 0,rfl,rfl,rfl,ModAt.sa (i := 17) (n := 2) (b BL[12] (List.getElem_mem _)) rfl rfl,fun i r => Vr q (by omega) r,by decide,by decide⟩
    | 1,_ => exact ⟨_,_,_,_,x2 66 0 18446744073709551615,rfl,rfl,rfl,ModAt.sa (i := 16) (n := 2) (b BL[11] (List.getElem_mem _)) rfl rfl,fun i r => Vr q (by omega) r,by decide,by decide⟩
  · refine ⟨_,2,_,_,rfl,ModAt.sa (n := 2) (b BL[20] (List.getElem_mem _)) rfl rfl,fun i r => Vr q (by omega) r,by omega,fun i hi => ?_⟩
    have hj : ∀ j,j < 3 → ∃ ia ic,∃ x : List IM,[sl (24 + k) 2,sl (27 + k) 2,sl (30 + k) 2][j]? = some (.slice ia x.length ic) ∧ SlA h 6 ia x.length ic (en IM.enc x) ∧ (∀ i,Blk ia i → i < h.next) ∧ x.length ≤ 1000000 ∧ ∀ y ∈ x,y.i.a < 4294967296 := fun j hj => by
      match j,hj with
      | 0,_ => exact ⟨_,_,x2 208 112 0,rfl,ModAt.sa (i := 24) (n := 2) (b BL[15] (List.getElem_mem _)) rfl rfl,fun i r => Vr q (by omega) r,by decide,by decide⟩
      | 1,_ => exact ⟨_,_,x2 208 112 0,rfl,ModAt.sa (i := 27) (n := 2) (b BL[16] (List.getElem_mem _)) rfl rfl,fun i r => Vr q (by omega) r,by decide,by decide⟩
      | 2,_ => exact ⟨_,_,x2 208 112 0,rfl,ModAt.sa (i := 30) (n := 2) (b BL[17] (List.getElem_mem _)) rfl rfl,fun i r => Vr q (by omega) r,by decide,by decide⟩
    have s3 : SlA h 1 (some ⟨32 + k,0,none⟩) 3 1 [sl (24 + k) 2,sl (27 + k) 2,sl (30 + k) 2] := ModAt.sa (i := 32) (n := 3) (b BL[18] (List.getElem_mem _)) rfl rfl
    match i,hi with
    | 0,_ => exact ⟨_,_,_,_,_,3,_,_,rfl,rfl,s3,fun i r => Vr q (by omega) r,by omega,hj⟩
    | 1,_ => exact ⟨_,_,_,_,_,3,_,_,rfl,rfl,s3,fun i r => Vr q (by omega) r,by omega,hj⟩
  · obtain ⟨s,gx⟩ := q.x
    refine ⟨_,_,_,rfl,ModAt.sa (n := 1) gx rfl rfl,fun i r => Vr q (by omega) r,fun j hj => ?_⟩
    match j,hj with
    | 0,_ => exact ⟨s,rfl⟩
theorem M1s : VS.Mo.Lp VS.short M1 := ⟨by decide,by decide⟩
theorem M1b : VS.Mo.Lp VS.byt M1 := ⟨by decide,by decide⟩
theorem M1n : VS.Mo.Lp VS.nz M1 := ⟨by decide,by decide⟩
theorem ModAt.y (q : ModAt h k) : MoY h M1 (mcK k).l := by
  intro h1 O pm hn hg hO g hp
  have q1 := q.ext hn hg
  have b := q1.b
  have hqn := q.n
  have st : ∀ {i j : Nat},i ≤ 51 → Blk (some ⟨i + k,0,none⟩) j → j < h1.next ∧ ¬ O j := fun {i j} hi r => by
    rw [Blk.at] at r
    exact ⟨by omega,fun q => by have := hO j q; omega⟩
  have tl : ∀ (i : Nat) (l : List Nat),i ≤ 51 → At h1 (i + k) (.cells (bys l) 1 false) → Stl h1 O (some ⟨i + k,0,none⟩) l.length 1 l := fun i l hi g => ⟨ModAt.sa g (by simp) rfl,fun j r => st hi r⟩
  have t0 : Stl h1 O none 0 0 [] := ⟨SlA.none,fun j r => absurd r Blk.none⟩
  refine ⟨g,hp,?_,?_,?_,⟨_,_,rfl⟩,?_,?_,⟨rfl,rfl⟩,⟨_,_,rfl⟩,rfl,rfl,?_,rfl,by decide,M1s,by decide⟩
  · refine ⟨_,_,_,rfl,ModAt.sa (n := 6) (b BL[9] (List.getElem_mem _)) rfl rfl,fun j r => st (by omega) r,fun i hi => ?_⟩
    match i,hi with
    | 0,_ => exact ⟨_,_,_,_,rfl,t0,t0⟩
    | 1,_ => exact ⟨_,_,_,_,rfl,tl 2 [127] (by omega) (b BL[0] (List.getElem_mem _)),tl 3 [127] (by omega) (b BL[1] (List.getElem_mem _))⟩
    | 2,_ => exact ⟨_,_,_,_,rfl,tl 4 [127,127] (by omega) (b BL[2] (List.getElem_mem _)),tl 5 [127] (by omega) (b BL[3] (List.getElem_mem _))⟩
    | 3,_ => exact ⟨_,_,_,_,rfl,tl 6 [126] (by omega) (b BL[4] (List.getElem_mem _)),tl 7 [126] (by omega) (b BL[5] (List.getElem_mem _))⟩
    | 4,_ => exact ⟨_,_,_,_,rfl,t0,tl 8 [127] (by omega) (b BL[6] (List.getElem_mem _))⟩
    | 5,_ => exact ⟨_,_,_,_,rfl,tl 9 [127] (by omega) (b BL[7] (List.getElem_mem _)),tl 10 [127,127] (by omega) (b BL[8] (List.getElem_mem _))⟩
  · exact ⟨_,_,rfl,ModAt.sa (n := 1) (b BL[14] (List.getElem_mem _)) rfl rfl,fun j r => st (by omega) r⟩
  · refine ⟨_,_,_,rfl,ModAt.sa (n := 1) (b BL[10] (List.getElem_mem _)) rfl rfl,fun j r => st (by omega) r,fun i hi => ?_⟩
    match i,hi with
    | 0,_ => rfl
  · refine ⟨_,_,_,rfl,ModAt.sa (n := 2) (b BL[13] (List.getElem_mem _)) rfl rfl,fun j r => st (by omega) r,fun i hi => ?_⟩
    match i,hi with
    | 0,_ => exact ⟨_,rfl,rfl⟩
    | 1,_ => exact ⟨_,rfl,rfl⟩
  · refine ⟨_,_,_,rfl,ModAt.sa (n := 2) (b BL[20] (List.getElem_mem _)) rfl rfl,fun j r => st (by omega) r,fun i hi => ?_⟩
    match i,hi with
    | 0,_ => rfl
    | 1,_ => rfl
  · intro h' hn' hg'
    have q2 : ModAt h' k := q.ext (Nat.le_trans hn hn') fun i hi => by rw [hg' i (by omega) (fun r => by have := hO i r; omega),hg i hi]
    exact (C120 q2.dc fun i r => r).mono fun v h2 r => r
theorem ModAt.dR (q : ModAt h k) : ∀ h',h.next ≤ h'.next → (∀ i,i < h.next → h'.get i = h.get i) → Fn Try.prog 61 [.agg ⟨(mcK k).l⟩] h' fun v h'' => ∃ a c,v = .slice a M1.decl.length c ∧ SlA h'' 1 a M1.decl.length c (M1.decl.map Value.bool) ∧ (∀ i,Blk a i → i < h''.next) ∧ Xk h' h'' := fun h' hn hg =>
  (C61 (q.ext hn hg).dc fun i r => r).mono fun v h2 r => r
end

end
section
/- The document's blocks: that it answers. -/
abbrev ns (xs : List Nat) : List Value := xs.map fun (x : Nat) => Value.int .i64 (x : Int)
/-! ### Maps of blocks -/
abbrev Bl := List (Nat × (Int × Int))
def blv (b : Int × Int) : Value := .agg ⟨[.int .i64 b.1,.int .i64 b.2]⟩
def Kj (es : Bl) : List (Value × Value) := es.map fun x => (.int .i64 (x.1 : Int),blv x.2)
def getM (k : Nat) : Bl → Option (Int × Int)
  | [] => none
  | (k',v) :: r => if k = k' then some v else getM k r
def putM (k : Nat) (v : Int × Int) : Bl → Bl
  | [] => [(k,v)]
  | (k',v') :: r => if k = k' then (k,v) :: r else (k',v') :: putM k v r
theorem lookE_C (k : Nat) : ∀ es : Bl,Uv false (.int .i64 (k : Int)) (Kj es) = some ((getM k es).map blv)
  | [] => rfl
  | (k',v) :: r => by
    show (match Qu false (.int .i64 (k : Int)) (.int .i64 (k' : Int)) with | some true => some (some (blv v)) | some false => Uv false (.int .i64 (k : Int)) (Kj r) | none => none) = _
    have ek : Qu false (.int .i64 (k : Int)) (.int .i64 (k' : Int)) = some ((k : Int) == (k' : Int)) := by simp [Qu]
    rw [ek]
    by_cases h : k = k'
    · subst h; simp [getM]
    · have hb : ((k : Int) == (k' : Int)) = false := by simp; omega
      rw [hb]
      simp only [getM,if_neg h]
      exact lookE_C k r
theorem putE_C (k : Nat) (v : Int × Int) : ∀ es : Bl,putE false (.int .i64 (k : Int)) (blv v) (Kj es) = some (Kj (putM k v es))
  | [] => rfl
  | (k',v') :: r => by
    show (match Qu false (.int .i64 (k : Int)) (.int .i64 (k' : Int)) with | some true => some ((Value.int .i64 (k : Int),blv v) :: Kj r) | some false => (putE false (.int .i64 (k : Int)) (blv v) (Kj r)).map ((Value.int .i64 (k' : Int),blv v') :: ·) | none => none) = _
    have ek : Qu false (.int .i64 (k : Int)) (.int .i64 (k' : Int)) = some ((k : Int) == (k' : Int)) := by simp [Qu]
    rw [ek]
    by_cases h : k = k'
    · subst h; simp [putM,Kj]
    · have hb : ((k : Int) == (k' : Int)) = false := by simp; omega
      rw [hb]
      simp only [putM,if_neg h]
      rw [putE_C k v r]; rfl
section
variable {d : Option Nat} {r : List SOp} {e : Env} {h : Heap} {Q : Env → Heap → Prop}
theorem Wops_look {m : Arg} {k : Arg} {id : Nat} {n : Nat} {es : Bl} (hm : m.ev e = some (.map (some id))) (hk : k.ev e = some (.int .i64 (n : Int))) (g : At h id (.map (Kj es))) (hq : Xe Try.prog r (e.put d (blv ((getM n es).getD (0,0)))) h Q) :
    Xe Try.prog (⟨d,none,.look false (.agg ⟨[.int .i64 0,.int .i64 0]⟩) false m k⟩ :: r) e h Q := by
  refine Wa (v := blv ((getM n es).getD (0,0))) (h' := h) rfl ?_ hq
  have hat : h.get id = some (.map (Kj es)) := g
  simp only [SO.run,hm,hk,hat,lookE_C]
  cases getM n es <;> rfl
theorem Wops_mput {m k v : Arg} {id n : Nat} {b : Int × Int} {es : Bl} (hm : m.ev e = some (.map (some id))) (hk : k.ev e = some (.int .i64 (n : Int))) (hv : v.ev e = some (blv b)) (g : At h id (.map (Kj es)))
    (hq : ∀ h',h'.next = h.next → Ext (· = id) h h' → At h' id (.map (Kj (putM n b es))) → Xe Try.prog r (e.put d Xg) h' Q) : Xe Try.prog (⟨d,none,.mput false m k v⟩ :: r) e h Q := by
  have hat : h.get id = some (.map (Kj es)) := g
  refine Wa (v := Xg) (h' := h.put id (some (.map (Kj (putM n b es))))) rfl ?_ (hq _ (Heap.next_put _ _ _) (Ext.put hat rfl _) (put_get hat rfl _))
  have hkey : Vb false (.int .i64 (n : Int)) = true := rfl
  simp only [SO.run,hm,hk,hv,hat,hkey,cond_true,putE_C,Option.map_some]
theorem Wops_mkMap (hq : ∀ h',h'.next = h.next + 1 → Xk h h' → At h' h.next (.map (Kj [])) → Xe Try.prog r (e.put d (.map (some h.next))) h' Q) : Xe Try.prog (⟨d,none,.mkMap⟩ :: r) e h Q :=
  Wa (v := .map (some h.next)) (h' := h.add (.map [])) rfl rfl (hq _ rfl (Ext.add _ _) (Qs _ _))
end
set_option maxHeartbeats 2000000 in
theorem C18 {h : Heap} {la : Option Addr} {ln lc : Nat} {xs : List IM} (I : SlA h 6 la ln lc (en IM.enc xs)) (hxl : xs.length = ln) (hbig : ln ≤ 1000000) :
    Fn Try.prog 18 [.slice la ln lc] h fun v h' => Xk h h' ∧ ∃ u b,v = .tuple ⟨[u,.bool b]⟩ := by
  have ix : ∀ (j : Nat) (hj : j < xs.length),(en IM.enc xs)[((j : Nat) : Int).toNat * 6 + 0]? = some (.int .i64 (xs[j]).i.op) := fun j hj => by rw [Int.toNat_natCast,en_at IM.enc_len xs j 0 hj (by decide)]; rfl
  refine fnK F18.fok rfl ?_
  refine Wi (Wa rfl rfl (Wa rfl rfl (Wh [(0,_)] rfl (?_))))
  refine Wi (Wops_mkMap fun h1 n1 x1 g1 => Wa rfl rfl (Wh [(0,_),(4,_)] rfl (?_)))
  refine Wi (Wa rfl rfl (Wh [(0,_),(4,_),(5,_)] rfl (?_)))
  refine Xd (Wi (Wa rfl rfl (Wh [(0,_),(4,_),(5,_),(6,_)] rfl (?_))))
  refine Xa ?_
  refine Ym (fun k e h' => ∃ (i : Nat) (st : List Nat) (es : Bl) (sa : Option Addr) (sc : Nat),e = [(0,.slice la ln lc),(4,.map (some h.next)),(5,.slice sa st.length sc),(6,.int .i64 i)] ∧ i ≤ ln ∧ k = ln - i ∧ ((∀ k ∈ st,k < i) ∧ st.length ≤ i) ∧ OwS h' 1 sa st.length sc (ns st) ∧ At h' h.next (.map (Kj es)) ∧ (∀ j,Blk sa j → h1.next ≤ j) ∧ Xk h h') ?_ (k := ln)
    ⟨0,[],[],none,0,rfl,by omega,rfl,⟨fun k hk => (by cases hk),Nat.le_refl _⟩,OwS.none,g1,fun j r => absurd r Blk.none,x1⟩
  rintro k e h' ⟨i,st,es,sa,sc,rfl,hi,rfl,hr,o,gm,bs,x'⟩
  obtain ⟨p1',p2'⟩ := hr
  have I' := I.ext x'
  refine Xd (Wi (Wa rfl rfl (Wa rfl rfl (Wa rfl rfl (Wa rfl rfl (Wh [(0,_),(4,_),(5,_),(6,_),(16,_)] rfl (?_)))))))
  refine Wp rfl (fun hc => ?_) (fun hc => ?_)
  rotate_left
  · have hin : i = ln := by have := of_decide_eq_false hc; omega
    refine Xv (Xu ?_)
    refine Wi (Wa rfl rfl (Wa rfl rfl (Wh [(2,_),(3,_)] rfl (?_))))
    exact Xn (Wx.mk _ rfl ⟨x',_,_,rfl⟩)
  have hlt : i < ln := by have := of_decide_eq_true hc; omega
  refine Wt ?_
  refine K_jblock (fun e h' => ∃ (st : List Nat) (es : Bl) (sa : Option Addr) (sc : Nat) (l : Env),e = [(0,.slice la ln lc),(4,.map (some h.next)),(5,.slice sa st.length sc),(6,.int .i64 i)] ++ l ∧ ((∀ k ∈ st,k < i + 1) ∧ st.length ≤ i + 1) ∧ OwS h' 1 sa st.length sc (ns st) ∧ At h' h.next (.map (Kj es)) ∧ (∀ j,Blk sa j → h1.next ≤ j) ∧ Xk h h') ?_ ?_
  rotate_left
  · rintro e h2 ⟨st2,es2,sa2,sc2,l2,rfl,hr2,o2,gm2,bs2,x2⟩
    refine Wk (Wa rfl rfl (Wa rfl rfl (Wa rfl rfl (Wj [(0,_),(4,_),(5,_),(6,_)] rfl (?_)))))
    exact ⟨ln - (i + 1),by omega,i + 1,st2,es2,sa2,sc2,by rw [Ju (by omega)],by omega,rfl,hr2,o2,gm2,bs2,x2⟩
  refine Wi (Wa rfl rfl (Wa rfl rfl (Jf rfl rfl I' ⟨by omega,by omega⟩ fun id off vs ez ro _ v1 v2 v3 => ?_)))
  refine Wa rfl rfl (We (v := .int .i64 (xs[i]).i.op) rfl v1 (by rw [show off + ((i : Nat) : Int).toNat * 6 + 0 = off + (((i : Nat) : Int).toNat * 6 + 0) by omega,v3 _ (by omega)]; exact ix i (by omega)) (Wa rfl rfl (Wh [(0,_),(4,_),(5,_),(6,_),(7,_)] rfl (?_))))
  have hno : h1.next = h.next + 1 := n1
  have dsm : ∀ j,Blk sa j → j ≠ h.next := fun j r e => by have := bs j r; omega
  have hxi : i < xs.length := by omega
  generalize hop : (xs[i]).i.op = op at *
  refine Yw ?_
  by_cases h234 : op = 2 ∨ op = 3 ∨ op = 4
  · refine Wi (Wa rfl rfl (Wg (w := .bool true) rfl rfl (by rw [decide_eq_true (by omega)]) (Wa rfl rfl (Wd rfl (Wa rfl rfl (Wd rfl (Wg (w := .bool true) rfl rfl (by rw [decide_eq_true (by omega)]) (Wa rfl rfl (Wa rfl rfl (Wh [(0,_),(4,_),(5,_),(6,_),(7,_),(24,_)] rfl (?_)))))))))))
    refine Wn rfl (fun _ => ?_) (fun hc => by cases hc)
    refine Wi (Wa rfl rfl (Wa rfl rfl (Wl (l := ns [i]) rfl rfl fun h2 n2 x2 g2 => ?_)))
    refine Zf rfl rfl (o.ext x2) rfl (OwS.new (n := 1) (c := 1) g2 rfl).sl.first ⟨by omega,by omega⟩ rfl rfl (by decide) fun h3 a3 c3 x3 o3 b3 => ?_
    refine Wa rfl rfl (Wh [(0,_),(4,_),(5,_),(6,_)] rfl (?_))
    have z' := x'.next
    have z2 := x2.next
    have b3' : ∀ j,Blk a3 j → h1.next ≤ j := fun j r => (b3 j r).elim (bs j) fun r => by have := gm.lt; omega
    have gm3 := (gm.ext x2).ext x3 (fun r => dsm _ r rfl)
    refine Wk (Wa rfl rfl (Wa rfl rfl (Wa rfl rfl (Wops_mput (b := (-1,-1)) rfl rfl rfl gm3 fun h4 n4 x4 g4 => ?_))))
    refine Wj [(0,_),(4,_),(5,_),(6,_)] rfl (?_)
    have hl : (st ++ [i]).length = st.length + 1 := by simp
    refine ⟨st ++ [i],_,a3,c3,[],by rw [hl]; rfl,⟨fun k hk => by rcases List.mem_append.1 hk with q | q; (have := p1' k q; omega); (rw [List.mem_singleton] at q; omega),by omega⟩,?_,g4,b3',((x'.trans x2).then x3 fun j r => .inr (by have := bs j r; omega)).then x4 fun j r => .inr (by omega)⟩
    rw [hl,ns,List.map_append]; exact o3.ext x4 fun j r e => by have := b3' j r; omega
  refine Ww (fun e h2 => e = [(0,.slice la ln lc),(4,.map (some h.next)),(5,.slice sa st.length sc),(6,.int .i64 (i : Int)),(7,.int .i64 op),(24,.bool false)] ∧ h' = h2) ?_ ?_
  · by_cases hge : op ≥ 2
    · refine Wk (Wa rfl rfl (Wg (w := .bool true) rfl rfl (by rw [decide_eq_true (by omega)]) (Wa rfl rfl (Wd rfl (Wa rfl rfl (Wd rfl (Wg (w := .bool false) rfl rfl (by rw [decide_eq_false (by omega)]) (Wa rfl rfl (Wa rfl rfl (Wj [(0,_),(4,_),(5,_),(6,_),(7,_),(24,_)] rfl (?_)))))))))))
      exact ⟨rfl,rfl⟩
    · refine Wk (Wa rfl rfl (Wg (w := .bool false) rfl rfl (by rw [decide_eq_false (by omega)]) (Wa rfl rfl (Wb rfl (Wb rfl (Wa rfl rfl (Wa rfl rfl (Wj [(0,_),(4,_),(5,_),(6,_),(7,_),(24,_)] rfl (?_)))))))))
      exact ⟨rfl,rfl⟩
  rintro e _ ⟨rfl,rfl⟩
  refine Wn rfl (fun hc => by cases hc) (fun _ => ?_)
  by_cases h5 : op = 5
  · refine Wi (Wa rfl rfl (Jc (v := true) rfl rfl (by rw [h5]; rfl) (Wa rfl rfl (Wh [(0,_),(4,_),(5,_),(6,_),(7,_),(38,_)] rfl (?_)))))
    refine Wn rfl (fun _ => ?_) (fun hc => by cases hc)
    rcases List.eq_nil_or_concat st with rfl | ⟨s0,k,rfl⟩
    · refine Xd (Wi (Wa rfl rfl (Wa rfl rfl (Jc (v := true) rfl rfl rfl (Wh [(0,_),(4,_),(5,_),(6,_),(43,_)] rfl (?_))))))
      refine Wp rfl (fun _ => ?_) (fun hc => by cases hc)
      refine Xd (Wi (Wa rfl rfl (Wa rfl rfl (Wh [(2,_),(3,_)] rfl (?_)))))
      exact Xo (Wx.mk _ rfl ⟨x',_,_,rfl⟩)
    rw [List.concat_eq_append] at *
    have hlast : (s0 ++ [k]).getLast? = some k := by simp
    have hl : (s0 ++ [k]).length = s0.length + 1 := by simp
    have hk : k < xs.length := by have := p1' k (by simp); omega
    rw [hl] at o ⊢
    refine Xd (Wi (Wa rfl rfl (Wa rfl rfl (Jc (v := false) rfl rfl (by simp; omega) (Wh [(0,_),(4,_),(5,_),(6,_),(43,_)] rfl (?_))))))
    refine Wp rfl (fun hc => by cases hc) (fun _ => ?_)
    refine Wt (Wi (Wa rfl rfl (Wa rfl rfl (Wa rfl rfl (Wg (w := .int .i64 (s0.length : Int)) rfl rfl (by rw [w64 (by simp at p2'; omega)]; congr 1; omega) ?_)))))
    refine Xm (u := .int .i64 (k : Int)) rfl rfl o.sl ⟨by omega,by omega⟩ (by simp [ns]) fun _ => ?_
    refine Wa rfl rfl (Wh [(0,_),(4,_),(5,_),(6,_),(8,_)] rfl (?_))
    generalize hb : (getM k es).getD (0,0) = b
    refine Wi (Wa rfl rfl (Wa rfl rfl (Wops_look rfl rfl gm ?_)))
    rw [hb]
    refine Xl fun h2 n2 x2 g2 => Wm (l := [.int .i64 b.1,.int .i64 b.2]) rfl rfl rfl rfl g2 (by simp) rfl fun h3 n3 x3 g3 => ?_
    have X3 : Xk h' h3 := x2.then x3 fun j r => .inr (by omega)
    refine Wh [(0,_),(4,_),(5,_),(6,_),(8,_),(9,_)] rfl (?_)
    have I3 := I'.ext X3
    refine Xd (Wi (Wa rfl rfl (Wa rfl rfl (Jf rfl rfl I3 ⟨by omega,by omega⟩ fun id off vs ez ro _ v1 v2 v3 => ?_))))
    refine Wa rfl rfl (We (v := .int .i64 (xs[k]).i.op) rfl v1 (by rw [show off + ((k : Nat) : Int).toNat * 6 + 0 = off + (((k : Nat) : Int).toNat * 6 + 0) by omega,v3 _ (by omega)]; exact ix k hk) ?_)
    by_cases h4 : (xs[k]).i.op = 4
    rotate_left
    · refine Wops_neq (v := true) rfl rfl (by simpa using h4) (Wa rfl rfl (Wb rfl (Wb rfl (Wb rfl (Wa rfl rfl (Wh [(0,_),(4,_),(5,_),(6,_),(8,_),(9,_),(63,_)] rfl (?_)))))))
      refine Wp rfl (fun _ => ?_) (fun hc => by cases hc)
      refine Xd (Wi (Wa rfl rfl (Wa rfl rfl (Wh [(2,_),(3,_)] rfl (?_)))))
      exact Xo (Wx.mk _ rfl ⟨x'.trans X3,_,_,rfl⟩)
    refine Wops_neq (v := false) rfl rfl (by rw [h4]; rfl) (Wa rfl rfl (Wd rfl (Wa rfl rfl (Wd rfl (We (v := .int .i64 b.1) rfl g3 (by rfl) (Wd rfl ?_))))))
    by_cases hbe : b.1 ≥ 0
    · refine Wg (w := .bool true) rfl rfl (by rw [decide_eq_true hbe]) (Wa rfl rfl (Wh [(0,_),(4,_),(5,_),(6,_),(8,_),(9,_),(63,_)] rfl (?_)))
      refine Wp rfl (fun _ => ?_) (fun hc => by cases hc)
      refine Xd (Wi (Wa rfl rfl (Wa rfl rfl (Wh [(2,_),(3,_)] rfl (?_)))))
      exact Xo (Wx.mk _ rfl ⟨x'.trans X3,_,_,rfl⟩)
    refine Wg (w := .bool false) rfl rfl (by rw [decide_eq_false hbe]) (Wa rfl rfl (Wh [(0,_),(4,_),(5,_),(6,_),(8,_),(9,_),(63,_)] rfl (?_)))
    refine Wp rfl (fun hc => by cases hc) (fun _ => ?_)
    refine Wt (Wi (Wa rfl rfl (Wa rfl rfl (Wm (l := [.int .i64 (i : Int)]) rfl rfl rfl rfl g3 (by simp [Xz]) rfl fun h4 n4 x4 g4 => ?_))))
    refine Wh [(0,_),(4,_),(5,_),(6,_),(8,_),(9,_)] rfl (?_)
    refine Wk (Wa rfl rfl (Wa rfl rfl (Xh (l := [.int .i64 (i : Int),.int .i64 b.2]) rfl g4 (by simp [Xz]) (by rfl) ?_)))
    have z' := x'.next
    have hgl := gm.lt
    refine Wops_mput (b := ((i : Int),b.2)) rfl rfl rfl ((gm.ext X3).ext x4 (by omega)) fun h5 n5 x5 g5 => ?_
    refine Wj [(0,_),(4,_),(5,_),(6,_)] rfl (?_)
    refine ⟨s0 ++ [k],_,sa,sc,[],by rw [hl]; rfl,⟨fun k hk => by have := p1' k hk; omega,by omega⟩,?_,g5,bs,((x'.trans X3).then x4 fun j r => .inr (by omega)).then x5 fun j r => .inr (by omega)⟩
    rw [hl]
    exact ((o.ext X3).ext x4 (fun j r e => by have := o.lt r; omega)).ext x5 (fun j r e => dsm j r e)
  refine Wi (Wa rfl rfl (Jc (v := false) rfl rfl (by simpa using h5) (Wa rfl rfl (Wh [(0,_),(4,_),(5,_),(6,_),(7,_),(38,_)] rfl (?_)))))
  refine Wn rfl (fun hc => by cases hc) (fun _ => ?_)
  by_cases h11 : op = 11
  · refine Wi (Wa rfl rfl (Jc (v := true) rfl rfl (by rw [h11]; rfl) (Wa rfl rfl (Wh [(0,_),(4,_),(5,_),(6,_),(69,_)] rfl (?_)))))
    refine Wn rfl (fun _ => ?_) (fun hc => by cases hc)
    rcases List.eq_nil_or_concat st with rfl | ⟨s0,k,rfl⟩
    · refine Xd (Wi (Wa rfl rfl (Wa rfl rfl (Jc (v := true) rfl rfl rfl (Wh [(0,_),(4,_),(5,_),(6,_),(74,_)] rfl (?_))))))
      refine Wp rfl (fun _ => ?_) (fun hc => by cases hc)
      refine Xd (Xd (Wi (Wa rfl rfl (Wa rfl rfl (Wa rfl rfl (Wg (w := .int .i64 ((ln : Int) - 1)) rfl rfl (by rw [w64 (by omega)]) ?_))))))
      by_cases hl : i + 1 = ln
      · refine Wops_neq (v := false) rfl rfl (by simp; omega) (Wh [(4,_),(79,_)] rfl (?_))
        refine Wp rfl (fun hc => by cases hc) (fun _ => ?_)
        refine Wt (Xd (Wi (Wa rfl rfl (Wa rfl rfl (Wa rfl rfl (Wh [(2,_),(3,_)] rfl (?_)))))))
        exact Xo (Wx.mk _ rfl ⟨x',_,_,rfl⟩)
      · refine Wops_neq (v := true) rfl rfl (by simp; omega) (Wh [(4,_),(79,_)] rfl (?_))
        refine Wp rfl (fun _ => ?_) (fun hc => by cases hc)
        refine Xd (Wi (Wa rfl rfl (Wa rfl rfl (Wh [(2,_),(3,_)] rfl (?_)))))
        exact Xo (Wx.mk _ rfl ⟨x',_,_,rfl⟩)
    rw [List.concat_eq_append] at *
    have hlast : (s0 ++ [k]).getLast? = some k := by simp
    have hl : (s0 ++ [k]).length = s0.length + 1 := by simp
    rw [hl] at o ⊢
    refine Xd (Wi (Wa rfl rfl (Wa rfl rfl (Jc (v := false) rfl rfl (by simp; omega) (Wh [(0,_),(4,_),(5,_),(6,_),(74,_)] rfl (?_))))))
    refine Wp rfl (fun hc => by cases hc) (fun _ => ?_)
    refine Wt (Wi (Wa rfl rfl (Wa rfl rfl (Wa rfl rfl (Wg (w := .int .i64 (s0.length : Int)) rfl rfl (by rw [w64 (by simp at p2'; omega)]; congr 1; omega) ?_)))))
    refine Xm (u := .int .i64 (k : Int)) rfl rfl o.sl ⟨by omega,by omega⟩ (by simp [ns]) fun _ => ?_
    refine Wa rfl rfl (Wh [(0,_),(4,_),(5,_),(6,_),(10,_)] rfl (?_))
    generalize hb : (getM k es).getD (0,0) = b
    refine Wi (Wa rfl rfl (Wa rfl rfl (Wops_look rfl rfl gm ?_)))
    rw [hb]
    refine Xl fun h2 n2 x2 g2 => Wm (l := [.int .i64 b.1,.int .i64 b.2]) rfl rfl rfl rfl g2 (by simp) rfl fun h3 n3 x3 g3 => ?_
    have X3 : Xk h' h3 := x2.then x3 fun j r => .inr (by omega)
    refine Wh [(0,_),(4,_),(5,_),(6,_),(10,_),(11,_)] rfl (?_)
    refine Wi (Wa rfl rfl (Wa rfl rfl (Wm (l := [.int .i64 (i : Int)]) rfl rfl rfl rfl g3 (by simp [Xz]) rfl fun h4 n4 x4 g4 => ?_)))
    refine Wh [(0,_),(4,_),(5,_),(6,_),(10,_),(11,_)] rfl (?_)
    refine Wi (Wa rfl rfl (Wa rfl rfl (Xh (l := [.int .i64 b.1,.int .i64 (i : Int)]) rfl g4 (by simp [Xz]) (by rfl) ?_)))
    have z' := x'.next
    have hgl := gm.lt
    refine Wops_mput (b := (b.1,(i : Int))) rfl rfl rfl ((gm.ext X3).ext x4 (by omega)) fun h5 n5 x5 g5 => ?_
    refine Wh [(0,_),(4,_),(5,_),(6,_)] rfl (?_)
    have o5 := ((o.ext X3).ext x4 (fun j r e => by have := o.lt r; omega)).ext x5 (fun j r e => dsm j r e)
    refine Wk (Wa rfl rfl (Wa rfl rfl (Wa rfl rfl (Wg (w := .int .i64 (s0.length : Int)) rfl rfl (by rw [w64 (by simp at p2'; omega)]; congr 1; omega) ?_))))
    refine Zr rfl rfl rfl o5.sl.ok (Yy (i := s0.length) (by omega)) ?_
    refine Wa rfl rfl (Wj [(0,_),(4,_),(5,_),(6,_)] rfl (?_))
    have hs := o5.sub (i := 0) (j := s0.length) (by omega) (by omega)
    have e2 : ((ns (s0 ++ [k])).drop (0 * 1)).take ((s0.length - 0) * 1) = ns s0 := by simp [ns]
    rw [e2] at hs
    exact ⟨s0,_,shift sa (0 * 1),sc,[],rfl,⟨fun k hk => by have := p1' k (List.mem_append_left _ hk); omega,by simp at p2'; omega⟩,hs,g5,fun j r => bs j (shift_blk.1 r),((x'.trans X3).then x4 fun j r => .inr (by omega)).then x5 fun j r => .inr (by omega)⟩
  refine Wi (Wa rfl rfl (Jc (v := false) rfl rfl (by simpa using h11) (Wa rfl rfl (Wh [(0,_),(4,_),(5,_),(6,_),(69,_)] rfl (?_)))))
  refine Wn rfl (fun hc => by cases hc) (fun _ => ?_)
  exact Ye ⟨st,es,sa,sc,[(69,.bool false)],rfl,⟨fun k hk => by have := p1' k hk; omega,by omega⟩,o,gm,bs,x'⟩

end
section
/- ValLocals: what its three bodies come to. -/
def ty (b : Bool) : Nat := if b = true then 126 else 127
namespace VS
variable {M : Mo} {L : List Nat} {s : VS} {a : Nat}
end VS
def mc0 : List Value := [Zy,Zy,Zy,Zy,Zy,Zy,.bool false,.int .u32 0,Zy,.bool false,.int .u32 0,Zy,Zy]
noncomputable def chk120 : Bool := match fnR T 300 120 [.agg ⟨mc0⟩] Heap.empty with
  | some (.slice (some ⟨n,0,none⟩) 0 0,h0) => n.blt h0.next && okH h0 h0.next && (match h0.get n with | some (.cells [] 1 false) => true | _ => false)
  | _ => false
noncomputable def chk15 : Bool := match fnR T 600 15 [] Heap.empty with
  | some (.bool b,_) => b
  | _ => false
set_option maxRecDepth 100000 in
theorem run15 : chk15 = true := by kernel_rfl
theorem C15 {h : Heap} : Fn Try.prog 15 [] h fun v h' => v = .bool true ∧ h = h' := by
  have hc := run15
  unfold chk15 at hc
  split at hc
  · rename_i b h0 hr
    subst hc
    exact Fn.anywhere (R := fun v => v = .bool true) rfl (Jr hr) fun v h' q => ⟨by rw [q.1]; rfl,q.1⟩
  · cases hc

end
section
/- Instructions as they are laid. -/
abbrev z6 : List Value := [.int .i64 0,.int .u32 0,.int .u32 0,.int .u64 0,.slice none 0 0,.int .i64 0]
theorem putL_mid : ∀ (new pre mid suf : List Value),mid.length = new.length → putL (pre ++ (mid ++ suf)) pre.length new = pre ++ (new ++ suf)
  | [],pre,mid,suf,h => by
    cases mid with
    | nil => rfl
    | cons _ _ => cases h
  | v :: vs,pre,[],suf,h => by cases h
  | v :: vs,pre,m :: ms,suf,h => by
    have e : (pre ++ (m :: ms ++ suf)).set pre.length v = (pre ++ [v]) ++ (ms ++ suf) := by simp
    show putL ((pre ++ (m :: ms ++ suf)).set pre.length v) (pre.length + 1) vs = _
    rw [e,show pre.length + 1 = (pre ++ [v]).length by simp,putL_mid vs (pre ++ [v]) ms suf (by simpa using h)]
    simp
theorem fill_step {pre mid suf new : List Value} {off size : Nat} {r : List (Nat × Nat × Value)} (hm : mid.length = size) (hn : new.length = size) (hp : pre.length = off) :
    Zw (pre ++ (mid ++ suf)) ((off,size,.agg ⟨new⟩) :: r) = Zw (pre ++ (new ++ suf)) r := by
  subst hp
  have h1 : (Value.agg ⟨new⟩).cells.size.beq size = true := by
    show new.length.beq size = true
    rw [hn]; exact Nat.beq_refl _
  have h2 : (pre.length + size).ble (pre ++ (mid ++ suf)).length = true := by
    apply Nat.ble_eq_true_of_le
    rw [List.length_append,List.length_append]; omega
  have h3 : putL (pre ++ (mid ++ suf)) pre.length (Value.agg ⟨new⟩).cells.toList = pre ++ (new ++ suf) := putL_mid new pre mid suf (by omega)
  show (bif (Value.agg ⟨new⟩).cells.size.beq size && (pre.length + size).ble (pre ++ (mid ++ suf)).length then Zw (putL (pre ++ (mid ++ suf)) pre.length (Value.agg ⟨new⟩).cells.toList) r else none) = _
  rw [h1,h2,h3]; rfl
def parts6 : Nat → List IM → List (Nat × Nat × Value)
  | _,[] => []
  | k,x :: r => (k,6,.agg ⟨x.enc⟩) :: parts6 (k + 6) r
theorem fill_en : ∀ (todo done : List IM),Zw (en IM.enc done ++ Xj z6 todo.length) (parts6 (done.length * 6) todo) = some (en IM.enc (done ++ todo))
  | [],done => by simp [parts6,Xj,Zw]
  | x :: r,done => by
    show Zw (en IM.enc done ++ (z6 ++ Xj z6 r.length)) ((done.length * 6,6,.agg ⟨x.enc⟩) :: parts6 (done.length * 6 + 6) r) = _
    rw [fill_step (mid := z6) (size := 6) rfl rfl (Qj IM.enc_len done)]
    have e : en IM.enc done ++ (x.enc ++ Xj z6 r.length) = en IM.enc (done ++ [x]) ++ Xj z6 r.length := by
      rw [en_app]; simp [en]
    rw [e,show done.length * 6 + 6 = (done ++ [x]).length * 6 by simp; omega,fill_en r (done ++ [x])]
    simp
theorem fill0 (l : List IM) : Zw (Xj z6 l.length) (parts6 0 l) = some (en IM.enc l) := fill_en l []
theorem SlA.enc {h : Heap} {id : Nat} {c : Nat} {l : List IM} (g : At h id (.cells (en IM.enc l) 6 false)) : SlA h 6 (some ⟨id,0,none⟩) l.length c (en IM.enc l) := by
  have hl : (en IM.enc l).length = l.length * 6 := Qj IM.enc_len l
  have := SlA.mk' (n := l.length) (c := c) (sz := 6) (off := 0) g (by omega) (.inr (.inr rfl))
  rw [List.drop_zero,List.take_of_length_le (by omega)] at this
  exact this

end
section
/- ValSmall: the walk. -/
theorem tmod_in {x m : Int} (h0 : 0 ≤ x) (hm : 0 < m) : 0 ≤ x.tmod m ∧ x.tmod m < m := ⟨Int.tmod_nonneg _ h0,Int.tmod_lt_of_pos _ hm⟩
theorem wU32 {x : Int} (h : 0 ≤ x ∧ x < 4294967296) : IntKind.wrap .u32 x = x := by
  simp [IntKind.wrap,IntKind.signed,IntKind.bits]; omega
structure Gi (h : Heap) (B : Nat) (ba : Option Addr) (x : IM) : Prop where
  s : SlA h 1 x.la x.i.l.length x.lc (Up x.i.l)
  b : ∀ j,Blk x.la j → B ≤ j ∧ j < h.next ∧ ¬ Blk ba j
  ok : x.i.Ok
  kn : x.i.Kn
  nz : VS.nz [((x.i.t + 128) % 256).toNat]
theorem Gi.ext {h h' : Heap} {B : Nat} {ba ba' : Option Addr} {x : IM} {T : Nat → Prop} (q : Gi h B ba x) (e : Ext T h h') (d : ∀ j,Blk x.la j → T j → Blk ba j) (f : ∀ j,Blk ba' j → Blk ba j ∨ h.next ≤ j) : Gi h' B ba' x :=
  ⟨q.s.ext e fun j r t => (q.b j r).2.2 (d j r t),fun j r => ⟨(q.b j r).1,Nat.lt_of_lt_of_le (q.b j r).2.1 e.next,fun t => (f j t).elim (q.b j r).2.2 fun z => by have := (q.b j r).2.1; omega⟩,q.ok,q.kn,q.nz⟩
structure Sb (hB : Heap) (hM : Heap) (k B7 B9 Lc : Nat) (a0 a1 xa : Option Addr) (n0 n1 c0 c1 xc : Nat) (ls ar xs : List Int) : Prop where
  s0 : SlA hB 1 a0 n0 c0 (Kk .u8 ls)
  d0 : ∀ j,Blk a0 j → j ≠ B9
  s1 : SlA hB 1 a1 n1 c1 (Kk .u8 ar)
  d1 : ∀ j,Blk a1 j → j ≠ B9
  sx : SlA hB 1 xa xs.length xc (is64 xs)
  dx : ∀ j,Blk xa j → j ≠ B9
  g7 : At hB B7 (.cells (mcK k).l 0 false)
  d7 : B7 ≠ B9
  sL : SlA hB 1 (some ⟨Lc,0,none⟩) 4 1 (bys [127,126,112,111])
  dL : Lc ≠ B9
  q : ModAt hM k
  x : Xk hM hB
  m9 : hM.next ≤ B9
  l9 : B9 < hB.next
structure Sl (hB : Heap) (B9 Lc : Nat) (h : Heap) (ba : Option Addr) (n bc : Nat) (bl : List IM) : Prop where
  g9 : At h B9 (.cells [.slice (some ⟨Lc,0,none⟩) 4 1,.slice ba n bc] 0 false)
  o : OwS h 6 ba n bc (en IM.enc bl)
  x : Ext (· = B9) hB h
  b : ∀ j,Blk ba j → hB.next ≤ j
  gi : ∀ x ∈ bl,Gi h hB.next ba x
theorem Sl.ext0 {hB : Heap} {B9 Lc : Nat} {h h' : Heap} {ba : Option Addr} {n bc : Nat} {bl : List IM} (q : Sl hB B9 Lc h ba n bc bl) (x : Xk h h') : Sl hB B9 Lc h' ba n bc bl :=
  ⟨q.g9.ext x,q.o.ext x,q.x.then0 x,q.b,fun y hy => (q.gi y hy).ext x (fun j _ r => r.elim) fun j r => .inl r⟩
theorem Sl.app {hB : Heap} {B9 Lc : Nat} {h h1 h2 : Heap} {ba ba' : Option Addr} {n bc bc' : Nat} {bl : List IM} {x : IM} (q : Sl hB B9 Lc h ba n bc bl) (l9 : B9 < hB.next) (gx : Gi h hB.next ba x) (x1 : Ext (Blk ba) h h1) (o1 : OwS h1 6 ba' (n + 1) bc' (en IM.enc bl ++ x.enc)) (b1 : ∀ j,Blk ba' j → Blk ba j ∨ h.next ≤ j)
    (x2 : Ext (· = B9) h1 h2) (g2 : At h2 B9 (.cells [.slice (some ⟨Lc,0,none⟩) 4 1,.slice ba' (n + 1) bc'] 0 false)) : Sl hB B9 Lc h2 ba' (n + 1) bc' (bl ++ [x]) := by
  have hn := q.x.next
  have b2 : ∀ j,Blk ba' j → hB.next ≤ j := fun j r => (b1 j r).elim (q.b j) fun r => by omega
  have gg : ∀ y,Gi h hB.next ba y → Gi h2 hB.next ba' y := fun y g => (g.ext x1 (fun j _ r => r) b1).ext (ba' := ba') x2 (fun j r e => by have := (g.b j r).1; omega) fun j r => .inl r
  refine ⟨g2,?_,?_,b2,fun y hy => ?_⟩
  · have e : en IM.enc (bl ++ [x]) = en IM.enc bl ++ x.enc := by simp [en]
    rw [e]
    exact o1.ext x2 fun j r e => by have := b2 j r; omega
  · exact (q.x.then x1 fun j r => .inr (q.b j r)).then x2 fun j r => .inl r
  · rcases List.mem_append.1 hy with r | r
    · exact gg y (q.gi y r)
    · rw [List.mem_singleton] at r; subst r; exact gg _ gx
theorem IM.enc1_cell (x : IM) : (en IM.enc [x]).all isCell = true := by simp [en,IM.enc,isCell]
theorem IM.enc1 (x : IM) : en IM.enc [x] = x.enc := by simp [en]
theorem Ux {m : Int} {x : Int} (h0 : 0 ≤ x) (hm : 0 < m) : ∃ r : Nat,x.tmod m = (r : Int) ∧ (r : Int) < m := by
  obtain ⟨a,b⟩ := tmod_in h0 hm
  exact ⟨(x.tmod m).toNat,by omega,by omega⟩
theorem small_t {r : Nat} (hr : (r : Int) < 6) : ∃ t : Int,[Value.int .i64 (-64),.int .i64 (-1),.int .i64 (-2),.int .i64 (-16),.int .i64 1,.int .i64 5][((r : Nat) : Int).toNat]? = some (.int .i64 t) ∧ VS.nz [((t + 128) % 256).toNat] ∧ -9223372036854775808 ≤ t ∧ t ≤ 9223372036854775807 := by
  rw [Int.toNat_natCast]
  rcases (show r = 0 ∨ r = 1 ∨ r = 2 ∨ r = 3 ∨ r = 4 ∨ r = 5 by omega) with e | e | e | e | e | e
  all_goals subst e
  · exact ⟨-64,rfl,by decide,by omega,by omega⟩
  · exact ⟨-1,rfl,by decide,by omega,by omega⟩
  · exact ⟨-2,rfl,by decide,by omega,by omega⟩
  · exact ⟨-16,rfl,by decide,by omega,by omega⟩
  · exact ⟨1,rfl,by decide,by omega,by omega⟩
  · exact ⟨5,rfl,by decide,by omega,by omega⟩
theorem same2 {a b : Value} (ha : Yh a a = true) (hb : Yh b b = true) (ca : isCell a = true) (cb : isCell b = true) : Yh (.agg ⟨[a,b]⟩) (.agg ⟨[a,b]⟩) = true := by
  have e : ∀ v : Value,isCell v = true → Yh v v = Yx v v := fun v c => by cases v <;> first | rfl | (simp [isCell] at c)
  rw [e a ca] at ha
  rw [e b cb] at hb
  simp [Yh,Zs,ha,hb]
set_option maxHeartbeats 4000000 in
theorem C5 {h : Heap} {a0 a1 : Option Addr} {n0 n1 c0 c1 : Nat} {ls ar : List Int} {t : Int} (s0 : SlA h 1 a0 n0 c0 (Kk .u8 ls)) (s1 : SlA h 1 a1 n1 c1 (Kk .u8 ar)) (b0 : ∀ j,Blk a0 j → j < h.next) (b1 : ∀ j,Blk a1 j → j < h.next) (hl0 : ls.length = n0) (hl1 : ar.length = n1) (w0 : ∀ x ∈ ls,0 ≤ x ∧ x ≤ 255) (w1 : ∀ x ∈ ar,0 ≤ x ∧ x ≤ 255) (wt : 0 ≤ t ∧ t ≤ 255) :
    Fn Try.prog 5 [.slice a0 n0 c0,.slice a1 n1 c1,.int .u8 t] h fun v h' => v = .bool true := by
  refine fnK F5.fok rfl ?_
  refine Wi (Wa rfl rfl (Wh [(0,_),(1,_),(2,_)] rfl ?_))
  refine Xd (Wi (Wc rfl C15 ?_))
  rintro _ _ ⟨rfl,rfl⟩
  refine Wa rfl rfl (Wh [(0,_),(1,_),(2,_),(16,_)] rfl ?_)
  refine Wp (t := false) rfl (fun hc => by cases hc) (fun _ => ?_)
  refine Wt (Xd (Ww (fun e' h' => ∃ d : Bool,e' = [(0,.slice a0 n0 c0),(1,.slice a1 n1 c1),(2,.int .u8 t),(26,.bool d)] ∧ h = h' ∧ (d = false → n0 ≤ 10 ∧ n0 ≤ n1)) ?_ ?_))
  · refine Wk (Wa rfl rfl (Wa rfl rfl (Wg (w := .bool (decide (10 < n0))) rfl rfl (by congr 1; rw [Bool.eq_iff_iff]; simp; omega) (Wa rfl rfl ?_))))
    by_cases hg : 10 < n0
    · rw [decide_eq_true hg]
      exact Wb rfl (Wb rfl (Wb rfl (Wb rfl (Wb rfl (Wa rfl rfl (Wj [(0,_),(1,_),(2,_),(26,_)] rfl ⟨_,rfl,rfl,fun q => by cases q⟩))))))
    · rw [decide_eq_false hg]
      refine Wd rfl (Wa rfl rfl (Wd rfl (Wa rfl rfl (Wd rfl (Wa rfl rfl (Wd rfl (Wa rfl rfl (Wd rfl (Wa rfl rfl (Wa rfl rfl (Wj [(0,_),(1,_),(2,_),(26,_)] rfl ⟨_,rfl,rfl,fun q => ?_⟩)))))))))))
      have := of_decide_eq_false q
      omega
  rintro _ _ ⟨d,rfl,rfl,hd⟩
  refine Wp rfl (fun hc => ?_) (fun hc => ?_)
  · refine Xd (Wi (Wa rfl rfl (Wh [(6,_)] rfl ?_)))
    exact Xo (Wx.mk _ rfl rfl)
  obtain ⟨hn0,hn1⟩ := hd hc
  refine Wt (Wi (Wc rfl C10 ?_))
  rintro _ h1 ⟨rfl,gp,x1⟩
  refine Wc rfl (C11 gp) ?_
  rintro _ h2 ⟨k,rfl,qm,x2⟩
  refine Xl fun h3 n3 x3 g3 => Wm (l := (mcK k).l) rfl rfl rfl rfl g3 (by simp) rfl fun h4 n4 x4 g4 => Wh [(0,_),(1,_),(2,_),(7,_)] rfl ?_
  replace g4 : At h4 h2.next (.cells (mcK k).l 0 false) := g4
  have x24 : Xk h2 h4 := x3.then x4 fun j r => .inr (by omega)
  refine Wi (Wc rfl C17 ?_)
  rintro _ h5 ⟨xa,xc,xs,rfl,sx,x5,bx,hx0,hxl,hxk⟩
  refine Wa rfl rfl (Wh [(0,_),(1,_),(2,_),(7,_),(8,_)] rfl ?_)
  refine Wi (Xl fun h6 n6 x6 g6 => Wh [(0,_),(1,_),(2,_),(7,_),(8,_),(9,_)] rfl ?_)
  refine Wi (Wl (l := bys [127,126,112,111]) rfl rfl fun h7 n7 x7 g7 => Wa rfl rfl (Wm (l := [sl h6.next 4]) rfl rfl rfl rfl (At.ext g6 x7 fun q => q) (by simp) rfl fun h8 n8 x8 g8 => Wh [(0,_),(1,_),(2,_),(7,_),(8,_),(9,_)] rfl ?_))
  replace g8 : At h8 h5.next (.cells [sl h6.next 4,Zy] 0 false) := g8
  have x68 : Ext (· = h5.next) h6 h8 := x7.of0.trans x8
  have x58 : Xk h5 h8 := x6.then x68 fun j r => .inr (by omega)
  have hn2 := x2.next
  have hn12 := x1.next
  have hn24 := x24.next
  have hn5 := x5.next
  have x05 : Xk h h5 := ((x1.then0 x2).then0 x24).then0 x5
  have S : Sb h8 h2 k h2.next h5.next h6.next a0 a1 xa n0 n1 c0 c1 xc ls ar xs := by
    have hn05 := x05.next
    refine ⟨s0.ext (x05.then0 x58),fun j r => by have := b0 j r; omega,s1.ext (x05.then0 x58),fun j r => by have := b1 j r; omega,sx.ext x58,fun j r => by have := (bx j r).2; omega,(At.ext g4 x5 fun q => q).ext x58 fun q => q,by have := g4.lt; omega,?_,by omega,qm,(x24.then0 x5).then0 x58,by omega,by omega⟩
    have g7' : At h7 h6.next (.cells (bys [127,126,112,111]) 1 false) := g7
    exact (OwS.new (n := 4) (c := 1) (g7'.ext x8 (by omega)) rfl).sl
  have L0 : Sl h8 h5.next h6.next h8 none 0 0 [] := ⟨g8,OwS.none,Ext.refl _ _,fun j r => absurd r Blk.none,fun x hx => by cases hx⟩
  generalize h2.next = B7 at S ⊢
  generalize h5.next = B9 at S L0 ⊢
  generalize h6.next = Lc at S L0 ⊢
  generalize h8 = hB at S L0 ⊢
  clear g8 g6 g7 g4 g3 x68 x58 x05 x8 x7 x6 x5 x24 x4 x3 x2 x1 gp n8 n7 n6 n4 n3 hn2 hn12 hn24 hn5 sx bx qm s0 s1
  refine Xd (Wi (Wa rfl rfl (Wh [(0,_),(1,_),(2,_),(7,_),(8,_),(9,_),(10,_)] rfl ?_)))
  refine Xa ?_
  refine Ym (fun kk e h' => ∃ (i bc : Nat) (ba : Option Addr) (bl : List IM),e = [(0,.slice a0 n0 c0),(1,.slice a1 n1 c1),(2,.int .u8 t),(7,ptr B7),(8,.slice xa xs.length xc),(9,ptr B9),(10,.int .i64 (i : Int))] ∧ i ≤ n0 ∧ kk = n0 - i ∧ bl.length = i ∧ Sl hB B9 Lc h' ba i bc bl) ?_ (k := n0) ⟨0,0,none,[],rfl,by omega,rfl,rfl,L0⟩
  clear L0
  rintro kk e h9 ⟨i,bc,ba,bl,rfl,hi,rfl,hbl,L⟩
  refine Xd (Wi (Wa rfl rfl (Wa rfl rfl (Wa rfl rfl (Wa rfl rfl (Wh [(0,_),(1,_),(2,_),(7,_),(8,_),(9,_),(10,_),(35,_)] rfl ?_))))))
  refine Wp rfl (fun hc => ?_) (fun hc => ?_)
  · have hlt : i < n0 := by have := of_decide_eq_true hc; omega
    have i0 : i < ls.length := by omega
    have i1 : i < ar.length := by omega
    have p0 := w0 _ (List.getElem_mem i0)
    have p1 := w1 _ (List.getElem_mem i1)
    generalize hp : ls[i] = p at p0
    generalize hq : ar[i] = q at p1
    have u0 : (Kk .u8 ls)[((i : Nat) : Int).toNat]? = some (.int .u8 p) := by rw [Int.toNat_natCast,List.getElem?_map,List.getElem?_eq_getElem i0,hp]; rfl
    have u1 : (Kk .u8 ar)[((i : Nat) : Int).toNat]? = some (.int .u8 q) := by rw [Int.toNat_natCast,List.getElem?_map,List.getElem?_eq_getElem i1,hq]; rfl
    have S0 := S.s0.ext L.x S.d0
    have S1 := S.s1.ext L.x S.d1
    have SX := S.sx.ext L.x S.dx
    obtain ⟨r1,e1,l1⟩ := Ux (m := (xs.length : Int)) p0.1 (by omega)
    obtain ⟨r2,e2,l2⟩ := Ux (m := 4) p1.1 (by omega)
    obtain ⟨r3,e3,l3⟩ := Ux (m := 6) p1.1 (by omega)
    obtain ⟨r4,e4,l4⟩ := Ux (m := 2) p1.1 (by omega)
    have hr1 : r1 < xs.length := by omega
    have hk := hxk _ (List.getElem_mem hr1)
    generalize hop : xs[r1] = op at hk
    have ux : (is64 xs)[((r1 : Nat) : Int).toNat]? = some (.int .i64 op) := by rw [Int.toNat_natCast,is64,List.getElem?_map,List.getElem?_eq_getElem hr1,hop]; rfl
    obtain ⟨tv,ut,hnz,ht⟩ := small_t l3
    refine Wt (Xa ?_)
    refine Wi (Wa rfl rfl (Wa rfl rfl (Wa rfl rfl (Xm (u := .int .u8 p) rfl rfl S0 ⟨by omega,by omega⟩ u0 fun _ => Wg (w := .int .i64 p) rfl rfl (by rw [w64 (by omega)]) (Wa rfl rfl (Wa rfl rfl ?_))))))
    refine Ka rfl rfl (by omega) ?_
    rw [e1]
    refine Xm (u := .int .i64 op) rfl rfl SX ⟨by omega,by omega⟩ ux fun _ => ?_
    refine Wa rfl rfl (Wa rfl rfl (Xm (u := .int .u8 q) rfl rfl S1 ⟨by omega,by omega⟩ u1 fun _ => Ka rfl rfl (by omega) ?_))
    rw [e2]
    refine Wg (w := .int .u32 (r2 : Int)) rfl rfl (by rw [wU32 (by omega)]) ?_
    refine Wl (l := [.int .i64 (-64),.int .i64 (-1),.int .i64 (-2),.int .i64 (-16),.int .i64 1,.int .i64 5]) rfl rfl fun h10 n10 x10 g10 => ?_
    have st : SlA h10 1 (some ⟨h9.next,0,none⟩) 6 1 [.int .i64 (-64),.int .i64 (-1),.int .i64 (-2),.int .i64 (-16),.int .i64 1,.int .i64 5] := (OwS.new (n := 6) (c := 1) g10 rfl).sl
    refine Wa rfl rfl (Wa rfl rfl (Xm (u := .int .u8 q) rfl rfl (S1.ext x10) ⟨by omega,by omega⟩ u1 fun _ => Ka rfl rfl (by omega) ?_))
    rw [e3]
    refine Xm (u := .int .i64 tv) rfl rfl st ⟨by omega,by omega⟩ ut fun _ => ?_
    refine Wa rfl rfl (Wa rfl rfl (Xm (u := .int .u8 q) rfl rfl (S1.ext x10) ⟨by omega,by omega⟩ u1 fun _ => Ka rfl rfl (by omega) ?_))
    rw [e4]
    refine Wg (w := .int .u32 (r4 : Int)) rfl rfl (by rw [wU32 (by omega)]) ?_
    refine Wl (l := Up [r4]) rfl rfl fun h11 n11 x11 g11 => ?_
    refine Wa rfl rfl (Xl fun h12 n12 x12 g12 => Wm (l := [.int .i64 op,.int .u32 (r2 : Int),.int .u32 0,.int .u64 0,.slice (some ⟨h10.next,0,none⟩) 1 1,.int .i64 tv]) rfl rfl rfl rfl g12 (by simp) rfl fun h13 n13 x13 g13 => Wh [(0,_),(1,_),(2,_),(7,_),(8,_),(9,_),(10,_),(11,_)] rfl ?_)
    have x913 : Xk h9 h13 := (x10.trans x11).then0 (x12.then x13 fun j r => .inr (by omega))
    have L13 := L.ext0 x913
    have sl11 : SlA h13 1 (some ⟨h10.next,0,none⟩) 1 1 (Up [r4]) := ((OwS.new (n := 1) (c := 1) g11 rfl).sl.ext x12).ext x13 fun j r e => by rw [Blk.at] at r; omega
    have la13 : h10.next < h11.next := by omega
    have lb : hB.next ≤ h10.next := by have := L.x.next; omega
    have lba : ∀ j,Blk ba j → j < h9.next := fun j r => L.o.lt r
    have lla : ∀ y ∈ bl,∀ j,Blk y.la j → j < h9.next := fun y hy j r => ((L.gi y hy).b j r).2.1
    have z913 : h9.next + 3 ≤ h13.next ∧ h11.next < h13.next ∧ h9.next < h10.next := by omega
    clear L g10 g11 g12 st x10 x11 x12 x13 x913 S0 S1 SX u0 u1 ux ut
    generalize hb11 : h11.next = b11 at g13 ⊢
    replace g13 : At h13 b11 (.cells [.int .i64 op,.int .u32 (r2 : Int),.int .u32 0,.int .u64 0,.slice (some ⟨h10.next,0,none⟩) 1 1,.int .i64 tv] 0 false) := g13
    have hb13 : b11 < h13.next ∧ hB.next ≤ b11 ∧ ¬ Blk ba b11 ∧ b11 ≠ h10.next := ⟨by omega,by omega,fun r => by have := lba _ r; omega,by omega⟩
    refine Ww (fun e' h' => ∃ (a : Nat) (r : Env),e' = (0,.slice a0 n0 c0) :: (1,.slice a1 n1 c1) :: (2,.int .u8 t) :: (7,ptr B7) :: (8,.slice xa xs.length xc) :: (9,ptr B9) :: (10,.int .i64 (i : Int)) :: (11,ptr b11) :: r ∧ a < 256 ∧ Ext (· = b11) h13 h' ∧ At h' b11 (.cells [.int .i64 op,.int .u32 (a : Int),.int .u32 0,.int .u64 0,.slice (some ⟨h10.next,0,none⟩) 1 1,.int .i64 tv] 0 false)) ?_ ?_
    · refine Wi (Wa rfl rfl (We (v := .int .i64 op) rfl g13 rfl (Wa rfl rfl (Wh [(0,_),(1,_),(2,_),(7,_),(8,_),(9,_),(10,_),(11,_),(73,_)] rfl ?_))))
      refine Wn rfl (fun _ => ?_) (fun _ => Ye ⟨r2,_,rfl,by omega,Ext.refl _ _,g13⟩)
      exact Wk (Wa rfl rfl (Wm (l := [.int .u32 127]) rfl rfl rfl rfl g13 (by simp) rfl fun h14 n14 x14 g14 => Wj [(0,_),(1,_),(2,_),(7,_),(8,_),(9,_),(10,_),(11,_)] rfl ⟨127,_,rfl,by omega,x14,g14⟩))
    rintro _ h14 ⟨a,rr,rfl,ha,x14,g14⟩
    refine Ww (fun e' h' => ∃ (a : Nat) (r : Env),e' = (0,.slice a0 n0 c0) :: (1,.slice a1 n1 c1) :: (2,.int .u8 t) :: (7,ptr B7) :: (8,.slice xa xs.length xc) :: (9,ptr B9) :: (10,.int .i64 (i : Int)) :: (11,ptr b11) :: r ∧ a < 256 ∧ Ext (· = b11) h13 h' ∧ At h' b11 (.cells [.int .i64 op,.int .u32 (a : Int),.int .u32 0,.int .u64 0,.slice (some ⟨h10.next,0,none⟩) 1 1,.int .i64 tv] 0 false)) ?_ ?_
    · refine Wi (Wa rfl rfl (We (v := .int .i64 op) rfl g14 rfl (Wa rfl rfl (Wh [(0,_),(1,_),(2,_),(7,_),(8,_),(9,_),(10,_),(11,_),(77,_)] rfl ?_))))
      refine Wn rfl (fun _ => ?_) (fun _ => Ye ⟨a,_,rfl,ha,x14,g14⟩)
      exact Wk (Wa rfl rfl (Wm (l := [.int .u32 111]) rfl rfl rfl rfl g14 (by simp) rfl fun h15 n15 x15 g15 => Wj [(0,_),(1,_),(2,_),(7,_),(8,_),(9,_),(10,_),(11,_)] rfl ⟨111,_,rfl,by omega,x14.trans x15,g15⟩))
    clear g14 x14 ha a rr
    rintro _ h15 ⟨a,rr,rfl,ha,x15,g15⟩
    have hn15 := x15.next
    have L15 : Sl hB B9 Lc h15 ba i bc bl := by
      have := S.l9
      exact ⟨L13.g9.ext x15 (by omega),L13.o.ext x15 fun j r e => hb13.2.2.1 (e ▸ r),L13.x.then x15 fun j r => .inr (by omega),L13.b,fun y hy => (L13.gi y hy).ext x15 (fun j r e => by have := lla y hy j r; omega) fun j r => .inl r⟩
    clear L13
    obtain ⟨x,hx⟩ : ∃ x : IM,x = ⟨⟨op,a,0,0,[r4],tv⟩,some ⟨h10.next,0,none⟩,1⟩ := ⟨_,rfl⟩
    have gx : Gi h15 hB.next ba x := by
      subst hx
      refine ⟨sl11.ext x15 fun j r e => by rw [Blk.at] at r; omega,fun j r => ?_,⟨by show a < _; omega,by show 0 < _; omega,fun n hn => ?_,by show 1 ≤ 1000; omega,ht⟩,hk,hnz⟩
      · rw [Blk.at] at r
        subst r
        exact ⟨lb,by omega,fun r => by have := lba _ r; omega⟩
      · have : n = r4 := by simpa using hn
        omega
    have gx15 : At h15 b11 (.cells x.enc 0 false) := by subst hx; exact g15
    clear g15
    refine Wk (Wa rfl rfl (We (v := .slice ba i bc) rfl L15.g9 rfl (Xh (l := x.enc) rfl gx15 (Nat.le_refl 6) rfl (Wl rfl (fill0 [x]) fun h16 n16 x16 g16 => ?_))))
    have L16 := L15.ext0 x16
    have gx16 : Gi h16 hB.next ba x := gx.ext x16 (fun j _ r => r.elim) fun j r => .inl r
    refine Zf (m := 1) rfl rfl L16.o rfl (SlA.enc (c := 1) g16).first ⟨by omega,by omega⟩ rfl (IM.enc1_cell x) (by decide) fun h17 a17 c17 x17 o17 b17 => ?_
    rw [IM.enc1] at o17
    refine Wa rfl rfl (Wm (l := [.slice a17 (i + 1) c17]) rfl rfl rfl rfl (L16.g9.ext x17 fun r => by have := L16.b _ r; have := S.l9; omega) (by simp) rfl fun h18 n18 x18 g18 => Wj [(0,_),(1,_),(2,_),(7,_),(8,_),(9,_),(10,_)] rfl ?_)
    have L18 := L16.app S.l9 gx16 x17 o17 b17 x18 g18
    refine Wk (Wa rfl rfl (Wa rfl rfl (Wa rfl rfl (Wj [(0,_),(1,_),(2,_),(7,_),(8,_),(9,_),(10,_)] rfl ?_))))
    exact ⟨n0 - (i + 1),by omega,i + 1,c17,a17,bl ++ [x],by rw [Ju (by omega)],by omega,rfl,by simp [hbl],L18⟩
  have hin : i = n0 := by have := of_decide_eq_false hc; omega
  subst hin
  refine Xv (Xu ?_)
  have ge : Gi h9 hB.next ba ⟨⟨11,0,0,0,[],0⟩,none,0⟩ := ⟨SlA.none,fun j r => absurd r Blk.none,⟨by show 0 < _; omega,by show 0 < _; omega,fun n hn => (by cases hn),by show 0 ≤ _; omega,by show (-9223372036854775808 : Int) ≤ 0; omega,by show (0 : Int) ≤ _; omega⟩,.inl (by decide),by decide⟩
  refine Wi (Wa rfl rfl (We (v := .slice ba i bc) rfl L.g9 rfl (Wa rfl rfl (Wl rfl (fill0 [⟨⟨11,0,0,0,[],0⟩,none,0⟩]) fun h10 n10 x10 g10 => ?_))))
  have L10 := L.ext0 x10
  have ge10 : Gi h10 hB.next ba ⟨⟨11,0,0,0,[],0⟩,none,0⟩ := ge.ext x10 (fun j _ r => r.elim) fun j r => .inl r
  refine Zf (m := 1) rfl rfl L10.o rfl (SlA.enc (c := 1) g10).first ⟨by omega,by omega⟩ rfl (IM.enc1_cell _) (by decide) fun h11 a11 c11 x11 o11 b11 => ?_
  rw [IM.enc1] at o11
  refine Wa rfl rfl (Wm (l := [.slice a11 (i + 1) c11]) rfl rfl rfl rfl (L10.g9.ext x11 fun r => by have := L10.b _ r; have := S.l9; omega) (by simp) rfl fun h12 n12 x12 g12 => Wh [(2,_),(7,_),(9,_)] rfl ?_)
  have L12 := L10.app S.l9 ge10 x11 o11 b11 x12 g12
  have hbl2 : (bl ++ [(⟨⟨11,0,0,0,[],0⟩,none,0⟩ : IM)]).length = i + 1 := by simp [hbl]
  generalize bl ++ [(⟨⟨11,0,0,0,[],0⟩,none,0⟩ : IM)] = b2 at L12 hbl2
  clear L L10 ge ge10 o11 x11 x12 g12 b11 x10 g10 n10 n12 hbl bl
  rw [← hbl2] at L12
  have hb2 : b2.length ≤ 11 := by omega
  have hB2 := S.m9
  refine Wi (Wa rfl rfl (We (v := .slice a11 b2.length c11) rfl L12.g9 rfl (Wc rfl (C18 L12.o.sl rfl (by omega)) ?_)))
  rintro _ h13 ⟨x13,u,b,rfl⟩
  refine Wa rfl rfl (Wa rfl rfl (Wa rfl rfl (Wa rfl rfl (Wa rfl rfl (Wh [(2,_),(7,_),(9,_),(13,_)] rfl ?_)))))
  refine Xd (Wi (Wa rfl rfl (Wa rfl rfl (Wh [(2,_),(7,_),(9,_),(98,_)] rfl ?_))))
  refine Wp rfl (fun _ => ?_) (fun _ => ?_)
  · refine Xd (Wi (Wa rfl rfl (Wh [(6,_)] rfl ?_)))
    exact Xo (Wx.mk _ rfl rfl)
  have L13 := L12.ext0 x13
  have xM : Xk h2 h13 := S.x.then L13.x fun j r => .inr (by omega)
  have q13 := S.q.ext xM.next fun j hj => xM.get j hj fun e => e
  have g7 := S.g7.ext L13.x S.d7
  have X := q13.y h13 (fun _ => False) B7 (Nat.le_refl _) (fun _ _ => rfl) (fun j r => r.elim) g7 fun r => r
  obtain ⟨ya,yc,yl,y0,ys,yb,yi⟩ := X.ty
  obtain ⟨r,er,lr⟩ := Ux (m := (M1.types.length : Int)) wt.1 (by decide)
  have hr : r < M1.types.length := by omega
  obtain ⟨pa,pc,ra,rc,e1,sp,sr⟩ := yi r hr
  have tS := M1s.2 _ (List.getElem_mem hr)
  have tB := M1b.2 _ (List.getElem_mem hr)
  have tN := M1n.2 _ (List.getElem_mem hr)
  generalize M1.types[r].1 = ps at e1 sp tS tB tN
  generalize M1.types[r].2 = rs at e1 sr tS tB tN
  refine Wt (Wi (Wa rfl rfl (We (v := .slice ya M1.types.length yc) rfl g7 y0 (Wa rfl rfl (Wg (w := .int .i64 t) rfl rfl (by rw [w64 (by omega)]) (Wa rfl rfl (We (v := .slice ya M1.types.length yc) rfl g7 y0 (Wa rfl rfl (Ka rfl rfl (by decide) ?_)))))))))
  rw [er]
  refine Vh rfl rfl ys hr e1 fun p => Xl fun h14 n14 x14 g14 => Wm (l := [.slice pa ps.length pc,.slice ra rs.length rc]) rfl rfl rfl rfl g14 (by simp) rfl fun h15 n15 x15 g15 => Wh [(7,_),(9,_),(14,_)] rfl ?_
  replace g15 : At h15 h13.next (.cells [.slice pa ps.length pc,.slice ra rs.length rc] 0 false) := g15
  have x1315 : Xk h13 h15 := x14.then x15 fun j r => .inr (by omega)
  have L15 := L13.ext0 x1315
  have g715 := g7.ext x1315 fun q => q
  have hn15 := x1315.next
  have q15 := q13.ext hn15 fun j hj => x1315.get j hj fun e => e
  have sp15 : SlA h15 1 pa ps.length pc (bys ps) := sp.1.ext x1315
  have sr15 : SlA h15 1 ra rs.length rc (bys rs) := sr.1.ext x1315
  have bp : ∀ j,Blk pa j → j < h15.next := fun j r => by have := (sp.2 j r).1; omega
  have br : ∀ j,Blk ra j → j < h15.next := fun j r => by have := (sr.2 j r).1; omega
  have sl15 : SlA h15 1 (some ⟨Lc,0,none⟩) 4 1 (bys [127,126,112,111]) := S.sL.ext L15.x fun j r e => by rw [Blk.at] at r; have := S.dL; omega
  have bl15 : ∀ j,Blk (some ⟨Lc,0,none⟩) j → j < h15.next := fun j r => by
    obtain ⟨id,off,vs,e,ro,q1,q2,_⟩ := sl15.at (by decide)
    cases q1
    rw [Blk.at] at r
    have := q2.lt
    omega
  have si : ∀ y ∈ b2,y.Lies h15 := fun y hy => ⟨(L15.gi y hy).s,fun j r => ((L15.gi y hy).b j r).2.1,(L15.gi y hy).ok,(L15.gi y hy).kn⟩
  have sn : ∀ y ∈ b2,y.i.op = 2 ∨ y.i.op = 3 ∨ y.i.op = 4 → VS.nz [((y.i.t + 128) % 256).toNat] := fun y hy _ => (L15.gi y hy).nz
  have hps : ps.length ≤ 8 := tS.1
  have hrs : rs.length ≤ 8 := tS.2
  have hs2 := same2 (SlA.same sp15) (SlA.same sr15) rfl rfl
  have hs9 := same2 (SlA.same sl15) (SlA.same L15.o.sl) rfl rfl
  refine Wi (Xh (l := (mcK k).l) rfl g715 (Nat.le_refl 13) rfl (Xh (l := [.slice pa ps.length pc,.slice ra rs.length rc]) rfl g15 (Nat.le_refl 2) rfl (Xh (l := [.slice (some ⟨Lc,0,none⟩) 4 1,.slice a11 b2.length c11]) rfl L15.g9 (Nat.le_refl 2) rfl (Xh (l := (mcK k).l) rfl g715 (Nat.le_refl 13) rfl (Xh (l := [.slice pa ps.length pc,.slice ra rs.length rc]) rfl g15 (Nat.le_refl 2) rfl (Xh (l := [.slice (some ⟨Lc,0,none⟩) 4 1,.slice a11 b2.length c11]) rfl L15.g9 (Nat.le_refl 2) rfl ?_))))))
  refine Wc rfl (C16 (L0 := [127,126,112,111]) (bl := b2) q15.y M1s sp15 bp sr15 br sl15 bl15 L15.o.sl (fun j r => L15.o.lt r) si (by omega) (by decide) hrs (by omega)) ?_
  rintro _ h16 ⟨rfl,x16⟩
  refine Qk rfl rfl (g715.ext x16 fun q => q) (Nat.le_refl 13) rfl (mk_same k) (Qk rfl rfl (g15.ext x16 fun q => q) (Nat.le_refl 2) rfl hs2 (Qk rfl rfl (L15.g9.ext x16 fun q => q) (Nat.le_refl 2) rfl hs9 ?_))
  have hn16 := x16.next
  have q16 := q15.ext hn16 fun j hj => x16.get j hj fun e => e
  refine Wc rfl (C19 (m := mcK k) (L0 := [127,126,112,111]) (bl := b2) q16.y M1s M1b M1n rfl (mk_same k) (by decide) q16.dR (sp15.ext x16) (fun j r => Nat.lt_of_lt_of_le (bp j r) hn16) (sr15.ext x16) (fun j r => Nat.lt_of_lt_of_le (br j r) hn16) (sl15.ext x16) (fun j r => Nat.lt_of_lt_of_le (bl15 j r) hn16) (L15.o.sl.ext x16) (fun j r => Nat.lt_of_lt_of_le (L15.o.lt r) hn16) (fun y hy => ⟨(si y hy).1.ext x16,fun j r => Nat.lt_of_lt_of_le ((si y hy).2.1 j r) hn16,(si y hy).2.2⟩) sn (by omega) (by decide) hrs tB.2 tN.2 (by omega)) ?_
  rintro _ h17 ⟨rfl,x17⟩
  obtain ⟨sw,sne,sz,sb⟩ := VS.start_ok rs tN.2
  have hE : VS.runR M1 (ps ++ [127,126,112,111]) (b2.map IM.i) (VS.start rs) = VS.body M1 (ps ++ [127,126,112,111]) rs (b2.map IM.i) :=
    VS.run_al M1n rfl _ _ (fun y hy => by
      obtain ⟨z,hz,rfl⟩ := List.mem_map.1 hy
      exact sn z hz) sw sne sz sb
  rw [hE]
  exact Jc (v := true) rfl rfl (by simp) (Wa rfl rfl (Wh [(6,_)] rfl (Xn (Wx.mk _ rfl rfl))))

end
section
/- ValSmall: its arguments. -/
set_option maxRecDepth 10000 in
theorem valSmall_fn {L : List (List Value)} {vs : List Value} (hG : Jj Try.prog 0 [22,22,5] vs L) : Fn Try.prog 5 vs (flatH L) fun v _ => v = .bool true := by
  obtain ⟨a,m,c,l,r,k2,L2,L3,rfl,s,hl,hL,hk2,hF⟩ := flat_slice (P := Try.prog) (k := 0) (t := 22) (ts := [22,5]) (L0 := []) (L := L) (L' := L) Try.underlying22 rfl rfl hG
  obtain ⟨a2,m2,c2,l2,r2,k3,L4,L5,rfl,s2,hl2,_,_,hF2⟩ := flat_slice (P := Try.prog) (k := k2) (t := 22) (ts := [5]) (L0 := L2) (L := L) (L' := L3) Try.underlying22 hL hk2 hF
  obtain ⟨v,r,rfl,hv,hF3⟩ := flat_scal (P := Try.prog) (k := k3) (t := 5) (ts := []) (L' := L5) (fun e q => by rw [Try.underlying5] at q; cases q) hF2
  obtain ⟨k,rfl,hk⟩ := scal_int Try.underlying5 hv
  obtain rfl := flat_nil hF3
  obtain ⟨xs,rfl,hw⟩ := scal_ints Try.underlying5 hl
  obtain ⟨ys,rfl,hw2⟩ := scal_ints Try.underlying5 hl2
  have w1 := wf_u8 hk
  have b1 : ∀ j,Blk a j → j < (flatH L).next := fun j r => s.lt j r
  have b2 : ∀ j,Blk a2 j → j < (flatH L).next := fun j r => s2.lt j r
  exact C5 s.sl s2.sl b1 b2 (by have := s.sl.len; simpa [Kk] using this) (by have := s2.sl.len; simpa [Kk] using this) (fun x hx => by have := wf_u8 (hw x hx); omega) (fun x hx => by have := wf_u8 (hw2 x hx); omega) (by omega)

end
end Go.Dx.SYtpkefdoleieloaa
