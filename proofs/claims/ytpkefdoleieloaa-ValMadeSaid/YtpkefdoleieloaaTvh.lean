/- Texts merged: De1.lean, Vl1.lean, Tm9.lean. -/
import Derived.Test.YtpkefdoleieloaaTvg
namespace Go.Dx.SYtpkefdoleieloaa
open Go.Proofs
set_option linter.unusedVariables false
set_option linter.unusedSimpArgs false
section
/- Which functions may be named (val's and the document's): all, where each is exported. -/
abbrev bos (xs : List Bool) : List Value := xs.map Value.bool
theorem zeros_bos : ∀ n : Nat,Xm [.bool false] n = bos (List.replicate n false)
  | 0 => rfl
  | n + 1 => by
    show Value.bool false :: Xm [.bool false] n = _
    rw [zeros_bos n]; rfl
theorem put_bos (D : List Bool) (x : Nat) : putL (bos D) (0 + (x : Int).toNat * 1) [.bool true] = bos (D.set x true) := by
  show (bos D).set (0 + (x : Int).toNat * 1) (.bool true) = _
  rw [show 0 + (x : Int).toNat * 1 = x by omega]
  simp [bos,List.map_set]
structure DcS (h : Heap) (S : Nat → Prop) (mc : List Value) (n : Nat) : Prop where
  fu : ∃ a c,mc[1]? = some (.slice a n c)
  gl : ∃ a m c l,mc[4]? = some (.slice a m c) ∧ SlA h 3 a m c l ∧ (∀ i,Blk a i → S i) ∧ m ≤ 1000000 ∧ ∀ i,i < m → ∃ u v ia ic,∃ x : List IM,(l.drop (i * 3)).take 3 = [u,v,.slice ia x.length ic] ∧ isCell u = true ∧ isCell v = true ∧ SlA h 6 ia x.length ic (en IM.enc x) ∧ (∀ i,Blk ia i → S i) ∧ x.length ≤ 1000000 ∧ ∀ y ∈ x,y.i.a < 4294967296
  el : ∃ a m c l,mc[8]? = some (.slice a m c) ∧ SlA h 5 a m c l ∧ (∀ i,Blk a i → S i) ∧ m ≤ 1000000 ∧ ∀ i,i < m → ∃ t u v w qa qn qc ql,(l.drop (i * 5)).take 5 = [t,u,v,w,.slice qa qn qc] ∧ [t,u,v,w].all isCell = true ∧ SlA h 1 qa qn qc ql ∧ (∀ i,Blk qa i → S i) ∧ qn ≤ 1000000 ∧ ∀ j,j < qn → ∃ ia ic,∃ x : List IM,ql[j]? = some (.slice ia x.length ic) ∧ SlA h 6 ia x.length ic (en IM.enc x) ∧ (∀ i,Blk ia i → S i) ∧ x.length ≤ 1000000 ∧ ∀ y ∈ x,y.i.a < 4294967296
  ex : ∃ a c l,mc[5]? = some (.slice a n c) ∧ SlA h 3 a n c l ∧ (∀ i,Blk a i → S i) ∧ ∀ j,j < n → ∃ s : ByteArray,(l.drop (j * 3)).take 3 = [.string s,.int .u8 0,.int .u32 (j : Int)]
  hn : n ≤ 1000000
  len : mc.length = 13
  cell : mc.all isCell = true
abbrev fnM (po : Nat) : Value := .func (.func 158) ⟨[]⟩ ⟨[ptr po]⟩
section
variable {h : Heap} {po pm o n c : Nat} {D : List Bool}
theorem C158 {x : Nat} (gp : At h po (.cells [.slice (some ⟨o,0,none⟩) n c] 0 false)) (go : At h o (.cells (bos D) 1 false)) (hD : D.length = n) (hx : x < 4294967296) (hn : n ≤ 1000000) :
    Fn Try.prog 158 [.int .u32 (x : Int),ptr po] h fun v h' => At h' o (.cells (bos (D.set x true)) 1 false) ∧ Ext (· = o) h h' := by
  refine fnK F158.fok rfl ?_
  refine Wd (Wa rfl rfl (We (v := .slice (some ⟨o,0,none⟩) n c) rfl gp rfl (Wa rfl rfl (Wb rfl (C91 (n := x) (m := n) hx (by omega)) ?_))))
  rintro _ _ ⟨rfl,rfl⟩
  refine Wc [(0,_),(1,_),(6,_)] rfl ?_
  refine Wp rfl (fun hc => ?_) (fun hc => ?_)
  · have hlt := of_decide_eq_true hc
    refine Wl (We (v := .slice (some ⟨o,0,none⟩) n c) rfl gp rfl (Wa rfl rfl (Xh rfl rfl ⟨by omega,by omega⟩ (Wo (l := [.bool true]) rfl rfl rfl rfl go (by simp [bos]; omega) rfl fun h1 n1 x1 g1 => Wj [] rfl ?_))))
    rw [put_bos] at g1
    exact Ws.mk _ rfl ⟨g1,x1⟩
  · have hlt := of_decide_eq_false hc
    refine Yy (Ws.mk _ rfl ⟨?_,Ext.refl _ _⟩)
    rw [List.set_eq_of_length_le (by omega)]; exact go
theorem C159 {ia : Option Addr} {ic : Nat} {x : List IM} (gm : At h pm (.cells [fnM po] 0 false)) (gp : At h po (.cells [.slice (some ⟨o,0,none⟩) n c] 0 false)) (go : At h o (.cells (bos D) 1 false)) (hD : D.length = n) (hn : n ≤ 1000000) (s : SlA h 6 ia x.length ic (en IM.enc x)) (bi : ∀ i,Blk ia i → i ≠ o) (ho1 : po ≠ o) (ho2 : pm ≠ o) (hx : x.length ≤ 1000000) (ha : ∀ y ∈ x,y.i.a < 4294967296) :
    Fn Try.prog 159 [.slice ia x.length ic,ptr pm] h fun v h' => ∃ D',D'.length = n ∧ At h' o (.cells (bos D') 1 false) ∧ Ext (· = o) h h' := by
  have hol := go.lt
  refine fnK F159.fok rfl ?_
  refine Wd (Wa rfl rfl (Wa rfl rfl (Wa rfl rfl (Wc [(1,_),(5,_),(6,_),(7,_)] rfl ?_))))
  refine Qy ?_
  refine Yt (fun k e h' => ∃ (i : Nat) (D' : List Bool),e = [(1,ptr pm),(5,.slice ia x.length ic),(6,.int .i64 (x.length : Int)),(7,.int .i64 (i : Int))] ∧ i ≤ x.length ∧ k = x.length - i ∧ D'.length = n ∧ At h' o (.cells (bos D') 1 false) ∧ Ext (· = o) h h') ?_ (k := x.length) ⟨0,D,rfl,by omega,rfl,hD,go,Ext.refl _ _⟩
  rintro k e h1 ⟨i,D1,rfl,hi,rfl,hD1,go1,x1⟩
  refine Wd (Wa rfl rfl (Wc [(1,_),(5,_),(6,_),(7,_),(8,_)] rfl ?_))
  refine Wq rfl (fun hc => ?_) (fun hc => ?_)
  · have hlt : i < x.length := by have := of_decide_eq_true hc; omega
    have hn1 := x1.next
    refine Wu (Wz ?_)
    refine Wd (Wops_elA IM.enc_len rfl rfl (s.ext x1 bi) rfl hlt fun p => Xt fun h2 n2 x2 g2 => Wo (l := x[i].enc) rfl rfl rfl rfl g2 (by simp) rfl fun h3 n3 x3 g3 => Wc [(1,_),(4,_),(5,_),(6,_),(7,_)] rfl ?_)
    replace g3 : At h3 h1.next (.cells x[i].enc 0 false) := g3
    have x13 : Xw h1 h3 := x2.then x3 fun j q => .inr (by omega)
    have x03 := x1.then0 x13
    refine Wd (Wa rfl rfl (We (v := .int .i64 x[i].i.op) rfl g3 rfl (Wa rfl rfl (Wc [(1,_),(4,_),(5,_),(6,_),(7,_),(13,_)] rfl ?_))))
    refine Wp rfl (fun hc2 => ?_) (fun hc2 => ?_)
    · refine Wl (We (v := fnM po) rfl (gm.ext x03 ho2) rfl (Wa rfl rfl (We (v := .int .u32 (x[i].i.a : Int)) rfl g3 rfl (Vo rfl rfl (C158 (gp.ext x03 ho1) (go1.ext x13 fun q => q) hD1 (ha _ (List.getElem_mem hlt)) hn) ?_))))
      rintro _ h4 ⟨go4,x4⟩
      refine Wj [(1,_),(5,_),(6,_),(7,_)] rfl ?_
      refine Wl (Wa rfl rfl (Wa rfl rfl (Wj [(1,_),(5,_),(6,_),(7,_)] rfl ?_)))
      exact ⟨x.length - (i + 1),by omega,i + 1,_,by rw [Qq (by omega)],by omega,rfl,by rw [List.length_set,hD1],go4,x03.trans x4⟩
    · refine Yy (Wl (Wa rfl rfl (Wa rfl rfl (Wj [(1,_),(5,_),(6,_),(7,_)] rfl ?_))))
      exact ⟨x.length - (i + 1),by omega,i + 1,D1,by rw [Qq (by omega)],by omega,rfl,hD1,go1.ext x13 fun q => q,x03⟩
  · refine Xv (Ya ?_)
    exact Ws.mk _ rfl ⟨D1,hD1,go1,x1⟩
end
structure Dci (h h' : Heap) (b po pm o n c : Nat) (mc : List Value) (D : List Bool) : Prop where
  x : Xw h h'
  gb : At h' b (.cells mc 0 false)
  gp : At h' po (.cells [.slice (some ⟨o,0,none⟩) n c] 0 false)
  gm : At h' pm (.cells [fnM po] 0 false)
  go : At h' o (.cells (bos D) 1 false)
  hD : D.length = n
  ob : b ≠ o
  op : po ≠ o
  om : pm ≠ o
  on : h.next ≤ o
section
variable {h h' h2 : Heap} {b po pm o n c : Nat} {mc : List Value} {D D' : List Bool}
theorem Dci.ext0 (q : Dci h h' b po pm o n c mc D) (x : Xw h' h2) : Dci h h2 b po pm o n c mc D :=
  ⟨q.x.then0 x,q.gb.ext x,q.gp.ext x,q.gm.ext x,q.go.ext x,q.hD,q.ob,q.op,q.om,q.on⟩
theorem Dci.step (q : Dci h h' b po pm o n c mc D) (x : Ext (· = o) h' h2) (g : At h2 o (.cells (bos D') 1 false)) (l : D'.length = n) : Dci h h2 b po pm o n c mc D' :=
  ⟨q.x.then x fun i r => .inr (by have := q.on; omega),q.gb.ext x q.ob,q.gp.ext x q.op,q.gm.ext x q.om,g,l,q.ob,q.op,q.om,q.on⟩
end
def trues (n : Nat) (D : List Bool) (j : Nat) : Prop := ∀ i,i < j → i < n → D[i]? = some true
theorem trues_set {n : Nat} {D : List Bool} {j : Nat} (t : trues n D j) (hD : D.length = n) : trues n (D.set j true) (j + 1) := fun i hi hn => by
  rw [List.getElem?_set]
  by_cases e : j = i
  · subst e; rw [if_pos rfl,if_pos (by omega)]
  · rw [if_neg e]; exact t i (by omega) hn
theorem trues_all {n : Nat} {D : List Bool} (t : trues n D n) (hD : D.length = n) : D = List.replicate n true := by
  apply List.ext_getElem?
  intro i
  by_cases hi : i < n
  · rw [t i hi hi]; simp [hi]
  · rw [List.getElem?_eq_none (by omega),List.getElem?_eq_none (by simp; omega)]
set_option maxHeartbeats 1000000 in
theorem C120 {h : Heap} {S : Nat → Prop} {mc : List Value} {n : Nat} (q : DcS h S mc n) (hS : ∀ i,S i → i < h.next) :
    Fn Try.prog 120 [.agg ⟨mc⟩] h fun v h' => ∃ a c,v = .slice a n c ∧ SlA h' 1 a n c (bos (List.replicate n true)) ∧ Xw h h' := by
  obtain ⟨fa,fc,fu⟩ := q.fu
  obtain ⟨ga,gm,gc,gl,gu,gs,gS,gml,gi⟩ := q.gl
  obtain ⟨ea,em,ec,el,eu,es,eS,eml,ei⟩ := q.el
  obtain ⟨xa,xc,xl,xu,xs,xS,xi⟩ := q.ex
  have hn := q.hn
  refine fnK F120.fok rfl ?_
  refine Wd (Yr (cs := mc) rfl rfl fun h1 n1 x1 g1 => Wa rfl rfl (Wc [(1,_)] rfl ?_))
  refine Wd (Wa rfl rfl (We (v := .slice fa n fc) rfl g1 fu (Wa rfl rfl (Wops_mkSl (k := n) rfl rfl ⟨by omega,by omega⟩ fun h2 cc n2 x2 g2 => Xt fun h3 n3 x3 g3 => Wo (l := [.slice (some ⟨h1.next,0,none⟩) n cc]) rfl rfl rfl rfl g3 (by simp) rfl fun h4 n4 x4 g4 => Wc [(1,_),(3,_)] rfl ?_))))
  refine Wd (Wa rfl rfl (Xt fun h5 n5 x5 g5 => Wo (l := [fnM h2.next]) rfl rfl rfl rfl g5 (by simp) rfl fun h6 n6 x6 g6 => Wc [(1,_),(3,_),(4,_)] rfl ?_))
  refine Wd (Wa rfl rfl (Wa rfl rfl (Wc [(1,_),(3,_),(4,_),(5,_)] rfl ?_)))
  have x24 : Xw h2 h4 := x3.then x4 fun i r => .inr (by omega)
  have x46 : Xw h4 h6 := x5.then x6 fun i r => .inr (by omega)
  rw [zeros_bos] at g2
  have Q0 : Dci h h6 h.next h2.next h4.next h1.next n cc mc (List.replicate n false) := by
    have y := ((x1.then0 x2).then0 x24).then0 x46
    have z1 := x2.next
    have z2 := x24.next
    refine ⟨y,((At.ext g1 x2 fun q => q).ext x24 fun q => q).ext x46 fun q => q,(show At h4 h2.next _ from g4).ext x46 fun q => q,g6,(At.ext g2 x24 fun q => q).ext x46 fun q => q,List.length_replicate,by omega,by omega,by omega,by omega⟩
  generalize hb : h.next = b at Q0 ⊢
  generalize hpo : h2.next = po at Q0 ⊢
  generalize hpm : h4.next = pm at Q0 ⊢
  generalize ho : h1.next = o at Q0 ⊢
  clear g1 g2 g3 g4 g5 g6 x1 x2 x3 x4 x5 x6 x24 x46 n1 n2 n3 n4 n5 n6 hpo hpm ho
  have hbo : ∀ {h' : Heap} {D : List Bool},Dci h h' b po pm o n cc mc D → ∀ i,S i → i ≠ o := fun q i r => by have := q.on; have := hS i r; omega
  refine Xd (Wd (Wa rfl rfl (We (v := .slice ga gm gc) rfl Q0.gb gu (Wa rfl rfl (Wa rfl rfl (Wc [(1,_),(3,_),(4,_),(5,_),(21,_),(22,_),(23,_)] rfl ?_))))))
  refine Wz ?_
  refine Yt (fun k e h' => ∃ (i : Nat) (D : List Bool),e = [(1,ptr b),(3,ptr po),(4,ptr pm),(5,.func (.func 159) ⟨[]⟩ ⟨[ptr pm]⟩),(21,.slice ga gm gc),(22,.int .i64 (gm : Int)),(23,.int .i64 (i : Int))] ∧ i ≤ gm ∧ k = gm - i ∧ Dci h h' b po pm o n cc mc D) ?_ (k := gm) ⟨0,_,rfl,by omega,rfl,Q0⟩
  clear Q0
  rintro k e h7 ⟨i,D7,rfl,hi,rfl,Q7⟩
  refine Wd (Wa rfl rfl (Wc [(1,_),(3,_),(4,_),(5,_),(21,_),(22,_),(23,_),(24,_)] rfl ?_))
  refine Wq rfl (fun hc => ?_) (fun hc => ?_)
  · have hlt : i < gm := by have := of_decide_eq_true hc; omega
    obtain ⟨u,v,ia,ic,x,e1,e2,e3,e4,e5,e6,e7⟩ := gi i hlt
    refine Wu (Wz ?_)
    refine Wd (Jl rfl rfl (gs.ext Q7.x) hlt e1 fun p => Xt fun h8 n8 x8 g8 => Wo (l := [u,v,.slice ia x.length ic]) rfl rfl rfl rfl g8 (by simp) (show (isCell u && (isCell v && true)) = true by rw [e2,e3]; rfl) fun h9 n9 x9 g9 => Wc [(1,_),(3,_),(4,_),(5,_),(7,_),(21,_),(22,_),(23,_)] rfl ?_)
    have Q9 := Q7.ext0 (x8.then x9 fun j r => .inr (by omega))
    refine Wl (Wa rfl rfl (Wa rfl rfl (We (v := .slice ia x.length ic) rfl g9 rfl (Vo rfl rfl (C159 Q9.gm Q9.gp Q9.go Q9.hD hn (e4.ext Q9.x) (fun j r => hbo Q9 j (e5 j r)) Q9.op Q9.om e6 e7) ?_))))
    rintro _ h10 ⟨D10,l10,g10,x10⟩
    refine Wj [(1,_),(3,_),(4,_),(5,_),(21,_),(22,_),(23,_)] rfl ?_
    refine Wl (Wa rfl rfl (Wa rfl rfl (Wj [(1,_),(3,_),(4,_),(5,_),(21,_),(22,_),(23,_)] rfl ?_)))
    exact ⟨gm - (i + 1),by omega,i + 1,D10,by rw [Qq (by omega)],by omega,rfl,Q9.step x10 g10 l10⟩
  refine Xv (Ya ?_)
  refine Xd (Wd (Wa rfl rfl (We (v := .slice ea em ec) rfl Q7.gb eu (Wa rfl rfl (Wa rfl rfl (Wc [(1,_),(3,_),(4,_),(5,_),(33,_),(34,_),(35,_)] rfl ?_))))))
  refine Wz ?_
  refine Yt (fun k e h' => ∃ (i : Nat) (D : List Bool),e = [(1,ptr b),(3,ptr po),(4,ptr pm),(5,.func (.func 159) ⟨[]⟩ ⟨[ptr pm]⟩),(33,.slice ea em ec),(34,.int .i64 (em : Int)),(35,.int .i64 (i : Int))] ∧ i ≤ em ∧ k = em - i ∧ Dci h h' b po pm o n cc mc D) ?_ (k := em) ⟨0,_,rfl,by omega,rfl,Q7⟩
  clear Q7 hc hi
  rintro k e h7 ⟨i,D7,rfl,hi,rfl,Q7⟩
  refine Wd (Wa rfl rfl (Wc [(1,_),(3,_),(4,_),(5,_),(33,_),(34,_),(35,_),(36,_)] rfl ?_))
  refine Wq rfl (fun hc => ?_) (fun hc => ?_)
  · have hlt : i < em := by have := of_decide_eq_true hc; omega
    obtain ⟨t,u,v,w,qa,qn,qc,ql,e1,e2,e3,e4,e5,e6⟩ := ei i hlt
    refine Wu (Wz ?_)
    refine Wd (Jl rfl rfl (es.ext Q7.x) hlt e1 fun p => Xt fun h8 n8 x8 g8 => Wo (l := [t,u,v,w,.slice qa qn qc]) rfl rfl rfl rfl g8 (by simp) (show ([t,u,v,w] ++ [Value.slice qa qn qc]).all isCell = true by rw [List.all_append,e2]; rfl) fun h9 n9 x9 g9 => Wc [(1,_),(3,_),(4,_),(5,_),(9,_),(33,_),(34,_),(35,_)] rfl ?_)
    have Q9 := Q7.ext0 (x8.then x9 fun j r => .inr (by omega))
    refine Wd (Wa rfl rfl (We (v := .slice qa qn qc) rfl g9 rfl (Wa rfl rfl (Wa rfl rfl (Wc [(1,_),(3,_),(4,_),(5,_),(33,_),(34,_),(35,_),(40,_),(41,_),(42,_)] rfl ?_)))))
    refine Qy ?_
    refine Yt (fun k e h' => ∃ (j : Nat) (D : List Bool),e = [(1,ptr b),(3,ptr po),(4,ptr pm),(5,.func (.func 159) ⟨[]⟩ ⟨[ptr pm]⟩),(33,.slice ea em ec),(34,.int .i64 (em : Int)),(35,.int .i64 (i : Int)),(40,.slice qa qn qc),(41,.int .i64 (qn : Int)),(42,.int .i64 (j : Int))] ∧ j ≤ qn ∧ k = qn - j ∧ Dci h h' b po pm o n cc mc D) ?_ (k := qn) ⟨0,_,rfl,by omega,rfl,Q9⟩
    clear Q7 Q9 g8 g9 x8 x9 n8 n9
    rintro k e h10 ⟨j,D10,rfl,hj,rfl,Q10⟩
    refine Wd (Wa rfl rfl (Wc [(1,_),(3,_),(4,_),(5,_),(33,_),(34,_),(35,_),(40,_),(41,_),(42,_),(43,_)] rfl ?_))
    refine Wq rfl (fun hc2 => ?_) (fun hc2 => ?_)
    · have hlt2 : j < qn := by have := of_decide_eq_true hc2; omega
      obtain ⟨ia,ic,x,f1,f2,f3,f4,f5⟩ := e6 j hlt2
      refine Wu (Wz ?_)
      refine Wd (Yb (u := .slice ia x.length ic) rfl rfl (e3.ext Q10.x) ⟨by omega,by omega⟩ (by rw [Int.toNat_natCast]; exact f1) fun p => Wa rfl rfl (Wc [(1,_),(3,_),(4,_),(5,_),(11,_),(33,_),(34,_),(35,_),(40,_),(41,_),(42,_)] rfl ?_))
      refine Wl (Wa rfl rfl (Wa rfl rfl (Vo rfl rfl (C159 Q10.gm Q10.gp Q10.go Q10.hD hn (f2.ext Q10.x) (fun j r => hbo Q10 j (f3 j r)) Q10.op Q10.om f4 f5) ?_)))
      rintro _ h11 ⟨D11,l11,g11,x11⟩
      refine Wj [(1,_),(3,_),(4,_),(5,_),(33,_),(34,_),(35,_),(40,_),(41,_),(42,_)] rfl ?_
      refine Wl (Wa rfl rfl (Wa rfl rfl (Wj [(1,_),(3,_),(4,_),(5,_),(33,_),(34,_),(35,_),(40,_),(41,_),(42,_)] rfl ?_)))
      exact ⟨qn - (j + 1),by omega,j + 1,D11,by rw [Qq (by omega)],by omega,rfl,Q10.step x11 g11 l11⟩
    · refine Xv (Ya ?_)
      refine Wl (Wa rfl rfl (Wa rfl rfl (Wj [(1,_),(3,_),(4,_),(5,_),(33,_),(34,_),(35,_)] rfl ?_)))
      exact ⟨em - (i + 1),by omega,i + 1,D10,by rw [Qq (by omega)],by omega,rfl,Q10⟩
  refine Xv (Ya ?_)
  refine Xd (Wd (Wa rfl rfl (We (v := .slice xa n xc) rfl Q7.gb xu (Wa rfl rfl (Wa rfl rfl (Wc [(3,_),(4,_),(52,_),(53,_),(54,_)] rfl ?_))))))
  refine Wz ?_
  refine Yt (fun k e h' => ∃ (i : Nat) (D : List Bool),e = [(3,ptr po),(4,ptr pm),(52,.slice xa n xc),(53,.int .i64 (n : Int)),(54,.int .i64 (i : Int))] ∧ i ≤ n ∧ k = n - i ∧ Dci h h' b po pm o n cc mc D ∧ trues n D i) ?_ (k := n) ⟨0,_,rfl,by omega,rfl,Q7,fun j hj => by omega⟩
  clear Q7 hc hi
  rintro k e h7 ⟨i,D7,rfl,hi,rfl,Q7,T7⟩
  refine Wd (Wa rfl rfl (Wc [(3,_),(4,_),(52,_),(53,_),(54,_),(55,_)] rfl ?_))
  refine Wq rfl (fun hc => ?_) (fun hc => ?_)
  · have hlt : i < n := by have := of_decide_eq_true hc; omega
    obtain ⟨s,e1⟩ := xi i hlt
    refine Wu (Wz ?_)
    refine Wd (Jl rfl rfl (xs.ext Q7.x) hlt e1 fun p => Xt fun h8 n8 x8 g8 => Wo (l := [.string s,.int .u8 0,.int .u32 (i : Int)]) rfl rfl rfl rfl g8 (by simp) rfl fun h9 n9 x9 g9 => Wc [(3,_),(4,_),(13,_),(52,_),(53,_),(54,_)] rfl ?_)
    have Q9 := Q7.ext0 (x8.then x9 fun j r => .inr (by omega))
    refine Wd (Wa rfl rfl (We (v := .int .u8 0) rfl g9 rfl (Wa rfl rfl (Wc [(3,_),(4,_),(13,_),(52,_),(53,_),(54,_),(60,_)] rfl ?_))))
    refine Wp (t := true) rfl (fun _ => ?_) (fun hc => by cases hc)
    refine Wl (We (v := fnM po) rfl Q9.gm rfl (Wa rfl rfl (We (v := .int .u32 (i : Int)) rfl g9 rfl (Vo rfl rfl (C158 Q9.gp Q9.go Q9.hD (by omega) hn) ?_))))
    rintro _ h10 ⟨g10,x10⟩
    refine Wj [(3,_),(4,_),(52,_),(53,_),(54,_)] rfl ?_
    refine Wl (Wa rfl rfl (Wa rfl rfl (Wj [(3,_),(4,_),(52,_),(53,_),(54,_)] rfl ?_)))
    exact ⟨n - (i + 1),by omega,i + 1,_,by rw [Qq (by omega)],by omega,rfl,Q9.step x10 g10 (by rw [List.length_set,Q9.hD]),trues_set T7 Q9.hD⟩
  have hin : i = n := by have := of_decide_eq_false hc; omega
  subst hin
  refine Xv (Ya ?_)
  refine Wd (We (v := .slice (some ⟨o,0,none⟩) i cc) rfl Q7.gp rfl (Wa rfl rfl (Wc [(2,_)] rfl ?_)))
  have eD := trues_all T7 Q7.hD
  subst eD
  exact Xn (Ws.mk _ rfl ⟨some ⟨o,0,none⟩,cc,rfl,(OwS.new (n := i) (c := cc) Q7.go (by simp [bos])).sl,Q7.x⟩)
structure Dcj (h h' : Heap) (b o n : Nat) (mc : List Value) (D : List Bool) : Prop where
  x : Xw h h'
  gb : At h' b (.cells mc 0 false)
  go : At h' o (.cells (bos D) 1 false)
  hD : D.length = n
  ob : b ≠ o
  on : h.next ≤ o

end
section
/- ValLocals: what its three bodies come to. -/
def ty (b : Bool) : Nat := if b = true then 126 else 127
namespace VS
variable {M : Mo} {L : List Nat} {s : VS} {a : Nat}
end VS
noncomputable def chk15 : Bool := match fnR T 600 15 [] Heap.empty with
  | some (.bool b,_) => b
  | _ => false
set_option maxRecDepth 100000 in
theorem run15 : chk15 = true := by kernel_rfl
theorem C15 {h : Heap} : Fn Try.prog 15 [] h fun v h' => v = .bool true ∧ h = h' := by
  have hc := run15
  unfold chk15 at hc
  split at hc
  · rename_i b h0 hr
    subst hc
    exact Fn.anywhere (R := fun v => v = .bool true) rfl (Uf hr) fun v h' q => ⟨by rw [q.1]; rfl,q.1⟩
  · cases hc

end
section
/- Made modules, with types: what checkers look at; bodies fit. -/
open VS (Okv MM)
theorem run_ru {M : Mo} {L : List Nat} {v v' : VS} {w : List IM} (r : Ru M L v w v') : ∀ rest : List IM,VS.run M L ((w ++ rest).map IM.i) v = VS.run M L (rest.map IM.i) v' := by
  induction r with
  | nil => intro rest; rfl
  | @snoc w v1 v2 x r h ok ih =>
    intro rest
    rw [List.append_assoc,ih ([x] ++ rest)]
    show VS.run M L (x.i :: rest.map IM.i) v1 = _
    unfold VS.run
    rw [h]
    rw [if_neg (by rw [ok.bad]; simp),if_neg ok.ne]
    cases rest <;> rfl
theorem run_end {M : Mo} {L rs : List Nat} : VS.run M L [endI.i] ((VS.start rs).push rs) = true := by
  have ok0 : Okv (VS.start rs) := start_okv rs
  have hc : ((VS.start rs).push rs).closes = (⟨2,[],rs,0,false⟩,⟨[],[],false⟩) := by
    unfold VS.closes
    have e : ((VS.start rs).push rs).top = ⟨2,[],rs,0,false⟩ := rfl
    rw [e]
    simp only [VS.take_push ok0]
    rfl
  have h1 : ((VS.start rs).push rs).one M L endI.i = ⟨[],[],false⟩ := VS.one_c (by
    show ((VS.start rs).push rs).control M ⟨11,0,0,0,[],0⟩ = _
    simp only [VS.control]
    show some ((VS.start rs).push rs).ends = _
    unfold VS.ends
    rw [hc]
    rfl)
  unfold VS.run
  rw [h1]; rfl
theorem body_ru {M : Mo} {L rs : List Nat} {w : List IM} (r : Ru M L (VS.start rs) w ((VS.start rs).push rs)) : VS.body M L rs ((w ++ [endI]).map IM.i) = true := by
  unfold VS.body
  rw [run_ru r [endI]]
  exact run_end
theorem atSl {h : Heap} {id ez sz n c : Nat} {l : List Value} (g : At h id (.cells l ez false)) (hl : l.length = n * sz) (he : ez = sz) : SlA h sz (some ⟨id,0,none⟩) n c l := by
  subst he; exact (OwS.new g hl).sl
theorem Lay.ext0 {h h' : Heap} {d : LD} (q : Lay h d) (x : Xw h h') : Lay h' d :=
  ⟨q.st.ext x,(q.tys.ext x fun _ _ r => r).mono fun i r => Nat.lt_of_lt_of_le r x.next,q.sf.ext x,q.f6,q.f0,q.f3,q.gt.ext x,q.th,q.gm.ext x,q.mv,q.gg.ext x,q.g0.ext x,q.g1.ext x,q.se.ext x,q.ex,q.ge.ext x,q.go.ext x,q.si.ext x,(q.ii.ext x fun _ _ r => r).mono fun i _ r => Nat.lt_of_lt_of_le r x.next,(q.gd.ext x (fun _ _ r => r) fun r => r).mono fun i _ r => Nat.lt_of_lt_of_le r x.next,q.sc.ext x,(q.cd.ext x fun _ _ r => r).mono fun i r => Nat.lt_of_lt_of_le r x.next⟩
section
variable {h : Heap} {d : LD}
theorem Lay.mm (q : Lay h d) : MM (mkM d.fs) := mkM_mm fun x hx => (q.f6 x hx).2
theorem Lay.dc' (q : Lay h d) : DcS h (fun i => i < h.next) d.mc d.fs.length := by
  have f0 := q.f0
  have f3 := q.f3
  have bl : ∀ {id : Nat} {o : AObj},At h id o → ∀ i,Blk (some ⟨id,0,none⟩) i → i < h.next := fun g i r => by rw [Blk.at] at r; have := g.lt; omega
  refine ⟨⟨_,_,rfl⟩,?_,?_,?_,by omega,rfl,rfl⟩
  · refine ⟨_,2,_,_,rfl,atSl q.gg rfl rfl,bl q.gg,by omega,fun i hi => ?_⟩
    match i,hi with
    | 0,_ => exact ⟨_,_,_,_,[im 65 0 0 d.v0 0,endI],rfl,rfl,rfl,atSl q.g0 rfl rfl,bl q.g0,(by show 2 ≤ 1000000; omega),fun y hy => by
        simp only [List.mem_cons,List.not_mem_nil,or_false] at hy
        rcases hy with rfl | rfl <;> exact (by show 0 < _; omega)⟩
    | 1,_ => exact ⟨_,_,_,_,[im 66 0 0 d.v1 0,endI],rfl,rfl,rfl,atSl q.g1 rfl rfl,bl q.g1,(by show 2 ≤ 1000000; omega),fun y hy => by
        simp only [List.mem_cons,List.not_mem_nil,or_false] at hy
        rcases hy with rfl | rfl <;> exact (by show 0 < _; omega)⟩
  · have hj : ∀ j,j < 3 → ∃ ia ic,∃ x : List IM,d.il[j]? = some (.slice ia x.length ic) ∧ SlA h 6 ia x.length ic (en IM.enc x) ∧ (∀ i,Blk ia i → i < h.next) ∧ x.length ≤ 1000000 ∧ ∀ y ∈ x,y.i.a < 4294967296 := fun j hj => by
      obtain ⟨b,op,a,e1,g,hb,ho⟩ := q.ii j hj
      refine ⟨_,_,[im op a 0 0 0,endI],e1,atSl g rfl rfl,bl g,(by show 2 ≤ 1000000; omega),fun y hy => ?_⟩
      simp only [List.mem_cons,List.not_mem_nil,or_false] at hy
      rcases hy with rfl | rfl
      · show a < _; omega
      · show 0 < _; omega
    refine ⟨_,2,_,_,rfl,atSl q.ge rfl rfl,bl q.ge,by omega,fun i hi => ?_⟩
    match i,hi with
    | 0,_ => exact ⟨_,_,_,_,_,3,_,_,rfl,rfl,q.si,fun i r => SlA.below q.si (by decide) r,by omega,hj⟩
    | 1,_ => exact ⟨_,_,_,_,_,3,_,_,rfl,rfl,q.si,fun i r => SlA.below q.si (by decide) r,by omega,hj⟩
  · exact ⟨_,_,_,rfl,q.se,fun i r => SlA.below q.se f0 r,fun j hj => ⟨_,q.ex j hj⟩⟩
theorem mkS (fs : List Nat) : VS.Mo.Lp VS.short (mkM fs) := ⟨by decide,(by decide : ∀ t ∈ TM.types,VS.short t.1 ∧ VS.short t.2)⟩
theorem Lay.y (q : Lay h d) : MoY h (mkM d.fs) d.mc := by
  intro h1 O pm hn hg hO g hp
  have x : Xw h h1 := ⟨hn,fun i hi _ => hg i hi⟩
  have q1 := q.ext0 x
  have f0 := q.f0
  have f3 := q.f3
  have st : ∀ {j : Nat},j < h.next → j < h1.next ∧ ¬ O j := fun {j} r => ⟨by omega,fun o => by have := hO j o; omega⟩
  have bl : ∀ {id : Nat} {o : AObj},At h id o → ∀ i,Blk (some ⟨id,0,none⟩) i → i < h1.next ∧ ¬ O i := fun g i r => by rw [Blk.at] at r; have := g.lt; exact st (by omega)
  refine ⟨g,hp,?_,?_,?_,⟨_,_,rfl⟩,?_,?_,⟨rfl,rfl⟩,⟨_,_,rfl⟩,rfl,rfl,?_,by show (List.replicate d.fs.length true).length = _; simp,?_,mkS _,fun t ht => by have := (q.f6 t ht).2; omega⟩
  · refine ⟨_,_,_,rfl,q1.st,fun i r => st (SlA.below q.st (by decide) r),fun i hi => ?_⟩
    obtain ⟨pa,pc,ra,rc,e1,e2,e3,e4,e5⟩ := q.tys i (TM.types[i]) (List.getElem?_eq_getElem hi)
    exact ⟨pa,pc,ra,rc,e1,⟨e2.ext x,fun j r => st (e4 j r)⟩,⟨e3.ext x,fun j r => st (e5 j r)⟩⟩
  · exact ⟨_,_,rfl,q1.sf,fun i r => st (SlA.below q.sf f0 r)⟩
  · refine ⟨_,_,_,rfl,atSl q1.gt rfl rfl,bl q.gt,fun i hi => ?_⟩
    match i,hi with
    | 0,_ => rfl
  · refine ⟨_,_,_,rfl,atSl q1.gg rfl rfl,bl q.gg,fun i hi => ?_⟩
    match i,hi with
    | 0,_ => exact ⟨_,rfl,rfl⟩
    | 1,_ => exact ⟨_,rfl,rfl⟩
  · refine ⟨_,_,_,rfl,atSl q1.ge rfl rfl,bl q.ge,fun i hi => ?_⟩
    match i,hi with
    | 0,_ => rfl
    | 1,_ => rfl
  · intro h' hn' hg'
    have x' : Xw h h' := ⟨Nat.le_trans hn hn',fun i hi _ => by rw [hg' i (by omega) (st hi).2,hg i hi]⟩
    have e : (mkM d.fs).decl.length = d.fs.length := by show (List.replicate d.fs.length true).length = _; simp
    rw [e]
    exact (C120 (q.ext0 x').dc' fun i r => r).mono fun v h2 r => r
  · exact ⟨(by show 6 ≤ 1000000; omega),by show d.fs.length ≤ _; omega,(by show 1 ≤ 1000000; omega),(by show 2 ≤ 1000000; omega),(by show 2 ≤ 1000000; omega),(by show 2 ≤ 1000000; omega)⟩
theorem Lay.body (q : Lay h d) {i : Nat} (hi : i < d.fs.length) : ∃ (pa ra la ba : Option Addr) (pc rc lc bc : Nat) (ps rs : List Nat) (n : Nat),(d.ty.drop (d.fs[i] * 2)).take 2 = [.slice pa ps.length pc,.slice ra rs.length rc] ∧ (d.cl.drop (i * 2)).take 2 = [.slice la 3 lc,.slice ba n bc] ∧
    Fn Try.prog 16 [.agg ⟨d.mc⟩,.agg ⟨[.slice pa ps.length pc,.slice ra rs.length rc]⟩,.agg ⟨[.slice la 3 lc,.slice ba n bc]⟩] h fun v h' => v = .int .i64 0 ∧ Xw h h' := by
  obtain ⟨la,lc,ba,bc,w,p,e1,sl,bl,sb,bb,lw,hw,⟨f,hf,hp⟩,r⟩ := q.cd i hi
  have hf' : f = d.fs[i] := by rw [List.getElem?_eq_getElem hi] at hf; exact (Option.some.inj hf).symm
  subst hf'
  obtain ⟨pa,pc,ra,rc,t1,t2,t3,t4,t5⟩ := q.tys _ p hp
  obtain ⟨hpn,hpt⟩ := VS.MM.par q.mm hp
  obtain ⟨hrn,hrt⟩ := VS.MM.res q.mm hp
  refine ⟨pa,ra,la,ba,pc,rc,lc,bc,p.1,p.2,w.length + 1,t1,e1,?_⟩
  have hlen : (w ++ [endI]).length = w.length + 1 := by simp
  have C := C16 (ps := p.1) (rs := p.2) (L0 := [127,126,127]) (bl := w ++ [endI]) (lc := lc) (bc := bc) (la := la) (ba := ba) q.y (mkS _) t2 t4 t3 t5 sl bl (by rw [hlen]; exact sb) bb (fun x hx => by
    rcases List.mem_append.1 hx with hx | hx
    · exact ⟨(lw x hx).s,(lw x hx).b,(lw x hx).ok,(lw x hx).kn⟩
    · rw [List.mem_singleton] at hx; subst hx
      exact ⟨SlA.none,fun j r => absurd r Blk.none,ok0 (by omega),.inl (by decide)⟩) (by omega) (by decide) (by omega) (by rw [hlen]; omega)
  rw [hlen,body_ru r] at C
  exact C
end
set_option maxHeartbeats 1000000 in
theorem C4 {h : Heap} {xa : Option Addr} {n xc : Nat} {xs : List Int} (sx : SlA h 1 xa n xc (Yu .u8 xs)) (bx : ∀ j,Blk xa j → j < h.next) (hl : xs.length = n) (xw : ∀ x ∈ xs,0 ≤ x ∧ x ≤ 255) :
    Fn Try.prog 4 [.slice xa n xc] h fun v h' => v = .bool true := by
  subst hl
  refine fnK F4.fok rfl ?_
  refine Wd (Wa rfl rfl (Wc [(0,_)] rfl ?_))
  refine Xd (Wd (Wb rfl C15 ?_))
  rintro _ _ ⟨rfl,rfl⟩
  refine Wa rfl rfl (Wc [(0,_),(6,_)] rfl ?_)
  refine Wq (t := false) rfl (fun hc => by cases hc) (fun _ => ?_)
  refine Wu (Xd (Wd (Wa rfl rfl (Wa rfl rfl (Wa rfl rfl (Wc [(0,_),(9,_)] rfl ?_))))))
  refine Wq rfl (fun hc => ?_) (fun hc => ?_)
  · refine Xd (Wd (Wa rfl rfl (Wc [(2,_)] rfl ?_)))
    exact Ym (Ws.mk _ rfl rfl)
  have hxl : xs.length ≤ 200 := by have := of_decide_eq_false hc; omega
  refine Wu (Wd (Wa rfl rfl (Wb rfl C10 ?_)))
  rintro _ h1 ⟨rfl,gp,x1⟩
  refine Wb rfl (C11 gp (sx.ext x1) xw (by omega) fun j r => by have := bx j r; have := x1.next; omega) ?_
  rintro _ h2 ⟨d,rfl,hcell,q2,x2⟩
  refine Xt fun h3 n3 x3 g3 => Wo (l := d.mc) rfl rfl rfl rfl g3 (by simp) rfl fun h4 n4 x4 g4 => Wc [(3,_)] rfl ?_
  replace g4 : At h4 h2.next (.cells d.mc 0 false) := g4
  have x24 : Xw h2 h4 := x3.then x4 fun j r => .inr (by omega)
  have q4 := q2.ext0 x24
  generalize h2.next = B at g4 ⊢
  refine Xd (Wd (Wa rfl rfl (Wc [(3,_),(4,_)] rfl ?_)))
  refine Wz ?_
  refine Yt (fun k e h' => ∃ i : Nat,e = [(3,ptr B),(4,.int .i64 (i : Int))] ∧ i ≤ d.fs.length ∧ k = d.fs.length - i ∧ Xw h4 h') ?_ (k := d.fs.length) ⟨0,rfl,Nat.zero_le _,rfl,Ext.refl _ _⟩
  rintro k e h5 ⟨i,rfl,hi,rfl,x5⟩
  have q5 := q4.ext0 x5
  have g5 := g4.ext x5 fun r => r
  refine Xd (Wd (Wa rfl rfl (Wa rfl rfl (We (v := .slice d.ca d.fs.length d.cc) rfl g5 rfl (Wa rfl rfl (Wa rfl rfl (Wc [(3,_),(4,_),(17,_)] rfl ?_)))))))
  refine Wq rfl (fun hc => ?_) (fun hc => ?_)
  · have hlt : i < d.fs.length := by have := of_decide_eq_true hc; omega
    have hf6 := (q5.f6 _ (List.getElem_mem hlt)).2
    obtain ⟨pa,ra,la,ba,pc,rc,lc,bc,ps,rs,m,e1,e2,C⟩ := q5.body hlt
    refine Wu (Wz ?_)
    refine Wd (Xo (l := d.mc) rfl g5 (Nat.le_refl 13) rfl (Wa rfl rfl (We (v := .slice d.ta 6 d.tc) rfl g5 rfl (Wa rfl rfl (We (v := .slice d.fa d.fs.length d.fc) rfl g5 rfl (Wa rfl rfl (Yb (u := .int .u32 (d.fs[i] : Int)) rfl rfl q5.sf ⟨by omega,by omega⟩ (by simp [hlt]) fun _ => Jl rfl rfl q5.st hf6 e1 fun _ => ?_)))))))
    refine Wa rfl rfl (We (v := .slice d.ca d.fs.length d.cc) rfl g5 rfl (Wa rfl rfl (Jl rfl rfl q5.sc hlt e2 fun _ => Wb rfl C ?_)))
    rintro _ h6 ⟨rfl,x6⟩
    refine Wa rfl rfl (Wc [(3,_),(4,_),(36,_)] rfl ?_)
    refine Wp (t := false) rfl (fun hc => by cases hc) (fun _ => Yy ?_)
    refine Wl (Wa rfl rfl (Wa rfl rfl (Wa rfl rfl (Wj [(3,_),(4,_)] rfl ?_))))
    exact ⟨d.fs.length - (i + 1),by omega,i + 1,by rw [Qq (by have := q5.f3; omega)],by omega,rfl,x5.then0 x6⟩
  · refine Xv (Ya ?_)
    refine Wd (Wa rfl rfl (Wc [(2,_)] rfl ?_))
    exact Xn (Ws.mk _ rfl rfl)
set_option maxRecDepth 10000 in
theorem valMade_fn {L : List (List Value)} {vs : List Value} (hG : Vh Try.prog 0 [22] vs L) : Fn Try.prog 4 vs (flatH L) fun v _ => v = .bool true := by
  obtain ⟨a,m,c,l,r,k2,L2,L3,rfl,s,hl,hL,hk2,hF⟩ := flat_slice (P := Try.prog) (k := 0) (t := 22) (ts := []) (L0 := []) (L := L) (L' := L) Try.underlying22 rfl rfl hG
  obtain rfl := flat_nil hF
  obtain ⟨xs,rfl,hw⟩ := scal_ints Try.underlying5 hl
  exact C4 s.sl (fun j r => s.lt j r) (by have := s.sl.len; simpa [Yu] using this) (fun x hx => by have := wf_u8 (hw x hx); omega)

end
end Go.Dx.SYtpkefdoleieloaa
