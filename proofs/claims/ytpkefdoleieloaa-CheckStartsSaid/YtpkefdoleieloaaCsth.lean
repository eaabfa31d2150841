/- Texts merged: Ck1.lean, Ck2.lean, Ck3.lean, Ck4.lean, Ck5.lean, Ck6.lean, Ck7.lean, Bg1.lean, Ck8.lean, Ck10.lean, Ck11.lean. -/
import Derived.Test.YtpkefdoleieloaaCstg
namespace Go.Dx.SYtpkefdoleieloaa
open Go.Proofs
set_option linter.unusedVariables false
set_option linter.unusedSimpArgs false
section
/- check: what its small functions tell. -/
theorem C122 {h : Heap} {n m : Nat} (hn : n < 4294967296) (hm : m ≤ 1099511627776) : Fn Try.prog 122 [.int .u32 (n : Int),.int .i64 (m : Int)] h fun v h' => v = .bool (decide (n < m)) ∧ h = h' := by
  refine fnK F122.fok rfl ?_
  refine Wd (Wa rfl rfl (Wc [(0,_),(1,_)] rfl (?_)))
  refine Wd (Wa rfl rfl (Wi (w := .int .u64 (n : Int)) rfl rfl (by rw [Vu (by omega)]) (Wa rfl rfl (Wi (w := .int .u64 (m : Int)) rfl rfl (by rw [Vu (by omega)]) (Wi (w := .bool (decide (n < m))) rfl rfl (by congr 1; rw [Bool.eq_iff_iff]; simp) (Wa rfl rfl (Wc [(4,_)] rfl (?_))))))))
  exact Xo (Ws.mk _ rfl ⟨rfl,rfl⟩)
theorem C123 {h : Heap} {mn mx : Int} {b : Bool} (hb : b = true → ¬ mx < mn) : Fn Try.prog 123 [.agg ⟨[.int .u32 mn,.int .u32 mx,.bool b]⟩] h fun v h' => v = .bool false ∧ Xe h h' := by
  refine fnK F123.fok rfl ?_
  refine Wd (Ye (cs := [.int .u32 mn,.int .u32 mx,.bool b]) rfl rfl fun h1 n1 x1 g1 => Wa rfl rfl (Wc [(1,_)] rfl (?_)))
  refine Wd (Wa rfl rfl (We (v := .bool b) rfl g1 rfl (Wa rfl rfl ?_)))
  cases b with
  | false =>
    refine Wg rfl (Wg rfl (Wg rfl (Wg rfl (Wg rfl (Wa rfl rfl (Wa rfl rfl (Wc [(2,_)] rfl (?_))))))))
    exact Xo (Ws.mk _ rfl ⟨rfl,x1⟩)
  | true =>
    refine Wh rfl (Wa rfl rfl (Wh rfl (We (v := .int .u32 mn) rfl g1 rfl (Wh rfl (Wa rfl rfl (Wh rfl (We (v := .int .u32 mx) rfl g1 rfl (Wh rfl ?_))))))))
    refine Wi (w := .bool false) rfl rfl (by congr 1; exact decide_eq_false (hb rfl)) (Wa rfl rfl (Wa rfl rfl (Wc [(2,_)] rfl (?_))))
    exact Xo (Ws.mk _ rfl ⟨rfl,x1⟩)
theorem C56 {h : Heap} {mc : List Value} {fa : Option Addr} {n fc b v a : Nat} {op : Int} {t : Nat} (hfu : mc[1]? = some (.slice fa n fc)) (hn : n ≤ 1000000) (g : At h b (.cells ([.int .i64 op,.int .u32 (a : Int),.int .u32 0,.int .u64 (v : Int),Xf,.int .i64 0] ++ Zg) 6 false))
    (ho : op = 65 ∧ t = 127 ∨ op = 66 ∧ t = 126 ∨ op = 208 ∧ t = 112 ∧ a = 112 ∨ op = 210 ∧ t = 112 ∧ a < n) : Fn Try.prog 56 [.agg ⟨mc⟩,.int .u8 (t : Int),.slice (some ⟨b,0,none⟩) 2 1] h fun v h' => v = .int .i64 0 ∧ Xe h h' := by
  refine fnK F56.fok rfl ?_
  refine Wd (Ye (cs := mc) rfl rfl fun h1 n1 x1 g1 => Wa rfl rfl (Wc [(1,_),(2,_),(3,_)] rfl (?_)))
  replace g := g.ext x1 fun r => r
  refine Xc (Wd (Wa rfl rfl (Wa rfl rfl (Wa rfl rfl (Wa rfl rfl (Wh rfl (Wa rfl rfl (Wh rfl (Xi rfl rfl ⟨by decide,by decide⟩ ?_)))))))))
  refine Wh rfl (Wa rfl rfl (Wh rfl (We (v := .int .i64 11) rfl g rfl (Wh rfl (Wa rfl rfl (Wa rfl rfl (Wc [(1,_),(2,_),(3,_),(18,_)] rfl (?_))))))))
  refine Wo (t := false) rfl (fun hc => by cases hc) (fun _ => ?_)
  refine Wr (Wd (Wa rfl rfl (Xi rfl rfl ⟨by decide,by decide⟩ (Xj (l := [.int .i64 op,.int .u32 (a : Int),.int .u32 0,.int .u64 (v : Int),Xf,.int .i64 0]) rfl g (by simp) rfl (Xh fun h2 n2 x2 g2 => Wm (l := [.int .i64 op,.int .u32 (a : Int),.int .u32 0,.int .u64 (v : Int),Xf,.int .i64 0]) rfl rfl rfl rfl g2 (by simp) rfl fun h3 n3 x3 g3 => Wc [(1,_),(3,_),(7,_)] rfl ?_)))))
  replace g3 : At h3 h1.next (.cells [.int .i64 op,.int .u32 (a : Int),.int .u32 0,.int .u64 (v : Int),Xf,.int .i64 0] 0 false) := g3
  have x13 : Xe h1 h3 := x2.then x3 fun j q => .inr (by omega)
  have x03 : Xe h h3 := x1.then0 x13
  replace g1 : At h3 h.next (.cells mc 0 false) := At.ext (show At h1 h.next _ from g1) x13 fun r => r
  refine Wd (Wa rfl rfl (Wc [(1,_),(3,_),(7,_),(8,_)] rfl (?_)))
  refine Xc (Wd (Wa rfl rfl (We (v := .int .i64 op) rfl g3 rfl (Wc [(1,_),(3,_),(7,_),(8,_),(23,_)] rfl (?_)))))
  refine Wt ?_
  rcases ho with ⟨rfl,rfl⟩ | ⟨rfl,rfl⟩ | ⟨rfl,rfl,rfl⟩ | ⟨rfl,rfl,ha⟩
  · refine Wd (Wa rfl rfl (Wa rfl rfl (Wc [(1,_),(3,_),(7,_),(8,_),(23,_),(24,_)] rfl (?_))))
    refine Wn (t := true) rfl (fun _ => ?_) (fun hc => by cases hc)
    refine Wl (Wa rfl rfl (Wa rfl rfl (Wa rfl rfl (Wk [(8,_)] rfl (?_)))))
    refine Xc (Wd (Wa rfl rfl (Wa rfl rfl (Wc [(52,_)] rfl (?_)))))
    refine Wo (t := false) rfl (fun hc => by cases hc) (fun _ => ?_)
    refine Wr (Wd (Wa rfl rfl (Wc [(6,_)] rfl (?_))))
    exact Xo (Ws.mk _ rfl ⟨rfl,x03⟩)
  · refine Wd (Wa rfl rfl (Wa rfl rfl (Wc [(1,_),(3,_),(7,_),(8,_),(23,_),(24,_)] rfl (?_))))
    refine Wn (t := false) rfl (fun hc => by cases hc) (fun _ => ?_)
    refine Wd (Wa rfl rfl (Wa rfl rfl (Wc [(1,_),(3,_),(7,_),(8,_),(23,_),(28,_)] rfl (?_))))
    refine Wn (t := true) rfl (fun _ => ?_) (fun hc => by cases hc)
    refine Wl (Wa rfl rfl (Wa rfl rfl (Wa rfl rfl (Wk [(8,_)] rfl (?_)))))
    refine Xc (Wd (Wa rfl rfl (Wa rfl rfl (Wc [(52,_)] rfl (?_)))))
    refine Wo (t := false) rfl (fun hc => by cases hc) (fun _ => ?_)
    refine Wr (Wd (Wa rfl rfl (Wc [(6,_)] rfl (?_))))
    exact Xo (Ws.mk _ rfl ⟨rfl,x03⟩)
  · refine Wd (Wa rfl rfl (Wa rfl rfl (Wc [(1,_),(3,_),(7,_),(8,_),(23,_),(24,_)] rfl (?_))))
    refine Wn (t := false) rfl (fun hc => by cases hc) (fun _ => ?_)
    refine Wd (Wa rfl rfl (Wa rfl rfl (Wc [(1,_),(3,_),(7,_),(8,_),(23,_),(28,_)] rfl (?_))))
    refine Wn (t := false) rfl (fun hc => by cases hc) (fun _ => ?_)
    refine Wd (Wa rfl rfl (Wa rfl rfl (Wc [(1,_),(3,_),(7,_),(8,_),(23,_),(32,_)] rfl (?_))))
    refine Wn (t := true) rfl (fun _ => ?_) (fun hc => by cases hc)
    refine Wl (Wa rfl rfl (Wa rfl rfl (Wa rfl rfl (We (v := .int .u32 ((112 : Nat) : Int)) rfl g3 rfl (Wa rfl rfl (Wa rfl rfl (Wk [(8,_)] rfl (?_))))))))
    refine Xc (Wd (Wa rfl rfl (Wa rfl rfl (Wc [(52,_)] rfl (?_)))))
    refine Wo (t := false) rfl (fun hc => by cases hc) (fun _ => ?_)
    refine Wr (Wd (Wa rfl rfl (Wc [(6,_)] rfl (?_))))
    exact Xo (Ws.mk _ rfl ⟨rfl,x03⟩)
  · refine Wd (Wa rfl rfl (Wa rfl rfl (Wc [(1,_),(3,_),(7,_),(8,_),(23,_),(24,_)] rfl (?_))))
    refine Wn (t := false) rfl (fun hc => by cases hc) (fun _ => ?_)
    refine Wd (Wa rfl rfl (Wa rfl rfl (Wc [(1,_),(3,_),(7,_),(8,_),(23,_),(28,_)] rfl (?_))))
    refine Wn (t := false) rfl (fun hc => by cases hc) (fun _ => ?_)
    refine Wd (Wa rfl rfl (Wa rfl rfl (Wc [(1,_),(3,_),(7,_),(8,_),(23,_),(32,_)] rfl (?_))))
    refine Wn (t := false) rfl (fun hc => by cases hc) (fun _ => ?_)
    refine Wd (Wa rfl rfl (Wa rfl rfl (Wc [(1,_),(3,_),(7,_),(8,_),(39,_)] rfl (?_))))
    refine Wn (t := true) rfl (fun _ => ?_) (fun hc => by cases hc)
    refine Wl (Wa rfl rfl (Wa rfl rfl (Wa rfl rfl (Wh rfl (Wa rfl rfl (Wh rfl (We (v := .int .u32 (a : Int)) rfl g3 rfl ?_)))))))
    refine Wh rfl (Wa rfl rfl (Wh rfl (We (v := .slice fa n fc) rfl g1 hfu (Wh rfl (Wa rfl rfl (Wh rfl (Wb rfl (C91 (n := a) (m := n) (by omega) (by omega)) ?_)))))))
    rintro _ _ ⟨rfl,rfl⟩
    refine Wi (w := .bool true) rfl rfl (by rw [decide_eq_true ha]) (Wa rfl rfl (Wk [(8,_)] rfl (?_)))
    refine Xc (Wd (Wa rfl rfl (Wa rfl rfl (Wc [(52,_)] rfl (?_)))))
    refine Wo (t := false) rfl (fun hc => by cases hc) (fun _ => ?_)
    refine Wr (Wd (Wa rfl rfl (Wc [(6,_)] rfl (?_))))
    exact Xo (Ws.mk _ rfl ⟨rfl,x03⟩)
structure CX where
  d : LD
  fa : Option Addr
  fc : Nat
  fs : List Nat
  ea : Option Addr
  ec : Nat
  es : List (ByteArray × Nat × Nat)
  el : List Value
  st : Bool
  sx : Nat
  ca : Option Addr
  cc : Nat
  cn : Nat
  cl : List Value
abbrev CX.mc (x : CX) : List Value := [.slice x.d.ta 6 x.d.tc,.slice x.fa x.fs.length x.fc,.slice (some ⟨x.d.bt,0,none⟩) 1 1,.slice (some ⟨x.d.bm,0,none⟩) 1 1,.slice (some ⟨x.d.bg,0,none⟩) 2 1,.slice x.ea x.es.length x.ec,.bool x.st,.int .u32 (x.sx : Int),.slice (some ⟨x.d.be,0,none⟩) 2 1,.bool true,.int .u32 2,.slice x.ca x.cn x.cc,.slice (some ⟨x.d.bd,0,none⟩) 2 1]
abbrev CX.ck (x : CX) (e : Int) : List Value := [.slice x.d.ta 6 x.d.tc,.slice x.fa x.fs.length x.fc,.slice (some ⟨x.d.bt,0,none⟩) 1 1,.slice (some ⟨x.d.bm,0,none⟩) 1 1,.slice (some ⟨x.d.bg,0,none⟩) 2 1,.slice x.ea x.es.length x.ec,.bool x.st,.int .u32 (x.sx : Int),.slice (some ⟨x.d.be,0,none⟩) 2 1,.bool true,.int .u32 2,.slice x.ca x.cn x.cc,.slice (some ⟨x.d.bd,0,none⟩) 2 1,.int .i64 e]
section
variable {h : Heap} {x : CX} {p : Nat} {e : Int}
theorem Ud {k : Int} (g : At h p (.cells (x.ck e) 0 false)) : Fn Try.prog 121 [ptr p,.bool false,.int .i64 k] h fun v h' => h = h' := by
  refine fnK F121.fok rfl ?_
  refine Wd (Wa rfl rfl (Wa rfl rfl (Wg rfl (Wg rfl (Wg rfl (Wg rfl (Wg rfl (Wa rfl rfl (Wc [(0,_),(2,_),(13,_)] rfl (?_))))))))))
  refine Wn (t := false) rfl (fun hc => by cases hc) (fun _ => Ya (Ws.mk _ rfl rfl))
theorem C121 {b : Bool} {k : Int} (g : At h p (.cells (x.ck e) 0 false)) : Fn Try.prog 121 [ptr p,.bool b,.int .i64 k] h fun v h' => At h' p (.cells (x.ck (if b = true ∧ e = 0 then k else e)) 0 false) ∧ Ext (· = p) h h' := by
  cases b with
  | false => exact (Ud g).mono fun v h' r => by subst r; exact ⟨by simpa using g,Ext.refl _ _⟩
  | true =>
    refine fnK F121.fok rfl ?_
    refine Wd (Wa rfl rfl (Wa rfl rfl (Wh rfl (Wa rfl rfl (Wh rfl (Wa rfl rfl (Wh rfl (Wa rfl rfl (Wh rfl (We (v := .int .i64 e) rfl g rfl (Wh rfl (Wa rfl rfl (Wa rfl rfl (Wc [(0,_),(2,_),(13,_)] rfl (?_)))))))))))))))
    refine Wn rfl (fun hc => ?_) (fun hc => ?_)
    · have he : e = 0 := eq_of_beq hc
      refine Wl (Wa rfl rfl (Wa rfl rfl (Wa rfl rfl (Wa rfl rfl (Wm (l := [.int .i64 k]) rfl rfl rfl rfl g (by simp) rfl fun h1 n1 x1 g1 => Wk [] rfl ?_)))))
      refine Ws.mk _ rfl ⟨?_,x1⟩
      rw [if_pos ⟨rfl,he⟩]; exact g1
    · have he : ¬ e = 0 := fun q => by subst q; cases hc
      refine Ya (Ws.mk _ rfl ⟨?_,Ext.refl _ _⟩)
      rw [if_neg fun q => he q.2]; exact g
theorem C124 {b v a : Nat} {op : Int} {t : Nat} (q : At h p (.cells (x.ck e) 0 false)) (hn : x.fs.length ≤ 1000000) (g : At h b (.cells ([.int .i64 op,.int .u32 (a : Int),.int .u32 0,.int .u64 (v : Int),Xf,.int .i64 0] ++ Zg) 6 false))
    (ho : op = 65 ∧ t = 127 ∨ op = 66 ∧ t = 126 ∨ op = 208 ∧ t = 112 ∧ a = 112 ∨ op = 210 ∧ t = 112 ∧ a < x.fs.length) : Fn Try.prog 124 [ptr p,.int .u8 (t : Int),.slice (some ⟨b,0,none⟩) 2 1] h fun v h' => Xe h h' := by
  refine fnK F124.fok rfl ?_
  refine Wl (Wa rfl rfl (Wa rfl rfl (Wa rfl rfl (Wa rfl rfl (Xj (l := x.mc) rfl q (by simp) rfl (Wa rfl rfl (Wa rfl rfl (Wb rfl (C56 (mc := x.mc) (fa := x.fa) (n := x.fs.length) (fc := x.fc) rfl hn g ho) ?_))))))))
  rintro _ h1 ⟨rfl,x1⟩
  refine Wa rfl rfl (Wb rfl (Ud (q.ext x1 fun r => r)) ?_)
  rintro _ _ rfl
  refine Wk [] rfl (?_)
  exact Ws.mk _ rfl x1
end
abbrev exC (e : ByteArray × Nat × Nat) : List Value := [.string e.1,.int .u8 (e.2.1 : Int),.int .u32 (e.2.2 : Int)]
theorem C126 {h : Heap} {y z : ByteArray × Nat × Nat} {b : Nat} (g : At h b (.cells (exC z) 0 false)) : Fn Try.prog 126 [.agg ⟨exC y⟩,ptr b] h fun v h' => v = .bool (y.1.toList == z.1.toList) ∧ Xe h h' := by
  refine fnK F126.fok rfl ?_
  refine Wd (Ye (cs := exC y) rfl rfl fun h1 n1 x1 g1 => Wa rfl rfl (Wc [(1,_),(2,_)] rfl (?_)))
  refine Wd (Wa rfl rfl (We (v := .string y.1) rfl g1 rfl (Wa rfl rfl (We (v := .string z.1) rfl (g.ext x1 fun r => r) rfl ?_))))
  refine Wi (w := .bool (y.1.toList == z.1.toList)) rfl rfl rfl (Wa rfl rfl (Wc [(3,_)] rfl (?_)))
  exact Xo (Ws.mk _ rfl ⟨rfl,x1⟩)

end
section
/- check: types; what is there twice. -/
structure Cx (h : Heap) (x : CX) : Prop where
  lay : Lay h x.d
  sf : SlA h 1 x.fa x.fs.length x.fc (Qc x.fs)
  f6 : ∀ f ∈ x.fs,f < 6
  fl : x.fs.length ≤ 4
  fd : x.d.fs.length ≤ x.fs.length
  se : SlA h 3 x.ea x.es.length x.ec x.el
  ex : ∀ j (hj : j < x.es.length),(x.el.drop (j * 3)).take 3 = exC x.es[j]
  xl : x.es.length ≤ 4
  er : ∀ e ∈ x.es,e.2.1 < 256 ∧ e.2.2 < 4294967296
  sx : x.sx < 4294967296
  sc : SlA h 2 x.ca x.cn x.cc x.cl
  cn : x.cn = x.fs.length
  cl : ∀ i,i < x.cn → ∃ (la ba : Option Addr) (ln lc bn bc : Nat),(x.cl.drop (i * 2)).take 2 = [.slice la ln lc,.slice ba bn bc]
theorem Cx.ext0 {h h' : Heap} {x : CX} (q : Cx h x) (e : Xe h h') : Cx h' x :=
  ⟨q.lay.ext0 e,q.sf.ext e,q.f6,q.fl,q.fd,q.se.ext e,q.ex,q.xl,q.er,q.sx,q.sc.ext e,q.cn,q.cl⟩
section
variable {h : Heap}
theorem C160 {a : Option Addr} {n c b : Nat} {l : List Value} {ys : List (ByteArray × Nat × Nat)} {z : ByteArray × Nat × Nat} (s : SlA h 3 a n c l) (hn : ys.length = n) (hx : ∀ j (hj : j < ys.length),(l.drop (j * 3)).take 3 = exC ys[j]) (hl : n ≤ 1000000) (g : At h b (.cells (exC z) 0 false)) :
    Fn Try.prog 160 [.slice a n c,.func (.func 126) ⟨[]⟩ ⟨[ptr b]⟩] h fun v h' => ∃ r : Int,v = .int .i64 r ∧ decide (0 ≤ r) = ys.any (fun y => y.1.toList == z.1.toList) ∧ Xe h h' := by
  subst hn
  refine fnK F160.fok rfl ?_
  refine Wd (Wa rfl rfl (Wc [(0,_),(1,_)] rfl (?_)))
  refine Xc (Wd (Wa rfl rfl (Wa rfl rfl (Wa rfl rfl (Wc [(0,_),(1,_),(7,_),(8,_)] rfl (?_))))))
  refine Wt ?_
  refine Xy (fun k e h' => ∃ i : Nat,e = [(0,.slice a ys.length c),(1,.func (.func 126) ⟨[]⟩ ⟨[ptr b]⟩),(7,.int .i64 (ys.length : Int)),(8,.int .i64 (i : Int))] ∧ i ≤ ys.length ∧ k = ys.length - i ∧ Xe h h' ∧ (ys.take i).any (fun y => y.1.toList == z.1.toList) = false) ?_ (k := ys.length) ⟨0,rfl,by omega,rfl,Ext.refl _ _,by simp⟩
  rintro k e h1 ⟨i,rfl,hi,rfl,x1,hA⟩
  refine Wd (Wa rfl rfl (Wc [(0,_),(1,_),(7,_),(8,_),(9,_)] rfl (?_)))
  refine Wo rfl (fun hc => ?_) (fun hc => ?_)
  · have hlt : i < ys.length := by have := of_decide_eq_true hc; omega
    refine Wr (Wt ?_)
    refine Wd (Wa rfl rfl (Wa rfl rfl (Wc [(0,_),(1,_),(5,_),(7,_),(8,_)] rfl (?_))))
    refine Wd (Wa rfl rfl (Wa rfl rfl (Wa rfl rfl (Yj rfl rfl (s.ext x1) hlt (hx i hlt) fun p => Jp rfl rfl (C126 (y := ys[i]) (z := z) (g.ext x1 fun r => r)) ?_))))
    rintro _ h2 ⟨rfl,x2⟩
    refine Wc [(0,_),(1,_),(5,_),(7,_),(8,_),(16,_)] rfl (?_)
    refine Wn rfl (fun hc => ?_) (fun hc => ?_)
    · refine Wd (Wa rfl rfl (Wa rfl rfl (Wc [(4,_)] rfl (?_))))
      refine Xo (Ws.mk _ rfl ⟨_,rfl,?_,x1.then0 x2⟩)
      rw [decide_eq_true (by omega : (0 : Int) ≤ (i : Int))]
      exact (List.any_eq_true.2 ⟨_,List.getElem_mem hlt,hc⟩).symm
    · refine Ya (Wl (Wa rfl rfl (Wa rfl rfl (Wk [(0,_),(1,_),(7,_),(8,_)] rfl (?_)))))
      refine ⟨ys.length - (i + 1),by omega,i + 1,by rw [Zi (by omega)],by omega,rfl,x1.then0 x2,?_⟩
      rw [List.take_succ_eq_append_getElem hlt,List.any_append,hA]
      simpa using hc
  · have hin : i = ys.length := by have := of_decide_eq_false hc; omega
    subst hin
    refine Xn (Xp ?_)
    refine Wd (Wa rfl rfl (Wc [(4,_)] rfl (?_)))
    refine Xo (Ws.mk _ rfl ⟨_,rfl,?_,x1⟩)
    rw [List.take_length] at hA
    rw [hA]; rfl
theorem C125 {a : Option Addr} {n c b : Nat} {l : List Value} {ys : List (ByteArray × Nat × Nat)} {z : ByteArray × Nat × Nat} (s : SlA h 3 a n c l) (hn : ys.length = n) (hx : ∀ j (hj : j < ys.length),(l.drop (j * 3)).take 3 = exC ys[j]) (hl : n ≤ 1000000) (g : At h b (.cells (exC z) 0 false)) :
    Fn Try.prog 125 [.slice a n c,.func (.func 126) ⟨[]⟩ ⟨[ptr b]⟩] h fun v h' => v = .bool (ys.any (fun y => y.1.toList == z.1.toList)) ∧ Xe h h' := by
  refine fnK F125.fok rfl ?_
  refine Wd (Wa rfl rfl (Wc [(0,_),(1,_)] rfl (?_)))
  refine Wd (Wa rfl rfl (Wa rfl rfl (Wb rfl (C160 s hn hx hl g) ?_)))
  rintro _ h1 ⟨r,rfl,hr,x1⟩
  refine Wi (w := .bool (ys.any (fun y => y.1.toList == z.1.toList))) rfl rfl (by rw [← hr]) (Wa rfl rfl (Wc [(4,_)] rfl (?_)))
  exact Xo (Ws.mk _ rfl ⟨rfl,x1⟩)
variable {x : CX} {p : Nat} {e : Int}
set_option maxHeartbeats 1000000 in
theorem C66 (q : Cx h x) (g : At h p (.cells (x.ck e) 0 false)) : Fn Try.prog 66 [ptr p] h fun v h' => Xe h h' := by
  have fl := q.fl
  have L := q.lay
  refine fnK F66.fok rfl ?_
  refine Xc (Wd (Wa rfl rfl (Wa rfl rfl (Wa rfl rfl (Wa rfl rfl (We (v := .slice x.fa x.fs.length x.fc) rfl g rfl (Wa rfl rfl (Wa rfl rfl (Wc [(0,_),(14,_),(15,_),(16,_)] rfl ?_)))))))))
  refine Wt ?_
  refine Xy (fun k e h' => ∃ i : Nat,e = [(0,ptr p),(14,.slice x.fa x.fs.length x.fc),(15,.int .i64 (x.fs.length : Int)),(16,.int .i64 (i : Int))] ∧ i ≤ x.fs.length ∧ k = x.fs.length - i ∧ Xe h h') ?_ (k := x.fs.length) ⟨0,rfl,Nat.zero_le _,rfl,Ext.refl _ _⟩
  rintro k e1 h1 ⟨i,rfl,hi,rfl,x1⟩
  have g1 := g.ext x1 fun r => r
  refine Wd (Wa rfl rfl (Wc [(0,_),(14,_),(15,_),(16,_),(17,_)] rfl (?_)))
  refine Wo rfl (fun hc => ?_) (fun hc => ?_)
  · have hlt : i < x.fs.length := by have := of_decide_eq_true hc; omega
    have hf := q.f6 _ (List.getElem_mem hlt)
    refine Wr (Wt ?_)
    refine Wd (Xx (u := .int .u32 (x.fs[i] : Int)) rfl rfl (q.sf.ext x1) ⟨by omega,by omega⟩ (by simp [hlt]) fun _ => Wa rfl rfl (Wc [(0,_),(3,_),(14,_),(15,_),(16,_)] rfl ?_))
    refine Wl (Wa rfl rfl (Wa rfl rfl (Wa rfl rfl (Wa rfl rfl (Wa rfl rfl (Wa rfl rfl (We (v := .slice x.d.ta 6 x.d.tc) rfl g1 rfl (Wa rfl rfl (Wb rfl (C122 (n := x.fs[i]) (m := 6) (by omega) (by decide)) ?_)))))))))
    rintro _ _ ⟨rfl,rfl⟩
    refine Wi (w := .bool false) rfl rfl (by rw [decide_eq_true hf]; rfl) (Wb rfl (Ud g1) ?_)
    rintro _ _ rfl
    refine Wk [(0,_),(14,_),(15,_),(16,_)] rfl (?_)
    refine Wl (Wa rfl rfl (Wa rfl rfl (Wk [(0,_),(14,_),(15,_),(16,_)] rfl (?_))))
    exact ⟨x.fs.length - (i + 1),by omega,i + 1,by rw [Zi (by omega)],by omega,rfl,x1⟩
  clear hi hc
  refine Xn (Xp ?_)
  refine Xc (Wd (Wa rfl rfl (Wa rfl rfl (Wa rfl rfl (Wa rfl rfl (We (v := .slice (some ⟨x.d.bt,0,none⟩) 1 1) rfl g1 rfl (Wa rfl rfl (Wa rfl rfl (Wc [(0,_),(36,_),(37,_),(38,_)] rfl (?_))))))))))
  refine Wt ?_
  refine Xy (fun k e h' => ∃ i : Nat,e = [(0,ptr p),(36,.slice (some ⟨x.d.bt,0,none⟩) 1 1),(37,.int .i64 1),(38,.int .i64 (i : Int))] ∧ i ≤ 1 ∧ k = 1 - i ∧ Xe h h') ?_ (k := 1) ⟨0,rfl,Nat.zero_le _,rfl,x1⟩
  clear x1 g1
  rintro k e1 h1 ⟨i,rfl,hi,rfl,x1⟩
  have g1 := g.ext x1 fun r => r
  have q1 := q.ext0 x1
  refine Wd (Wa rfl rfl (Wc [(0,_),(36,_),(37,_),(38,_),(39,_)] rfl (?_)))
  refine Wo rfl (fun hc => ?_) (fun hc => ?_)
  · obtain rfl : i = 0 := by have := of_decide_eq_true hc; omega
    refine Wr (Wt ?_)
    refine Wd (Yj rfl rfl (Uo q1.lay.gt rfl rfl) (Nat.zero_lt_one) (r := tbC x.d.tx x.d.th) rfl fun _ => Xh fun h2 n2 x2 g2 => Wm (l := tbC x.d.tx x.d.th) rfl rfl rfl rfl g2 (by simp) rfl fun h3 n3 x3 g3 => Wc [(0,_),(5,_),(36,_),(37,_),(38,_)] rfl ?_)
    have x13 : Xe h1 h3 := x2.then x3 fun j r => .inr (by omega)
    refine Wl (Wa rfl rfl (Wa rfl rfl (Xj (l := [.int .u32 4,.int .u32 x.d.tx,.bool x.d.th]) rfl g3 (Nat.le_refl 4) rfl (Wb rfl (C123 (fun e => by have := q.lay.th e; omega)) ?_))))
    rintro _ h4 ⟨rfl,x4⟩
    have x14 := x13.then0 x4
    refine Wb rfl (Ud (g1.ext x14 fun r => r)) ?_
    rintro _ _ rfl
    refine Wk [(0,_),(36,_),(37,_),(38,_)] rfl (?_)
    refine Wl (Wa rfl rfl (Wa rfl rfl (Wk [(0,_),(36,_),(37,_),(38,_)] rfl (?_))))
    exact ⟨0,by omega,1,rfl,by omega,rfl,x1.then0 x14⟩
  clear hi hc
  refine Xn (Xp ?_)
  refine Xc (Wd (Wa rfl rfl (Wa rfl rfl (Wa rfl rfl (Wa rfl rfl (We (v := .slice (some ⟨x.d.bm,0,none⟩) 1 1) rfl g1 rfl (Wa rfl rfl (Wa rfl rfl (Wc [(0,_),(52,_),(53,_),(54,_)] rfl (?_))))))))))
  refine Wt ?_
  refine Xy (fun k e h' => ∃ i : Nat,e = [(0,ptr p),(52,.slice (some ⟨x.d.bm,0,none⟩) 1 1),(53,.int .i64 1),(54,.int .i64 (i : Int))] ∧ i ≤ 1 ∧ k = 1 - i ∧ Xe h h') ?_ (k := 1) ⟨0,rfl,Nat.zero_le _,rfl,x1⟩
  clear x1 g1 q1
  rintro k e1 h1 ⟨i,rfl,hi,rfl,x1⟩
  have g1 := g.ext x1 fun r => r
  have q1 := q.ext0 x1
  refine Wd (Wa rfl rfl (Wc [(0,_),(52,_),(53,_),(54,_),(55,_)] rfl (?_)))
  refine Wo rfl (fun hc => ?_) (fun hc => ?_)
  · obtain rfl : i = 0 := by have := of_decide_eq_true hc; omega
    have hmv := q.lay.mv
    refine Wr (Wt ?_)
    refine Wd (Yj rfl rfl (Uo q1.lay.gm rfl rfl) (Nat.zero_lt_one) (r := meC x.d.mv) rfl fun _ => Xh fun h2 n2 x2 g2 => Wm (l := meC x.d.mv) rfl rfl rfl rfl g2 (by simp) rfl fun h3 n3 x3 g3 => Wc [(0,_),(7,_),(52,_),(53,_),(54,_)] rfl ?_)
    have x13 : Xe h1 h3 := x2.then x3 fun j r => .inr (by omega)
    refine Wl (Wa rfl rfl (Xj (l := meC x.d.mv) rfl g3 (Nat.le_refl 3) rfl (Wb rfl (C123 (fun e => by cases e)) ?_)))
    rintro _ h4 ⟨rfl,x4⟩
    have x14 := x13.then0 x4
    have g34 := At.ext (show At h3 h1.next _ from g3) x4 fun r => r
    refine Wa rfl rfl (Wh rfl (Wa rfl rfl (Wh rfl (We (v := .int .u32 x.d.mv) rfl g34 rfl (Wh rfl ?_)))))
    refine Wi (w := .bool false) rfl rfl (by congr 1; exact decide_eq_false (by omega)) (Wa rfl rfl (Wa rfl rfl (Wh rfl (Wa rfl rfl (Wh rfl (We (v := .bool false) rfl g34 rfl (Wh rfl (Wa rfl rfl (Wg rfl (Wg rfl (Wg rfl (Wh rfl (Wa rfl rfl (Wa rfl rfl ?_))))))))))))))
    refine Wb rfl (Ud (g1.ext x14 fun r => r)) ?_
    rintro _ _ rfl
    refine Wk [(0,_),(52,_),(53,_),(54,_)] rfl (?_)
    refine Wl (Wa rfl rfl (Wa rfl rfl (Wk [(0,_),(52,_),(53,_),(54,_)] rfl (?_))))
    exact ⟨0,by omega,1,rfl,by omega,rfl,x1.then0 x14⟩
  clear hi hc
  refine Xn (Xp ?_)
  refine Wd (Wa rfl rfl (Wa rfl rfl (Wa rfl rfl (Wa rfl rfl (Wa rfl rfl (We (v := .slice (some ⟨x.d.bm,0,none⟩) 1 1) rfl g1 rfl (Wa rfl rfl (Wa rfl rfl (Wb rfl (Ud g1) ?_)))))))))
  rintro _ _ rfl
  refine Wc [(0,_)] rfl (?_)
  refine Wd (Wa rfl rfl (Wa rfl rfl (Wa rfl rfl (Wa rfl rfl (We (v := .slice (some ⟨x.d.bg,0,none⟩) 2 1) rfl g1 rfl (Wa rfl rfl (Wa rfl rfl (Wc [(0,_),(90,_),(91,_),(92,_)] rfl (?_)))))))))
  refine Ze ?_
  refine Xy (fun k e h' => ∃ i : Nat,e = [(0,ptr p),(90,.slice (some ⟨x.d.bg,0,none⟩) 2 1),(91,.int .i64 2),(92,.int .i64 (i : Int))] ∧ i ≤ 2 ∧ k = 2 - i ∧ Xe h h') ?_ (k := 2) ⟨0,rfl,Nat.zero_le _,rfl,x1⟩
  clear x1 g1 q1
  rintro k e1 h1 ⟨i,rfl,hi,rfl,x1⟩
  have g1 := g.ext x1 fun r => r
  have q1 := q.ext0 x1
  refine Wd (Wa rfl rfl (Wc [(0,_),(90,_),(91,_),(92,_),(93,_)] rfl (?_)))
  refine Wo rfl (fun hc => ?_) (fun hc => ?_)
  · have hlt : i < 2 := by have := of_decide_eq_true hc; omega
    obtain ⟨t,op,b,v,e1,gb,ho⟩ : ∃ (t : Nat) (op : Int) (b v : Nat),((glC x.d.i0 x.d.i1).drop (i * 3)).take 3 = [.int .u8 (t : Int),.bool true,.slice (some ⟨b,0,none⟩) 2 1] ∧ At h1 b (.cells (inC op v) 6 false) ∧ (op = 65 ∧ t = 127 ∨ op = 66 ∧ t = 126) := by
      match i,hlt with
      | 0,_ => exact ⟨127,65,_,_,rfl,q1.lay.g0,.inl ⟨rfl,rfl⟩⟩
      | 1,_ => exact ⟨126,66,_,_,rfl,q1.lay.g1,.inr ⟨rfl,rfl⟩⟩
    refine Wr (Wt ?_)
    refine Wd (Yj rfl rfl (Uo q1.lay.gg rfl rfl) hlt e1 fun _ => Xh fun h2 n2 x2 g2 => Wm (l := [.int .u8 (t : Int),.bool true,.slice (some ⟨b,0,none⟩) 2 1]) rfl rfl rfl rfl g2 (by simp) rfl fun h3 n3 x3 g3 => Wc [(0,_),(9,_),(90,_),(91,_),(92,_)] rfl ?_)
    have x13 : Xe h1 h3 := x2.then x3 fun j r => .inr (by omega)
    refine Wl (Wa rfl rfl (Wa rfl rfl (We (v := .int .u8 (t : Int)) rfl g3 rfl (Wa rfl rfl (We (v := .slice (some ⟨b,0,none⟩) 2 1) rfl g3 rfl (Wb rfl (C124 (a := 0) (v := v) (op := op) (g1.ext x13 fun r => r) (by omega) (gb.ext x13 fun r => r) (ho.elim .inl fun r => .inr (.inl r))) ?_))))))
    rintro _ h4 x4
    refine Wk [(0,_),(90,_),(91,_),(92,_)] rfl (?_)
    refine Wl (Wa rfl rfl (Wa rfl rfl (Wk [(0,_),(90,_),(91,_),(92,_)] rfl (?_))))
    exact ⟨2 - (i + 1),by omega,i + 1,by rw [Zi (by omega)],by omega,rfl,x1.then0 (x13.then0 x4)⟩
  · exact Xn (Xp (Ws.mk _ rfl x1))
end

end
section
/- check: exports, and the start. -/
def exB (n : Nat) (es : List (ByteArray × Nat × Nat)) (i : Nat) : Bool := match es[i]? with
  | some z => (es.take i).any (fun y => y.1.toList == z.1.toList) || (decide (4 ≤ z.2.1) || !decide (z.2.2 < ([n,1,1,2] : List Nat).getD z.2.1 0))
  | none => false
def Ub (n : Nat) (es : List (ByteArray × Nat × Nat)) (i : Nat) : Bool := (List.range i).any (exB n es)
theorem exBs_succ (n : Nat) (es : List (ByteArray × Nat × Nat)) (i : Nat) : Ub n es (i + 1) = (Ub n es i || exB n es i) := by
  unfold Ub; rw [List.range_succ,List.any_append]; simp
def tyB (f : Nat) : Bool := match TM.types[f]? with
  | some p => decide (0 < p.1.length + p.2.length)
  | none => true
def CX.stB (x : CX) : Bool := match x.fs[x.sx]? with
  | some f => tyB f
  | none => true
def CX.bad (x : CX) : Bool := Ub x.fs.length x.es x.es.length || (x.st && x.stB)
abbrev ck6 (b : Bool) : Int := if b = true then 6 else 0
theorem ck6_or (a b : Bool) : (if b = true ∧ ck6 a = 0 then (6 : Int) else ck6 a) = ck6 (a || b) := by
  cases a <;> cases b <;> rfl
section
variable {h : Heap} {x : CX} {p : Nat}
set_option maxHeartbeats 2000000 in
theorem C67 {h0 : Heap} (q0 : Cx h0 x) (y0 : Xe h0 h) (hp : h0.next ≤ p) (g : At h p (.cells (x.ck 0) 0 false)) : Fn Try.prog 67 [ptr p] h fun v h' => At h' p (.cells (x.ck (ck6 x.bad)) 0 false) ∧ Ext (· = p) h h' := by
  have fl := q0.fl
  have xl := q0.xl
  have pl := g.lt
  refine fnK F67.fok rfl ?_
  refine Wd (Wa rfl rfl (Wa rfl rfl (Wa rfl rfl (Xj (l := x.mc) rfl g (by simp) rfl (Xh fun h2 n2 x2 g2 => Wm (l := x.mc) rfl rfl rfl rfl g2 (by simp) rfl fun h3 n3 x3 g3 => Wc [(0,_),(2,_)] rfl (?_))))))
  replace g3 : At h3 h.next (.cells x.mc 0 false) := g3
  have x03 : Xe h h3 := x2.then x3 fun j r => .inr (by omega)
  refine Wd (Wa rfl rfl (We (v := .slice x.fa x.fs.length x.fc) rfl g3 rfl (Wa rfl rfl (Wa rfl rfl (We (v := .slice (some ⟨x.d.bt,0,none⟩) 1 1) rfl g3 rfl (Wa rfl rfl (Wa rfl rfl (We (v := .slice (some ⟨x.d.bm,0,none⟩) 1 1) rfl g3 rfl (Wa rfl rfl (Wa rfl rfl (We (v := .slice (some ⟨x.d.bg,0,none⟩) 2 1) rfl g3 rfl (Wa rfl rfl ?_))))))))))))
  refine Wj (l := [.int .i64 (x.fs.length : Int),.int .i64 1,.int .i64 1,.int .i64 2]) rfl rfl fun h4 n4 x4 g4 => Wa rfl rfl (Wc [(0,_),(2,_),(3,_)] rfl (?_))
  have x04 : Xe h h4 := x03.then0 x4
  replace g4 : At h4 h3.next (.cells [.int .i64 (x.fs.length : Int),.int .i64 1,.int .i64 1,.int .i64 2] 1 false) := g4
  replace g3 : At h4 h.next (.cells x.mc 0 false) := g3.ext x4 fun r => r
  have hbs : h.next ≤ h3.next := x03.next
  generalize hB : h.next = B at g3 ⊢
  generalize hZ : h3.next = Z at g4 ⊢
  have hpB : p ≠ B := by omega
  have hpZ : p ≠ Z := by omega
  have ho : ∀ {h' : Heap},Ext (· = p) h h' → Xe h0 h' := fun y => y0.then y fun j r => .inr (by omega)
  refine Xc (Wd (Wa rfl rfl (We (v := .slice x.ea x.es.length x.ec) rfl g3 rfl (Wa rfl rfl (Wa rfl rfl (Wc [(0,_),(2,_),(3,_),(26,_),(27,_),(28,_)] rfl (?_)))))))
  refine Wt ?_
  refine Xy (fun k e h' => ∃ i : Nat,e = [(0,ptr p),(2,ptr B),(3,.slice (some ⟨Z,0,none⟩) 4 1),(26,.slice x.ea x.es.length x.ec),(27,.int .i64 (x.es.length : Int)),(28,.int .i64 (i : Int))] ∧ i ≤ x.es.length ∧ k = x.es.length - i ∧
    At h' p (.cells (x.ck (ck6 (Ub x.fs.length x.es i))) 0 false) ∧ Ext (· = p) h h' ∧ At h' B (.cells x.mc 0 false) ∧ At h' Z (.cells [.int .i64 (x.fs.length : Int),.int .i64 1,.int .i64 1,.int .i64 2] 1 false)) ?_ (k := x.es.length) ⟨0,rfl,Nat.zero_le _,rfl,g.ext x04 fun r => r,x04.of0,g3,g4⟩
  clear g3 g4 x2 x3 x4 g2 n2 n3 n4 x03 x04
  rintro k e h1 ⟨i,rfl,hi,rfl,g1,x1,gB,gZ⟩
  have q1 := q0.ext0 (ho x1)
  refine Wd (Wa rfl rfl (Wc [(0,_),(2,_),(3,_),(26,_),(27,_),(28,_),(29,_)] rfl (?_)))
  refine Wo rfl (fun hc => ?_) (fun hc => ?_)
  · have hlt : i < x.es.length := by have := of_decide_eq_true hc; omega
    have her := q0.er _ (List.getElem_mem hlt)
    have hex := q0.ex i hlt
    have heB : exB x.fs.length x.es i = ((x.es.take i).any (fun y => y.1.toList == x.es[i].1.toList) || (decide (4 ≤ x.es[i].2.1) || !decide (x.es[i].2.2 < ([x.fs.length,1,1,2] : List Nat).getD x.es[i].2.1 0))) := by
      unfold exB; rw [List.getElem?_eq_getElem hlt]
    refine Wr (Zo (fun e h' => e = [(0,ptr p),(2,ptr B),(3,.slice (some ⟨Z,0,none⟩) 4 1),(26,.slice x.ea x.es.length x.ec),(27,.int .i64 (x.es.length : Int)),(28,.int .i64 (i : Int))] ∧ At h' p (.cells (x.ck (ck6 (Ub x.fs.length x.es (i + 1)))) 0 false) ∧ Ext (· = p) h1 h') (Ze ?_) ?_)
    · refine Wd (Wa rfl rfl (Yj rfl rfl q1.se hlt hex fun _ => Xh fun h2 n2 x2 g2 => Wa rfl rfl (Wm (l := exC x.es[i]) rfl rfl rfl rfl g2 (by simp) rfl fun h3 n3 x3 g3 => Wc [(0,_),(2,_),(3,_),(4,_),(5,_),(26,_),(27,_),(28,_)] rfl (?_))))
      replace g3 : At h3 h1.next (.cells (exC x.es[i]) 0 false) := g3
      have x13 : Xe h1 h3 := x2.then x3 fun j r => .inr (by omega)
      have hn1 : h1.next ≠ p := by have := g1.lt; omega
      refine Wd (Wa rfl rfl (We (v := .slice x.ea x.es.length x.ec) rfl (gB.ext x13 fun r => r) rfl (Wa rfl rfl (Jo rfl rfl rfl (q1.se.ext x13).ok (Qq (i := i) (by omega)) ?_))))
      have sub := (q1.se.ext x13).sub (i := 0) (j := i) (Nat.zero_le _) (Nat.le_of_lt hlt)
      have hX : ∀ j (hj : j < (x.es.take i).length),(((x.el.drop (0 * 3)).take ((i - 0) * 3)).drop (j * 3)).take 3 = exC (x.es.take i)[j] := fun j hj => by
        have hji : j < i := by simp at hj; omega
        rw [List.getElem_take,← q0.ex j (by omega),Nat.zero_mul,List.drop_zero,List.drop_take,List.take_take]
        congr 1
        omega
      refine Wa rfl rfl (Wb rfl (C125 sub (by simp; omega) hX (by omega) g3) ?_)
      rintro _ h5 ⟨rfl,x5⟩
      have x15 := x13.then0 x5
      have g5 := At.ext g3 x5 fun r => r
      have gZ5 := gZ.ext x15 fun r => r
      have gB5 := gB.ext x15 fun r => r
      have gp5 := g1.ext x15 fun r => r
      generalize htw : (x.es.take i).any (fun y => y.1.toList == x.es[i].1.toList) = tw at heB ⊢
      refine Wa rfl rfl (Wc [(0,_),(2,_),(3,_),(5,_),(6,_),(26,_),(27,_),(28,_)] rfl (?_))
      have last : ∀ {b : Bool} {v : Value} {h' : Heap},exB x.fs.length x.es i = b → At h' p (.cells (x.ck (if b = true ∧ ck6 (Ub x.fs.length x.es i) = 0 then 6 else ck6 (Ub x.fs.length x.es i))) 0 false) → Ext (· = p) h5 h' →
          At h' p (.cells (x.ck (ck6 (Ub x.fs.length x.es (i + 1)))) 0 false) ∧ Ext (· = p) h1 h' := by
        intro b v h' e1 g' x'
        rw [ck6_or,← e1,← exBs_succ] at g'
        exact ⟨g',x15.of0.trans x'⟩
      cases tw with
      | true =>
        refine Wl (Wa rfl rfl (Wa rfl rfl (Wa rfl rfl (Wg rfl (Wg rfl (Wg rfl (Wg rfl (Wg rfl (Wg rfl (Wa rfl rfl (Wa rfl rfl ?_)))))))))))
        refine Wg rfl (Wg rfl (Wg rfl (Wg rfl (Wg rfl (Wg rfl (Wg rfl (Wg rfl (Wg rfl (Wg rfl (Wg rfl (Wg rfl (Wg rfl (Wg rfl (Wa rfl rfl ?_))))))))))))))
        refine Wb rfl (C121 gp5) ?_
        rintro _ h6 ⟨g6,x6⟩
        exact Wk [(0,_),(2,_),(3,_),(26,_),(27,_),(28,_)] rfl ⟨rfl,last (v := Xl) (by rw [heB]; rfl) g6 x6⟩
      | false =>
        refine Wl (Wa rfl rfl (Wa rfl rfl (Wa rfl rfl (Wh rfl (Wa rfl rfl (Wh rfl (We (v := .int .u8 (x.es[i].2.1 : Int)) rfl g5 rfl (Wh rfl ?_))))))))
        refine Wi (w := .int .i64 (x.es[i].2.1 : Int)) rfl rfl (by rw [w64 (by omega)]) (Wh rfl (Wa rfl rfl (Wh rfl (Wa rfl rfl (Wh rfl ?_)))))
        refine Wi (w := .bool (decide (4 ≤ x.es[i].2.1))) rfl rfl (by congr 1; rw [Bool.eq_iff_iff]; simp; omega) (Wa rfl rfl (Wa rfl rfl ?_))
        by_cases h4 : 4 ≤ x.es[i].2.1
        · rw [decide_eq_true h4]
          refine Wg rfl (Wg rfl (Wg rfl (Wg rfl (Wg rfl (Wg rfl (Wg rfl (Wg rfl (Wg rfl (Wg rfl (Wg rfl (Wg rfl (Wg rfl (Wg rfl (Wa rfl rfl ?_))))))))))))))
          refine Wb rfl (C121 gp5) ?_
          rintro _ h6 ⟨g6,x6⟩
          exact Wk [(0,_),(2,_),(3,_),(26,_),(27,_),(28,_)] rfl ⟨rfl,last (v := Xl) (by rw [heB,decide_eq_true h4]; rfl) g6 x6⟩
        · rw [decide_eq_false h4]
          obtain ⟨sz,hsz,hsl⟩ : ∃ sz : Nat,([.int .i64 (x.fs.length : Int),.int .i64 1,.int .i64 1,.int .i64 2] : List Value)[x.es[i].2.1]? = some (.int .i64 (sz : Int)) ∧ sz ≤ 1000000 ∧ sz = ([x.fs.length,1,1,2] : List Nat).getD x.es[i].2.1 0 := by
            have : x.es[i].2.1 = 0 ∨ x.es[i].2.1 = 1 ∨ x.es[i].2.1 = 2 ∨ x.es[i].2.1 = 3 := by omega
            rcases this with e | e | e | e <;> rw [e]
            · exact ⟨x.fs.length,rfl,by omega,rfl⟩
            · exact ⟨1,rfl,by omega,rfl⟩
            · exact ⟨1,rfl,by omega,rfl⟩
            · exact ⟨2,rfl,by omega,rfl⟩
          refine Wh rfl (Wa rfl rfl (Wh rfl (We (v := .int .u32 (x.es[i].2.2 : Int)) rfl g5 rfl (Wh rfl (Wa rfl rfl (Wh rfl (Wa rfl rfl (Wh rfl (We (v := .int .u8 (x.es[i].2.1 : Int)) rfl g5 rfl (Wh rfl ?_))))))))))
          refine Wi (w := .int .i64 (x.es[i].2.1 : Int)) rfl rfl (by rw [w64 (by omega)]) (Wh rfl (Wa rfl rfl (Wh rfl (Wa rfl rfl (Wh rfl (Wa rfl rfl (Wh rfl ?_)))))))
          refine Wi (v := .int .i64 (if (3 : Int) < (x.es[i].2.1 : Int) then 3 else (x.es[i].2.1 : Int))) (w := .int .i64 (x.es[i].2.1 : Int)) rfl rfl (by rw [if_neg (by omega)]) (Wh rfl ?_)
          refine Xi rfl rfl ⟨by omega,by omega⟩ (Wh rfl (We (v := .int .i64 (sz : Int)) rfl gZ5 (by rw [show 0 + ((x.es[i].2.1 : Nat) : Int).toNat * 1 = x.es[i].2.1 by omega]; exact hsz) (Wh rfl (Wb rfl (C122 her.2 (by omega)) ?_))))
          rintro _ _ ⟨rfl,rfl⟩
          refine Wh rfl (Wa rfl rfl (Wa rfl rfl (Wb rfl (C121 gp5) ?_)))
          rintro _ h6 ⟨g6,x6⟩
          exact Wk [(0,_),(2,_),(3,_),(26,_),(27,_),(28,_)] rfl ⟨rfl,last (v := Xl) (by rw [heB,decide_eq_false h4,← hsl.2]; rfl) g6 x6⟩
    · rintro e h2 ⟨rfl,g2,x2⟩
      refine Wl (Wa rfl rfl (Wa rfl rfl (Wk [(0,_),(2,_),(3,_),(26,_),(27,_),(28,_)] rfl (?_))))
      exact ⟨x.es.length - (i + 1),by omega,i + 1,by rw [Zi (by omega)],by omega,rfl,g2,x1.trans x2,gB.ext x2 fun r => hpB r.symm,gZ.ext x2 fun r => hpZ r.symm⟩
  have hin : i = x.es.length := by have := of_decide_eq_false hc; omega
  subst hin
  have nf := q1.sf.len
  refine Xn (Xp ?_)
  refine Xc (Wd (Wa rfl rfl (We (v := .bool x.st) rfl gB rfl (Wa rfl rfl (Wc [(0,_),(2,_),(69,_)] rfl (?_))))))
  refine Wo rfl (fun hc => ?_) (fun hc => ?_)
  · have hst : x.st = false := by simpa using hc
    refine Yo (Ws.mk _ rfl ⟨?_,x1⟩)
    unfold CX.bad; rw [hst,Bool.false_and,Bool.or_false]; exact g1
  · have hst : x.st = true := by simpa using hc
    have hbad : x.bad = (Ub x.fs.length x.es x.es.length || x.stB) := by unfold CX.bad; rw [hst,Bool.true_and]
    refine Wr (Wd (Wa rfl rfl (Wa rfl rfl (We (v := .int .u32 (x.sx : Int)) rfl gB rfl (Wa rfl rfl (We (v := .slice x.fa x.fs.length x.fc) rfl gB rfl (Wa rfl rfl (Wb rfl (C122 q0.sx (by omega)) ?_))))))))
    rintro _ _ ⟨rfl,rfl⟩
    refine Wa rfl rfl (Wb rfl (C121 g1) ?_)
    rintro _ h2 ⟨g2,x2⟩
    rw [ck6_or] at g2
    have gB2 := gB.ext x2 fun r => hpB r.symm
    have q2 := q0.ext0 (ho (x1.trans x2))
    refine Wc [(0,_),(2,_)] rfl (?_)
    refine Wd (Wa rfl rfl (Wa rfl rfl (Wa rfl rfl (We (v := .int .i64 _) rfl g2 rfl (Wa rfl rfl (Wc [(0,_),(2,_),(83,_)] rfl (?_)))))))
    by_cases hb : (Ub x.fs.length x.es x.es.length || !decide (x.sx < x.fs.length)) = true
    · rw [hb] at g2
      refine Wn (t := false) (by rw [hb]; rfl) (fun hc => by cases hc) (fun _ => Ya (Ws.mk _ rfl ⟨?_,x1.trans x2⟩))
      have : x.bad = true := by
        rw [hbad]
        cases hE : Ub x.fs.length x.es x.es.length with
        | true => rfl
        | false =>
          rw [hE] at hb
          have hn : ¬ x.sx < x.fs.length := by simpa using hb
          unfold CX.stB; rw [List.getElem?_eq_none (by omega)]; rfl
      rw [this]; exact g2
    · have hb' : (Ub x.fs.length x.es x.es.length || !decide (x.sx < x.fs.length)) = false := by simpa using hb
      rw [hb'] at g2
      obtain ⟨hE,hs⟩ := Bool.or_eq_false_iff.1 hb'
      have hlt : x.sx < x.fs.length := by simpa using hs
      have hf6 := q0.f6 _ (List.getElem_mem hlt)
      obtain ⟨ps,hps⟩ : ∃ ps,TM.types[x.fs[x.sx]]? = some ps := ⟨_,List.getElem?_eq_getElem hf6⟩
      obtain ⟨pa,pc,ra,rc,t1,t2,t3,_,_⟩ := q2.lay.tys _ ps hps
      have hpl : ps.1.length ≤ 2 ∧ ps.2.length ≤ 2 := by
        have : ∀ q ∈ TM.types,q.1.length ≤ 2 ∧ q.2.length ≤ 2 := by decide
        exact this _ (List.mem_of_getElem? hps)
      refine Wn (t := true) (by rw [hb']; rfl) (fun _ => ?_) (fun hc => by cases hc)
      refine Wd (Wa rfl rfl (We (v := .slice x.d.ta 6 x.d.tc) rfl gB2 rfl (Wa rfl rfl (We (v := .slice x.fa x.fs.length x.fc) rfl gB2 rfl (Wa rfl rfl (We (v := .int .u32 (x.sx : Int)) rfl gB2 rfl (Xx (u := .int .u32 (x.fs[x.sx] : Int)) rfl rfl q2.sf ⟨by omega,by omega⟩ (by simp [hlt]) fun _ => Yj rfl rfl q2.lay.st hf6 t1 fun _ => ?_)))))))
      refine Xh fun h3 n3 x3 g3 => Wm (l := [.slice pa ps.1.length pc,.slice ra ps.2.length rc]) rfl rfl rfl rfl g3 (by simp) rfl fun h4 n4 x4 g4 => Wc [(0,_),(7,_)] rfl (?_)
      have x24 : Xe h2 h4 := x3.then x4 fun j r => .inr (by omega)
      refine Wl (Wa rfl rfl (Wa rfl rfl (We (v := .slice pa ps.1.length pc) rfl g4 rfl (Wa rfl rfl (Wa rfl rfl (We (v := .slice ra ps.2.length rc) rfl g4 rfl (Wa rfl rfl ?_)))))))
      refine Wi (w := .int .i64 ((ps.1.length + ps.2.length : Nat) : Int)) rfl rfl (by rw [w64 (by omega)]; rfl) (Wi (w := .bool (decide (0 < ps.1.length + ps.2.length))) rfl rfl (by congr 1; rw [Bool.eq_iff_iff]; simp; omega) (Wb rfl (C121 (g2.ext x24 fun r => r)) ?_))
      rintro _ h5 ⟨g5,x5⟩
      refine Wk [] rfl (Ws.mk _ rfl ⟨?_,(x1.trans x2).trans (x24.of0.trans x5)⟩)
      have e5 := ck6_or false (decide (0 < ps.1.length + ps.2.length))
      have : x.bad = (false || decide (0 < ps.1.length + ps.2.length)) := by
        rw [hbad,hE]; unfold CX.stB tyB; rw [List.getElem?_eq_getElem hlt]; simp only [hps]
      rw [this,← e5]; exact g5
end

end
section
/- check: limits, segments, bodies, modules. -/
section
variable {h : Heap} {x : CX} {p : Nat} {e : Int}
set_option maxHeartbeats 1000000 in
theorem C70 (q : Cx h x) (g : At h p (.cells (x.ck e) 0 false)) : Fn Try.prog 70 [ptr p] h fun v h' => Xe h h' := by
  refine fnK F70.fok rfl ?_
  refine Xc (Wd (Wa rfl rfl (Wa rfl rfl (Wa rfl rfl (Wa rfl rfl (We (v := .slice (some ⟨x.d.bm,0,none⟩) 1 1) rfl g rfl (Wa rfl rfl (Wa rfl rfl (Wc [(0,_),(10,_),(11,_),(12,_)] rfl (?_))))))))))
  refine Wt ?_
  refine Xy (fun k e h' => ∃ i : Nat,e = [(0,ptr p),(10,.slice (some ⟨x.d.bm,0,none⟩) 1 1),(11,.int .i64 1),(12,.int .i64 (i : Int))] ∧ i ≤ 1 ∧ k = 1 - i ∧ Xe h h') ?_ (k := 1) ⟨0,rfl,Nat.zero_le _,rfl,Ext.refl _ _⟩
  rintro k e1 h1 ⟨i,rfl,hi,rfl,x1⟩
  have g1 := g.ext x1 fun r => r
  have q1 := q.ext0 x1
  refine Wd (Wa rfl rfl (Wc [(0,_),(10,_),(11,_),(12,_),(13,_)] rfl (?_)))
  refine Wo rfl (fun hc => ?_) (fun hc => ?_)
  · obtain rfl : i = 0 := by have := of_decide_eq_true hc; omega
    have hmv := q.lay.mv
    refine Wr (Wt ?_)
    refine Wd (Yj rfl rfl (Uo q1.lay.gm rfl rfl) (Nat.zero_lt_one) (r := meC x.d.mv) rfl fun _ => Xh fun h2 n2 x2 g2 => Wm (l := meC x.d.mv) rfl rfl rfl rfl g2 (by simp) rfl fun h3 n3 x3 g3 => Wc [(0,_),(3,_),(10,_),(11,_),(12,_)] rfl ?_)
    have x13 : Xe h1 h3 := x2.then x3 fun j r => .inr (by omega)
    refine Wl (Wa rfl rfl (Wa rfl rfl (We (v := .int .u32 x.d.mv) rfl g3 rfl ?_)))
    refine Wi (w := .bool false) rfl rfl (by congr 1; exact decide_eq_false (by omega)) (Wb rfl (Ud (g1.ext x13 fun r => r)) ?_)
    rintro _ _ rfl
    refine Wk [(0,_),(10,_),(11,_),(12,_)] rfl (?_)
    refine Wl (Wa rfl rfl (Wa rfl rfl (Wk [(0,_),(10,_),(11,_),(12,_)] rfl (?_))))
    exact ⟨0,by omega,1,rfl,by omega,rfl,x1.then0 x13⟩
  clear hi hc
  refine Xn (Xp ?_)
  refine Wd (Wa rfl rfl (Wa rfl rfl (Wa rfl rfl (Wa rfl rfl (We (v := .slice (some ⟨x.d.bt,0,none⟩) 1 1) rfl g1 rfl (Wa rfl rfl (Wa rfl rfl (Wc [(0,_),(26,_),(27,_),(28,_)] rfl (?_)))))))))
  refine Ze ?_
  refine Xy (fun k e h' => ∃ i : Nat,e = [(0,ptr p),(26,.slice (some ⟨x.d.bt,0,none⟩) 1 1),(27,.int .i64 1),(28,.int .i64 (i : Int))] ∧ i ≤ 1 ∧ k = 1 - i ∧ Xe h h') ?_ (k := 1) ⟨0,rfl,Nat.zero_le _,rfl,x1⟩
  clear x1 g1 q1
  rintro k e1 h1 ⟨i,rfl,hi,rfl,x1⟩
  have g1 := g.ext x1 fun r => r
  have q1 := q.ext0 x1
  refine Wd (Wa rfl rfl (Wc [(0,_),(26,_),(27,_),(28,_),(29,_)] rfl (?_)))
  refine Wo rfl (fun hc => ?_) (fun hc => ?_)
  · obtain rfl : i = 0 := by have := of_decide_eq_true hc; omega
    refine Wr (Wt ?_)
    refine Wd (Yj rfl rfl (Uo q1.lay.gt rfl rfl) (Nat.zero_lt_one) (r := tbC x.d.tx x.d.th) rfl fun _ => Xh fun h2 n2 x2 g2 => Wm (l := tbC x.d.tx x.d.th) rfl rfl rfl rfl g2 (by simp) rfl fun h3 n3 x3 g3 => Wc [(0,_),(5,_),(26,_),(27,_),(28,_)] rfl ?_)
    have x13 : Xe h1 h3 := x2.then x3 fun j r => .inr (by omega)
    refine Wl (Wa rfl rfl (Wa rfl rfl (Wa rfl rfl (We (v := .int .u32 4) rfl g3 rfl (Wa rfl rfl (Wb rfl (Ud (g1.ext x13 fun r => r)) ?_))))))
    rintro _ _ rfl
    refine Wk [(0,_),(26,_),(27,_),(28,_)] rfl (?_)
    refine Wl (Wa rfl rfl (Wa rfl rfl (Wk [(0,_),(26,_),(27,_),(28,_)] rfl (?_))))
    exact ⟨0,by omega,1,rfl,by omega,rfl,x1.then0 x13⟩
  · exact Xn (Xp (Ws.mk _ rfl x1))
set_option maxHeartbeats 2000000 in
theorem C68 (q : Cx h x) (g : At h p (.cells (x.ck e) 0 false)) : Fn Try.prog 68 [ptr p] h fun v h' => Xe h h' := by
  have fl := q.fl
  refine fnK F68.fok rfl ?_
  refine Wd (Wa rfl rfl (Wa rfl rfl (Wa rfl rfl (Xj (l := x.mc) rfl g (by simp) rfl (Xh fun h2 n2 x2 g2 => Wm (l := x.mc) rfl rfl rfl rfl g2 (by simp) rfl fun h3 n3 x3 g3 => Wc [(0,_),(2,_)] rfl (?_))))))
  replace g3 : At h3 h.next (.cells x.mc 0 false) := g3
  have x03 : Xe h h3 := x2.then x3 fun j r => .inr (by omega)
  generalize hB : h.next = B at g3 ⊢
  clear x2 x3 n2 n3 g2
  refine Xc (Wd (Wa rfl rfl (We (v := .slice (some ⟨x.d.be,0,none⟩) 2 1) rfl g3 rfl (Wa rfl rfl (Wa rfl rfl (Wc [(0,_),(2,_),(14,_),(15,_),(16,_)] rfl (?_)))))))
  refine Wt ?_
  refine Xy (fun k e h' => ∃ i : Nat,e = [(0,ptr p),(2,ptr B),(14,.slice (some ⟨x.d.be,0,none⟩) 2 1),(15,.int .i64 2),(16,.int .i64 (i : Int))] ∧ i ≤ 2 ∧ k = 2 - i ∧ Xe h h' ∧ At h' B (.cells x.mc 0 false)) ?_ (k := 2) ⟨0,rfl,Nat.zero_le _,rfl,x03,g3⟩
  clear x03 g3
  rintro k e1 h1 ⟨i,rfl,hi,rfl,x1,gB⟩
  have g1 := g.ext x1 fun r => r
  have q1 := q.ext0 x1
  refine Wd (Wa rfl rfl (Wc [(0,_),(2,_),(14,_),(15,_),(16,_),(17,_)] rfl (?_)))
  refine Wo rfl (fun hc => ?_) (fun hc => ?_)
  · have hlt : i < 2 := by have := of_decide_eq_true hc; omega
    obtain ⟨md,off,e1,hcl,ho⟩ : ∃ (md : Int) (off : Value),((elC x.d.bo x.d.ia x.d.ic).drop (i * 5)).take 5 = [.int .u8 md,.int .u8 112,.int .u32 0,off,.slice x.d.ia 3 x.d.ic] ∧ isCell off = true ∧ (md = 0 ∧ off = .slice (some ⟨x.d.bo,0,none⟩) 2 1 ∨ md = 1) := by
      match i,hlt with
      | 0,_ => exact ⟨0,_,rfl,rfl,.inl ⟨rfl,rfl⟩⟩
      | 1,_ => exact ⟨1,_,rfl,rfl,.inr rfl⟩
    refine Wr (Wt ?_)
    refine Wd (Yj rfl rfl (Uo q1.lay.ge rfl rfl) hlt e1 fun _ => Xh fun h2 n2 x2 g2 => Wm (l := [.int .u8 md,.int .u8 112,.int .u32 0,off,.slice x.d.ia 3 x.d.ic]) rfl rfl rfl rfl g2 (by simp) (show (isCell off && true) = true by rw [hcl]; rfl) fun h3 n3 x3 g3 => Wc [(0,_),(2,_),(4,_),(14,_),(15,_),(16,_)] rfl ?_)
    replace g3 : At h3 h1.next (.cells [.int .u8 md,.int .u8 112,.int .u32 0,off,.slice x.d.ia 3 x.d.ic] 0 false) := g3
    have x13 : Xe h1 h3 := x2.then x3 fun j r => .inr (by omega)
    generalize h1.next = E at g3 ⊢
    refine Zo (fun e h' => ∃ l,e = [(0,ptr p),(2,ptr B),(4,ptr E),(14,.slice (some ⟨x.d.be,0,none⟩) 2 1),(15,.int .i64 2),(16,.int .i64 (i : Int))] ++ l ∧ Xe h3 h') (Wd ?_) ?_
    · refine Wa rfl rfl (We (v := .int .u8 md) rfl g3 rfl (Wa rfl rfl (Wc [(0,_),(2,_),(4,_),(14,_),(15,_),(16,_),(22,_)] rfl (?_))))
      rcases ho with ⟨rfl,rfl⟩ | rfl
      · refine Wn (t := true) rfl (fun _ => ?_) (fun hc => by cases hc)
        have gt3 := q1.lay.gt.ext x13 fun r => r
        have gB3 := gB.ext x13 fun r => r
        have gp3 := g1.ext x13 fun r => r
        refine Wd (Wa rfl rfl (Wa rfl rfl (We (v := .int .u32 0) rfl g3 rfl (Wa rfl rfl (We (v := .slice (some ⟨x.d.bt,0,none⟩) 1 1) rfl gB3 rfl (Wa rfl rfl (Wb rfl (C122 (n := 0) (m := 1) (by decide) (by decide)) ?_)))))))
        rintro _ _ ⟨rfl,rfl⟩
        refine Wa rfl rfl (Wa rfl rfl (Wh rfl (Wa rfl rfl (Wh rfl (We (v := .slice (some ⟨x.d.bt,0,none⟩) 1 1) rfl gB3 rfl (Wh rfl (Wa rfl rfl (Wh rfl (We (v := .int .u32 0) rfl g3 rfl (Wh rfl (Xi rfl rfl ⟨by decide,by decide⟩ ?_)))))))))))
        refine Wh rfl (Wa rfl rfl (Wh rfl (We (v := .int .u8 112) rfl gt3 rfl (Wh rfl (Wa rfl rfl (Wh rfl (We (v := .int .u8 112) rfl g3 rfl (Wh rfl (Wa rfl rfl (Wa rfl rfl (Wb rfl (Ud gp3) ?_)))))))))))
        rintro _ _ rfl
        refine Wc [(0,_),(2,_),(4,_),(14,_),(15,_),(16,_)] rfl (?_)
        refine Wl (Wa rfl rfl (Wa rfl rfl (We (v := .slice (some ⟨x.d.bo,0,none⟩) 2 1) rfl g3 rfl (Wb rfl (C124 (t := 127) (a := 0) (op := 65) gp3 (by omega) (q1.lay.go.ext x13 fun r => r) (.inl ⟨rfl,rfl⟩)) ?_))))
        rintro _ h4 x4
        exact Wk [(0,_),(2,_),(4,_),(14,_),(15,_),(16,_)] rfl ⟨[],rfl,x4⟩
      · exact Wn (t := false) rfl (fun hc => by cases hc) (fun _ => Ya ⟨[(22,.bool false)],rfl,Ext.refl _ _⟩)
    · rintro e h4 ⟨l,rfl,x4⟩
      have g4 := g3.ext x4 fun r => r
      have x14 := x13.then0 x4
      have gB4 := gB.ext x14 fun r => r
      refine Wd (Wa rfl rfl (We (v := .slice x.d.ia 3 x.d.ic) rfl g4 rfl (Wa rfl rfl (Wa rfl rfl (Wc [(0,_),(2,_),(4,_),(14,_),(15,_),(16,_),(49,_),(50,_),(51,_)] rfl (?_))))))
      refine Ze ?_
      refine Xy (fun k e h' => ∃ j : Nat,e = [(0,ptr p),(2,ptr B),(4,ptr E),(14,.slice (some ⟨x.d.be,0,none⟩) 2 1),(15,.int .i64 2),(16,.int .i64 (i : Int)),(49,.slice x.d.ia 3 x.d.ic),(50,.int .i64 3),(51,.int .i64 (j : Int))] ∧ j ≤ 3 ∧ k = 3 - j ∧ Xe h4 h') ?_ (k := 3) ⟨0,rfl,Nat.zero_le _,rfl,Ext.refl _ _⟩
      rintro k e2 h5 ⟨j,rfl,hj,rfl,x5⟩
      have x15 := x14.then0 x5
      have q5 := q1.ext0 x15
      refine Wd (Wa rfl rfl (Wc [(0,_),(2,_),(4,_),(14,_),(15,_),(16,_),(49,_),(50,_),(51,_),(52,_)] rfl (?_)))
      refine Wo rfl (fun hc => ?_) (fun hc => ?_)
      · have hj3 : j < 3 := by have := of_decide_eq_true hc; omega
        obtain ⟨b,op,a,f1,f2,_,f3⟩ := q5.lay.ii j hj3
        refine Wr (Wt ?_)
        refine Wd (Xx (u := .slice (some ⟨b,0,none⟩) 2 1) rfl rfl q5.lay.si ⟨by omega,by omega⟩ (by rw [Int.toNat_natCast]; exact f1) fun _ => Wa rfl rfl (Wc [(0,_),(2,_),(4,_),(6,_),(14,_),(15,_),(16,_),(49,_),(50,_),(51,_)] rfl (?_)))
        refine Wl (Wa rfl rfl (Wa rfl rfl (We (v := .int .u8 112) rfl (g4.ext x5 fun r => r) rfl (Wa rfl rfl (Wb rfl (C124 (t := 112) (a := a) (v := 0) (op := op) (g1.ext x15 fun r => r) (by omega) f2 (by
          have := q.fd
          rcases f3 with ⟨r1,r2⟩ | ⟨r1,r2⟩
          · exact .inr (.inr (.inr ⟨r1,rfl,by omega⟩))
          · exact .inr (.inr (.inl ⟨r1,rfl,r2⟩)))) ?_)))))
        rintro _ h6 x6
        refine Wk [(0,_),(2,_),(4,_),(14,_),(15,_),(16,_),(49,_),(50,_),(51,_)] rfl (?_)
        refine Wl (Wa rfl rfl (Wa rfl rfl (Wk [(0,_),(2,_),(4,_),(14,_),(15,_),(16,_),(49,_),(50,_),(51,_)] rfl (?_))))
        exact ⟨3 - (j + 1),by omega,j + 1,by rw [Zi (by omega)],by omega,rfl,x5.then0 x6⟩
      · refine Xn (Xp ?_)
        refine Wl (Wa rfl rfl (Wa rfl rfl (Wk [(0,_),(2,_),(14,_),(15,_),(16,_)] rfl (?_))))
        exact ⟨2 - (i + 1),by omega,i + 1,by rw [Zi (by omega)],by omega,rfl,x1.then0 x15,gB.ext x15 fun r => r⟩
  clear hi hc
  refine Xn (Xp ?_)
  refine Wd (Wa rfl rfl (We (v := .slice (some ⟨x.d.bd,0,none⟩) 2 1) rfl gB rfl (Wa rfl rfl (Wa rfl rfl (Wc [(0,_),(2,_),(63,_),(64,_),(65,_)] rfl (?_))))))
  refine Ze ?_
  refine Xy (fun k e h' => ∃ i : Nat,e = [(0,ptr p),(2,ptr B),(63,.slice (some ⟨x.d.bd,0,none⟩) 2 1),(64,.int .i64 2),(65,.int .i64 (i : Int))] ∧ i ≤ 2 ∧ k = 2 - i ∧ Xe h h' ∧ At h' B (.cells x.mc 0 false)) ?_ (k := 2) ⟨0,rfl,Nat.zero_le _,rfl,x1,gB⟩
  clear x1 gB g1 q1
  rintro k e1 h1 ⟨i,rfl,hi,rfl,x1,gB⟩
  have g1 := g.ext x1 fun r => r
  have q1 := q.ext0 x1
  refine Wd (Wa rfl rfl (Wc [(0,_),(2,_),(63,_),(64,_),(65,_),(66,_)] rfl (?_)))
  refine Wo rfl (fun hc => ?_) (fun hc => ?_)
  · have hlt : i < 2 := by have := of_decide_eq_true hc; omega
    obtain ⟨y1,m2,o2,y2,gd,c1,c2,hd⟩ := q1.lay.gd
    obtain ⟨md,off,y,e1,hcl,hcy,ho⟩ : ∃ (md : Int) (off y : Value),(([.int .u8 1,Xf,y1,m2,o2,y2] : List Value).drop (i * 3)).take 3 = [.int .u8 md,off,y] ∧ isCell off = true ∧ isCell y = true ∧ (md = 1 ∨ md = 0 ∧ ∃ b v,off = .slice (some ⟨b,0,none⟩) 2 1 ∧ At h1 b (.cells (inC 65 v) 6 false)) := by
      match i,hlt with
      | 0,_ => exact ⟨1,Xf,y1,rfl,rfl,c1,.inl rfl⟩
      | 1,_ =>
        rcases hd with ⟨rfl,rfl⟩ | ⟨rfl,b,v,rfl,_,gb⟩
        · exact ⟨1,Xf,y2,rfl,rfl,c2,.inl rfl⟩
        · exact ⟨0,_,y2,rfl,rfl,c2,.inr ⟨rfl,b,v,rfl,gb⟩⟩
    refine Wr (Wt ?_)
    refine Wd (Yj rfl rfl (Uo gd rfl rfl) hlt e1 fun _ => Xh fun h2 n2 x2 g2 => Wm (l := [.int .u8 md,off,y]) rfl rfl rfl rfl g2 (by simp) (show (isCell off && (isCell y && true)) = true by rw [hcl,hcy]; rfl) fun h3 n3 x3 g3 => Wc [(0,_),(2,_),(8,_),(63,_),(64,_),(65,_)] rfl ?_)
    replace g3 : At h3 h1.next (.cells [.int .u8 md,off,y] 0 false) := g3
    have x13 : Xe h1 h3 := x2.then x3 fun j r => .inr (by omega)
    refine Wd (Wa rfl rfl (We (v := .int .u8 md) rfl g3 rfl (Wa rfl rfl (Wc [(0,_),(2,_),(8,_),(63,_),(64,_),(65,_),(71,_)] rfl (?_)))))
    rcases ho with rfl | ⟨rfl,b,v,rfl,gb⟩
    · refine Wn (t := false) rfl (fun hc => by cases hc) (fun _ => Ya ?_)
      refine Wl (Wa rfl rfl (Wa rfl rfl (Wk [(0,_),(2,_),(63,_),(64,_),(65,_)] rfl (?_))))
      exact ⟨2 - (i + 1),by omega,i + 1,by rw [Zi (by omega)],by omega,rfl,x1.then0 x13,gB.ext x13 fun r => r⟩
    · refine Wn (t := true) rfl (fun _ => ?_) (fun hc => by cases hc)
      have gp3 := g1.ext x13 fun r => r
      refine Wd (Wa rfl rfl (Wa rfl rfl (We (v := .slice (some ⟨x.d.bm,0,none⟩) 1 1) rfl (gB.ext x13 fun r => r) rfl (Wa rfl rfl (Wa rfl rfl (Wb rfl (Ud gp3) ?_))))))
      rintro _ _ rfl
      refine Wc [(0,_),(2,_),(8,_),(63,_),(64,_),(65,_)] rfl (?_)
      refine Wl (Wa rfl rfl (Wa rfl rfl (We (v := .slice (some ⟨b,0,none⟩) 2 1) rfl g3 rfl (Wb rfl (C124 (t := 127) (a := 0) (v := v) (op := 65) gp3 (by omega) (gb.ext x13 fun r => r) (.inl ⟨rfl,rfl⟩)) ?_))))
      rintro _ h4 x4
      have x14 := x13.then0 x4
      refine Wk [(0,_),(2,_),(63,_),(64,_),(65,_)] rfl (?_)
      refine Wl (Wa rfl rfl (Wa rfl rfl (Wk [(0,_),(2,_),(63,_),(64,_),(65,_)] rfl (?_))))
      exact ⟨2 - (i + 1),by omega,i + 1,by rw [Zi (by omega)],by omega,rfl,x1.then0 x14,gB.ext x14 fun r => r⟩
  · exact Xn (Xp (Ws.mk _ rfl x1))
end

end
section
/- check: bodies, whole modules. -/
theorem Wops_elG {P : Program} {rest : List SOp} {e : Env} {h : Heap} {Q : Env → Heap → Prop} {n c t1 sz : Nat} {d2 : Option Nat} {g : Nat × Bool} {x i : Arg} {a : Option Addr} {l r : List Value} {k : IntKind} {j : Nat} (hx : x.ev e = some (.slice a n c)) (hi : i.ev e = some (.int k j)) (s : SlA h sz a n c l) (hj : j < n)
    (hr : (l.drop (j * sz)).take sz = r) (hg : ∀ p,SOp.wanted ⟨d2,some g,.ld sz true (.t t1)⟩ (Env.put e (some t1) p) = some true) (hq : ∀ p,Xd P rest (Env.put (Env.put e (some t1) p) d2 (.agg ⟨r⟩)) h Q) : Xd P (⟨some t1,.none,.iaV sz x i⟩ :: ⟨d2,some g,.ld sz true (.t t1)⟩ :: rest) e h Q := by
  obtain ⟨id,off,vs,ez,ro,rfl,g,hl,hw,_⟩ := s.at (by omega)
  have h1 : (j + 1) * sz ≤ n * sz := Nat.mul_le_mul_right _ (by omega)
  rw [Nat.add_mul,Nat.one_mul] at h1
  refine Xi hx hi ⟨by omega,by omega⟩ (Wh (hg _) (Xj (l := r) (show (bif t1.beq t1 then _ else _) = _ by rw [Nat.beq_refl]; rfl) g ?_ ?_ (hq _)))
  · rw [Int.toNat_natCast]; omega
  · rw [Int.toNat_natCast,← hr,hw,List.drop_take,List.take_take,List.drop_drop]
    congr 1
    omega
def CX.Bod (h0 : Heap) (x : CX) : Prop := ∀ h,Xe h0 h → ∀ i (hi : i < x.fs.length),∃ (pa ra la ba : Option Addr) (pn pc rn rc ln lc bn bc : Nat),(x.d.ty.drop (x.fs[i] * 2)).take 2 = [.slice pa pn pc,.slice ra rn rc] ∧ (x.cl.drop (i * 2)).take 2 = [.slice la ln lc,.slice ba bn bc] ∧
    Fn Try.prog 16 [.agg ⟨x.mc⟩,.agg ⟨[.slice pa pn pc,.slice ra rn rc]⟩,.agg ⟨[.slice la ln lc,.slice ba bn bc]⟩] h fun v h' => v = .int .i64 0 ∧ Xe h h'
section
variable {h : Heap} {x : CX} {p : Nat} {e : Int}
set_option maxHeartbeats 1000000 in
theorem C69 {h0 : Heap} (q0 : Cx h0 x) (y0 : Xe h0 h) (g : At h p (.cells (x.ck e) 0 false)) (hB : e = 0 → x.Bod h0) : Fn Try.prog 69 [ptr p] h fun v h' => Xe h h' := by
  have fl := q0.fl
  have cn := q0.cn
  refine fnK F69.fok rfl ?_
  refine Wd (Wa rfl rfl (Wa rfl rfl (Wa rfl rfl (Wa rfl rfl (We (v := .slice x.ca x.cn x.cc) rfl g rfl (Wa rfl rfl (Wa rfl rfl (Wc [(0,_),(8,_),(9,_),(10,_)] rfl (?_)))))))))
  refine Ze ?_
  refine Xy (fun k e h' => ∃ i : Nat,e = [(0,ptr p),(8,.slice x.ca x.cn x.cc),(9,.int .i64 (x.cn : Int)),(10,.int .i64 (i : Int))] ∧ i ≤ x.cn ∧ k = x.cn - i ∧ Xe h h') ?_ (k := x.cn) ⟨0,rfl,Nat.zero_le _,rfl,Ext.refl _ _⟩
  rintro k e1 h1 ⟨i,rfl,hi,rfl,x1⟩
  have g1 := g.ext x1 fun r => r
  have q1 := q0.ext0 (y0.then0 x1)
  refine Wd (Wa rfl rfl (Wc [(0,_),(8,_),(9,_),(10,_),(11,_)] rfl (?_)))
  refine Wo rfl (fun hc => ?_) (fun hc => ?_)
  · have hlt : i < x.cn := by have := of_decide_eq_true hc; omega
    have hlf : i < x.fs.length := by omega
    have hf6 := q0.f6 _ (List.getElem_mem hlf)
    obtain ⟨la,ba,ln,lc,bn,bc,e1⟩ := q0.cl i hlt
    refine Wr (Wt ?_)
    refine Wd (Wa rfl rfl (Yj rfl rfl q1.sc hlt e1 fun _ => Xh fun h2 n2 x2 g2 => Wa rfl rfl (Wm (l := [.slice la ln lc,.slice ba bn bc]) rfl rfl rfl rfl g2 (by simp) rfl fun h3 n3 x3 g3 => Wc [(0,_),(2,_),(3,_),(8,_),(9,_),(10,_)] rfl (?_))))
    replace g3 : At h3 h1.next (.cells [.slice la ln lc,.slice ba bn bc] 0 false) := g3
    have x13 : Xe h1 h3 := x2.then x3 fun j r => .inr (by omega)
    have gp3 := g1.ext x13 fun r => r
    have q3 := q1.ext0 x13
    refine Wd (Wa rfl rfl (Wa rfl rfl (Wa rfl rfl (We (v := .int .i64 e) rfl gp3 rfl (Wa rfl rfl (Wc [(0,_),(2,_),(3,_),(8,_),(9,_),(10,_),(19,_)] rfl (?_)))))))
    refine Wn rfl (fun he => ?_) (fun he => ?_)
    · obtain rfl : e = 0 := eq_of_beq he
      obtain ⟨pa,ra,la',ba',pn,pc,rn,rc,ln',lc',bn',bc',t1,t2,C⟩ := hB rfl h3 ((y0.then0 x1).then0 x13) i hlf
      rw [e1] at t2
      obtain ⟨rfl,rfl,rfl⟩ : la = la' ∧ ln = ln' ∧ lc = lc' := by simpa using List.head_eq_of_cons_eq t2
      obtain ⟨rfl,rfl,rfl⟩ : ba = ba' ∧ bn = bn' ∧ bc = bc' := by simpa using List.head_eq_of_cons_eq (List.tail_eq_of_cons_eq t2)
      refine Wl (Wa rfl rfl (Wa rfl rfl (Wi (w := .int .u32 (i : Int)) rfl rfl (by rw [Ut (by omega)]) (Wa rfl rfl (Wa rfl rfl (Wa rfl rfl (Wa rfl rfl (We (v := .slice x.fa x.fs.length x.fc) rfl gp3 rfl (Wa rfl rfl (Wb rfl (C122 (n := i) (m := x.fs.length) (by omega) (by omega)) ?_))))))))))
      rintro _ _ ⟨rfl,rfl⟩
      refine Wi (w := .bool false) rfl rfl (by rw [decide_eq_true hlf]; rfl) (Wa rfl rfl (Wh rfl (Wa rfl rfl (Wh rfl (Wa rfl rfl (Wh rfl (Wa rfl rfl (Wh rfl (Xj (l := x.mc) rfl gp3 (by simp) rfl ?_)))))))))
      refine Wh rfl (Wa rfl rfl (Wh rfl (Wa rfl rfl (Wh rfl (Wa rfl rfl (Wh rfl (Wa rfl rfl (Wh rfl (We (v := .slice x.d.ta 6 x.d.tc) rfl gp3 rfl ?_)))))))))
      refine Wh rfl (Wa rfl rfl (Wh rfl (Wa rfl rfl (Wh rfl (Wa rfl rfl (Wh rfl (Wa rfl rfl (Wh rfl (We (v := .slice x.fa x.fs.length x.fc) rfl gp3 rfl ?_)))))))))
      refine Wh rfl (Wa rfl rfl (Wh rfl (Wops_idxG (u := .int .u32 (x.fs[i] : Int)) rfl rfl q3.sf ⟨by omega,by omega⟩ (by simp [hlf]) (fun _ => rfl) fun _ => Wh rfl (Wops_elG rfl rfl q3.lay.st hf6 t1 (fun _ => rfl) fun _ => ?_))))
      refine Wh rfl (Xj (l := [.slice la ln lc,.slice ba bn bc]) rfl g3 (by simp) rfl (Wh rfl (Wb rfl C ?_)))
      rintro _ h4 ⟨rfl,x4⟩
      have x14 := x13.then0 x4
      refine Wh rfl (Wa rfl rfl (Wa rfl rfl (Wb rfl (Ud (g1.ext x14 fun r => r)) ?_)))
      rintro _ _ rfl
      refine Wk [(0,_),(8,_),(9,_),(10,_)] rfl (?_)
      refine Wl (Wa rfl rfl (Wa rfl rfl (Wk [(0,_),(8,_),(9,_),(10,_)] rfl (?_))))
      exact ⟨x.cn - (i + 1),by omega,i + 1,by rw [Zi (by omega)],by omega,rfl,x1.then0 x14⟩
    · refine Ya (Wl (Wa rfl rfl (Wa rfl rfl (Wk [(0,_),(8,_),(9,_),(10,_)] rfl (?_)))))
      exact ⟨x.cn - (i + 1),by omega,i + 1,by rw [Zi (by omega)],by omega,rfl,x1.then0 x13⟩
  · exact Xn (Xp (Ws.mk _ rfl x1))
set_option maxHeartbeats 1000000 in
theorem C21 (q : Cx h x) (hc : x.mc.all isCell = true) (hB : x.bad = false → x.Bod h) : Fn Try.prog 21 [.agg ⟨x.mc⟩] h fun v h' => v = .int .i64 (ck6 x.bad) ∧ Xe h h' := by
  refine fnK F21.fok rfl ?_
  refine Wd (Ye (cs := x.mc) rfl rfl fun h1 n1 x1 g1 => Wa rfl rfl (Wc [(1,_)] rfl (?_)))
  refine Wd (Xj (l := x.mc) rfl g1 (by simp) rfl (Wa rfl rfl (Ye (cs := x.ck 0) rfl rfl fun h2 n2 x2 g2 => Wa rfl rfl (Wc [(3,_)] rfl (?_)))))
  have y2 : Xe h h2 := x1.then0 x2
  have hp : h.next ≤ h1.next := x1.next
  replace g2 : At h2 h1.next (.cells (x.ck 0) 0 false) := g2
  generalize h1.next = p at g2 hp ⊢
  refine Wd (Wa rfl rfl (Wb rfl (C66 (q.ext0 y2) g2) ?_))
  rintro _ h3 x3
  have y3 := y2.then0 x3
  have g3 := g2.ext x3 fun r => r
  refine Wc [(3,_)] rfl (?_)
  refine Wd (Wa rfl rfl (Wb rfl (C67 q y3 hp g3) ?_))
  rintro _ h4 ⟨g4,x4⟩
  have y4 : Xe h h4 := y3.then x4 fun j r => .inr (by omega)
  refine Wc [(3,_)] rfl (?_)
  refine Wd (Wa rfl rfl (Wb rfl (C68 (q.ext0 y4) g4) ?_))
  rintro _ h5 x5
  have y5 := y4.then0 x5
  have g5 := g4.ext x5 fun r => r
  refine Wc [(3,_)] rfl (?_)
  refine Wd (Wa rfl rfl (Wb rfl (C69 q y5 g5 (fun e => hB (by cases hb : x.bad with | true => rw [hb] at e; cases e | false => rfl))) ?_))
  rintro _ h6 x6
  have y6 := y5.then0 x6
  have g6 := g5.ext x6 fun r => r
  refine Wc [(3,_)] rfl (?_)
  refine Wd (Wa rfl rfl (Wb rfl (C70 (q.ext0 y6) g6) ?_))
  rintro _ h7 x7
  have g7 := g6.ext x7 fun r => r
  refine Wc [(3,_)] rfl (?_)
  refine Wd (Wa rfl rfl (Wa rfl rfl (Wa rfl rfl (We (v := .int .i64 (ck6 x.bad)) rfl g7 rfl (Wa rfl rfl (Wc [(2,_)] rfl (?_)))))))
  exact Xo (Ws.mk _ rfl ⟨rfl,y6.then0 x7⟩)
end

end
section
/- check: bodies of made modules fit, with one more function, too. -/
open VS (Okv MM)
abbrev xM (fs X : List Nat) : Mo := { mkM fs with funcs := fs ++ X,decl := List.replicate fs.length true ++ List.replicate X.length false }
theorem getD_app {α : Type} {l m : List α} {i : Nat} (d : α) (h : i < l.length) : (l ++ m).getD i d = l.getD i d := by
  rw [List.getD_eq_getElem?_getD,List.getD_eq_getElem?_getD,List.getElem?_append_left h]
theorem one_more {fs X L : List Nat} {s : VS} {x : Ins} (hb : (s.one (mkM fs) L x).bad = false) : s.one (xM fs X) L x = s.one (mkM fs) L x := by
  by_cases h16 : x.op = 16
  · have c1 : ∀ M,s.control M x = some (s.calls M x.a) := fun M => by unfold VS.control; simp [h16]
    rw [VS.one_c (c1 _)] at hb
    rw [VS.one_c (c1 _),VS.one_c (c1 _)]
    unfold VS.calls at hb ⊢
    by_cases hf : x.a < fs.length
    · rw [if_pos (show x.a < (mkM fs).funcs.length from hf),if_pos (show x.a < (xM fs X).funcs.length by show x.a < (fs ++ X).length; rw [List.length_append]; omega)]
      show VS.fits ((s.function (mkM fs) ((fs ++ X).getD x.a 0)).1.1) ((s.function (mkM fs) ((fs ++ X).getD x.a 0)).1.2) (s.function (mkM fs) ((fs ++ X).getD x.a 0)).2 = _
      rw [getD_app 0 hf]
    · rw [if_neg (show ¬ x.a < (mkM fs).funcs.length from hf)] at hb
      simp [VS.fails] at hb
  · have e1 : s.control (xM fs X) x = s.control (mkM fs) x := by
      unfold VS.control
      rw [if_neg h16,if_neg h16]
      rfl
    by_cases h210 : x.op = 210
    · have c0 : ∀ M,s.control M x = none := fun M => by unfold VS.control; simp [h210]
      have c1 : ∀ M,s.places M L x = some ((s.fails (!(decide (x.a < M.funcs.length) && M.decl.getD x.a false))).push [112]) := fun M => by unfold VS.places; simp [h210]
      have o : ∀ M,s.one M L x = (s.fails (!(decide (x.a < M.funcs.length) && M.decl.getD x.a false))).push [112] := fun M => by unfold VS.one; rw [c0,c1]
      rw [o] at hb
      rw [o,o]
      have hc : (decide (x.a < (mkM fs).funcs.length) && (mkM fs).decl.getD x.a false) = true := by
        cases hq : (decide (x.a < (mkM fs).funcs.length) && (mkM fs).decl.getD x.a false) with
        | true => rfl
        | false => rw [hq] at hb; simp [VS.fails,VS.push] at hb
      have hf : x.a < fs.length := of_decide_eq_true (Bool.and_eq_true_iff.1 hc).1
      have hd : (decide (x.a < (xM fs X).funcs.length) && (xM fs X).decl.getD x.a false) = true := by
        rw [Bool.and_eq_true_iff]
        refine ⟨decide_eq_true (by show x.a < (fs ++ X).length; rw [List.length_append]; omega),?_⟩
        show (List.replicate fs.length true ++ List.replicate X.length false).getD x.a false = true
        rw [getD_app false (by rw [List.length_replicate]; exact hf)]
        exact (Bool.and_eq_true_iff.1 hc).2
      rw [hc,hd]
    · have e2 : s.places (xM fs X) L x = s.places (mkM fs) L x := by
        unfold VS.places
        rw [if_neg h210,if_neg h210]
        rfl
      unfold VS.one
      rw [e1,e2]
      rfl
theorem ru_more {fs X L : List Nat} {v v' : VS} {w : List IM} (r : Ru (mkM fs) L v w v') : Ru (xM fs X) L v w v' := by
  induction r with
  | nil => exact .nil
  | snoc _ h ok ih => exact .snoc ih (by rw [one_more (by rw [h]; exact ok.bad)]; exact h) ok
theorem xmkS (fs X : List Nat) : VS.Mo.Lp VS.short (xM fs X) := ⟨by decide,(by decide : ∀ t ∈ TM.types,VS.short t.1 ∧ VS.short t.2)⟩
section
variable {h : Heap} {x : CX} {X : List Nat}
structure CX.Ex (x : CX) (X : List Nat) : Prop where
  fx : x.fs = x.d.fs ++ X
  e1 : ∀ j,j < x.d.fs.length → ∃ s,x.es[j]? = some (s,0,j)
  e2 : ∀ e ∈ x.es,e.2.1 = 0 → e.2.2 < x.d.fs.length ∨ x.fs.length ≤ e.2.2
theorem Cx.dcs (q : Cx h x) (E : x.Ex X) : DcS h (fun i => i < h.next) x.mc x.fs.length x.d.fs.length (x.es.map (·.2)) := by
  have L := q.lay
  have f0 := L.f0
  have f3 := L.f3
  have fl := q.fl
  have fd := q.fd
  have xl := q.xl
  have el : (x.es.map (·.2)).length = x.es.length := List.length_map ..
  have e0 : 0 < x.es.length := by obtain ⟨s,hs⟩ := E.e1 0 f0; exact (List.getElem?_eq_some_iff.1 hs).1
  have bl : ∀ {id : Nat} {o : AObj},At h id o → ∀ i,Blk (some ⟨id,0,none⟩) i → i < h.next := fun g i r => by rw [Blk.at] at r; have := g.lt; omega
  have two : ∀ {op : Int} {v : Nat},op ≠ 210 → ∀ y ∈ [im op 0 0 v 0,Ky],y.i.a < 4294967296 ∧ (y.i.op = 210 → y.i.a < x.d.fs.length) := fun ho y hy => by
    simp only [List.mem_cons,List.not_mem_nil,or_false] at hy
    rcases hy with rfl | rfl
    · exact ⟨by show 0 < _; omega,fun e => absurd e ho⟩
    · exact ⟨by show 0 < _; omega,fun e => absurd e (by decide)⟩
  refine ⟨⟨_,_,rfl⟩,?_,?_,?_,fd,?_,?_,by omega,by omega,rfl,rfl⟩
  · refine ⟨_,2,_,_,rfl,Uo L.gg rfl rfl,bl L.gg,by omega,fun i hi => ?_⟩
    match i,hi with
    | 0,_ => exact ⟨_,_,_,_,[im 65 0 0 x.d.v0 0,Ky],rfl,rfl,rfl,Uo L.g0 rfl rfl,bl L.g0,(by show 2 ≤ 1000000; omega),two (by decide)⟩
    | 1,_ => exact ⟨_,_,_,_,[im 66 0 0 x.d.v1 0,Ky],rfl,rfl,rfl,Uo L.g1 rfl rfl,bl L.g1,(by show 2 ≤ 1000000; omega),two (by decide)⟩
  · have hj : ∀ j,j < 3 → ∃ ia ic,∃ w : List IM,x.d.il[j]? = some (.slice ia w.length ic) ∧ SlA h 6 ia w.length ic (en IM.enc w) ∧ (∀ i,Blk ia i → i < h.next) ∧ w.length ≤ 1000000 ∧ ∀ y ∈ w,y.i.a < 4294967296 ∧ (y.i.op = 210 → y.i.a < x.d.fs.length) := fun j hj => by
      obtain ⟨b,op,a,e1,g,hb,ho⟩ := L.ii j hj
      refine ⟨_,_,[im op a 0 0 0,Ky],e1,Uo g rfl rfl,bl g,(by show 2 ≤ 1000000; omega),fun y hy => ?_⟩
      simp only [List.mem_cons,List.not_mem_nil,or_false] at hy
      rcases hy with rfl | rfl
      · refine ⟨by show a < _; omega,fun e => ?_⟩
        show a < _
        have e : op = 210 := e
        omega
      · exact ⟨by decide,fun e => absurd e (by decide)⟩
    refine ⟨_,2,_,_,rfl,Uo L.ge rfl rfl,bl L.ge,by omega,fun i hi => ?_⟩
    match i,hi with
    | 0,_ => exact ⟨_,_,_,_,_,3,_,_,rfl,rfl,L.si,fun i r => SlA.below L.si (by decide) r,by omega,hj⟩
    | 1,_ => exact ⟨_,_,_,_,_,3,_,_,rfl,rfl,L.si,fun i r => SlA.below L.si (by decide) r,by omega,hj⟩
  · refine ⟨x.ea,x.ec,x.el,by rw [el]; rfl,by rw [el]; exact q.se,fun i r => SlA.below q.se e0 r,fun j hj => ⟨(x.es[j]'(by omega)).1,?_⟩⟩
    rw [q.ex j (by omega)]
    simp
  · intro j hj
    obtain ⟨s,hs⟩ := E.e1 j hj
    rw [List.getElem?_map,hs]; rfl
  · intro e he
    obtain ⟨z,hz,rfl⟩ := List.mem_map.1 he
    exact ⟨(q.er z hz).2,E.e2 z hz⟩
theorem Cx.y (q : Cx h x) (E : x.Ex X) : MoY h (xM x.d.fs X) x.mc := by
  intro h1 O pm hn hg hO g hp
  have y : Xe h h1 := ⟨hn,fun i hi _ => hg i hi⟩
  have q1 := q.ext0 y
  have L := q.lay
  have L1 := q1.lay
  have f0 := L.f0
  have f3 := L.f3
  have fl := q.fl
  have fd := q.fd
  have fx : (x.d.fs ++ X).length = x.fs.length := by rw [E.fx]
  have st : ∀ {j : Nat},j < h.next → j < h1.next ∧ ¬ O j := fun {j} r => ⟨by omega,fun o => by have := hO j o; omega⟩
  have bl : ∀ {id : Nat} {o : AObj},At h id o → ∀ i,Blk (some ⟨id,0,none⟩) i → i < h1.next ∧ ¬ O i := fun g i r => by rw [Blk.at] at r; have := g.lt; exact st (by omega)
  refine ⟨g,hp,?_,?_,?_,⟨_,_,rfl⟩,?_,?_,⟨rfl,rfl⟩,⟨_,_,rfl⟩,rfl,rfl,?_,by show (List.replicate x.d.fs.length true ++ List.replicate X.length false).length = (x.d.fs ++ X).length; simp,?_,xmkS _ _,fun t ht => ?_⟩
  · refine ⟨_,_,_,rfl,L1.st,fun i r => st (SlA.below L.st (by decide) r),fun i hi => ?_⟩
    obtain ⟨pa,pc,ra,rc,e1,e2,e3,e4,e5⟩ := L.tys i (TM.types[i]) (List.getElem?_eq_getElem hi)
    exact ⟨pa,pc,ra,rc,e1,⟨e2.ext y,fun j r => st (e4 j r)⟩,⟨e3.ext y,fun j r => st (e5 j r)⟩⟩
  · refine ⟨x.fa,x.fc,?_,?_,fun i r => st (SlA.below q.sf (by omega) r)⟩
    · show some (Value.slice x.fa x.fs.length x.fc) = some (Value.slice x.fa (x.d.fs ++ X).length x.fc)
      rw [fx]
    · show SlA h1 1 x.fa (x.d.fs ++ X).length x.fc (Qc (x.d.fs ++ X))
      rw [← E.fx]; exact q1.sf
  · refine ⟨_,_,_,rfl,Uo L1.gt rfl rfl,bl L.gt,fun i hi => ?_⟩
    match i,hi with
    | 0,_ => rfl
  · refine ⟨_,_,_,rfl,Uo L1.gg rfl rfl,bl L.gg,fun i hi => ?_⟩
    match i,hi with
    | 0,_ => exact ⟨_,rfl,rfl⟩
    | 1,_ => exact ⟨_,rfl,rfl⟩
  · refine ⟨_,_,_,rfl,Uo L1.ge rfl rfl,bl L.ge,fun i hi => ?_⟩
    match i,hi with
    | 0,_ => rfl
    | 1,_ => rfl
  · intro h' hn' hg'
    have x' : Xe h h' := ⟨Nat.le_trans hn hn',fun i hi _ => by rw [hg' i (by omega) (st hi).2,hg i hi]⟩
    have C := C120 ((q.ext0 x').dcs E) fun i r => r
    have e2 : x.fs.length - x.d.fs.length = X.length := by rw [E.fx,List.length_append]; omega
    have e : (xM x.d.fs X).decl.length = x.fs.length := by show (List.replicate x.d.fs.length true ++ List.replicate X.length false).length = _; rw [E.fx]; simp
    rw [e]
    rw [e2] at C
    exact C.mono fun v h2 r => r
  · refine ⟨(by show 6 ≤ 1000000; omega),?_,(by show 1 ≤ 1000000; omega),(by show 2 ≤ 1000000; omega),(by show 2 ≤ 1000000; omega),(by show 2 ≤ 1000000; omega)⟩
    show (x.d.fs ++ X).length ≤ _; omega
  · have ht : t ∈ x.d.fs ++ X := ht
    rw [← E.fx] at ht
    have := q.f6 t ht; omega
theorem Cx.bod (q : Cx h x) (E : x.Ex X) (hc : ∀ i,i < x.d.fs.length → (x.cl.drop (i * 2)).take 2 = (x.d.cl.drop (i * 2)).take 2) (hl : ∀ i (hi : i < x.fs.length),x.d.fs.length ≤ i → x.fs[i] = 0 ∧ ∃ b,(x.cl.drop (i * 2)).take 2 = [Xf,.slice (some ⟨b,0,none⟩) 1 1] ∧ At h b (.cells Zg 6 false)) : x.Bod h := by
  intro h1 y i hi
  have q1 := q.ext0 y
  have L1 := q1.lay
  have f3 := L1.f3
  by_cases hlt : i < x.d.fs.length
  · obtain ⟨la,lc,ba,bc,w,p,e1,sl,bl,sb,bb,lw,hw,⟨f,hf,hp⟩,r⟩ := L1.cd i hlt
    have hf' : f = x.fs[i] := by
      have : x.fs[i]? = some f := by rw [E.fx,List.getElem?_append_left hlt]; exact hf
      rw [List.getElem?_eq_getElem hi] at this; exact (Option.some.inj this).symm
    subst hf'
    obtain ⟨pa,pc,ra,rc,t1,t2,t3,t4,t5⟩ := L1.tys _ p hp
    obtain ⟨hpn,hpt⟩ := VS.MM.par L1.mm hp
    obtain ⟨hrn,hrt⟩ := VS.MM.res L1.mm hp
    refine ⟨pa,ra,la,ba,p.1.length,pc,p.2.length,rc,3,lc,w.length + 1,bc,t1,by rw [hc i hlt]; exact e1,?_⟩
    have hlen : (w ++ [Ky]).length = w.length + 1 := by simp
    have C := C16 (ps := p.1) (rs := p.2) (L0 := [127,126,127]) (bl := w ++ [Ky]) (lc := lc) (bc := bc) (la := la) (ba := ba) (q1.y E) (xmkS _ _) t2 t4 t3 t5 sl bl (by rw [hlen]; exact sb) bb (fun x hx => by
      rcases List.mem_append.1 hx with hx | hx
      · exact ⟨(lw x hx).s,(lw x hx).b,(lw x hx).ok,(lw x hx).kn⟩
      · rw [List.mem_singleton] at hx; subst hx
        exact ⟨SlA.none,fun j r => absurd r Blk.none,ok0 (by omega),.inl (by decide)⟩) (by omega) (by decide) (by omega) (by rw [hlen]; omega)
    rw [hlen,body_ru (ru_more r)] at C
    exact C
  · obtain ⟨h0,b,e1,gb⟩ := hl i hi (by omega)
    have hp : TM.types[x.fs[i]]? = some ([],[]) := by rw [h0]; rfl
    obtain ⟨pa,pc,ra,rc,t1,t2,t3,t4,t5⟩ := L1.tys _ _ hp
    refine ⟨pa,ra,none,some ⟨b,0,none⟩,0,pc,0,rc,0,0,1,1,t1,e1,?_⟩
    have gb1 := gb.ext y fun r => r
    have C := C16 (ps := []) (rs := []) (L0 := []) (bl := [Ky]) (lc := 0) (bc := 1) (la := none) (ba := some ⟨b,0,none⟩) (q1.y E) (xmkS _ _) t2 t4 t3 t5 SlA.none (fun j r => absurd r Blk.none) (Uo gb1 rfl rfl) (fun j r => by rw [Blk.at] at r; have := gb1.lt; omega) (fun x hx => by
      rw [List.mem_singleton] at hx; subst hx
      exact ⟨SlA.none,fun j r => absurd r Blk.none,ok0 (by omega),.inl (by decide)⟩) (by decide) (by decide) (by decide) (by decide)
    have hB : VS.body (xM x.d.fs X) ([] ++ []) [] ([Ky].map IM.i) = true := run_end (M := xM x.d.fs X) (L := []) (rs := [])
    rw [hB] at C
    exact C
end

end
section
/- CheckNames: what its export comes to. -/
theorem toList_loop (b : ByteArray) : ∀ (k i : Nat) (r : List UInt8),b.size - i = k → ByteArray.toList.loop b i r = r.reverse ++ b.data.toList.drop i := by
  intro k
  induction k with
  | zero =>
    intro i r h
    unfold ByteArray.toList.loop
    have hs : b.size = b.data.toList.length := by rw [Array.length_toList]; rfl
    rw [if_neg (by omega),List.drop_of_length_le (by omega),List.append_nil]
  | succ k ih =>
    intro i r h
    unfold ByteArray.toList.loop
    have hs : b.size = b.data.toList.length := by rw [Array.length_toList]; rfl
    have hi : i < b.data.toList.length := by omega
    rw [if_pos (by omega),ih (i + 1) _ (by omega),List.drop_eq_getElem_cons hi,List.reverse_cons,List.append_assoc]
    congr 1
    have : b.get! i = b.data.toList[i] := by
      have h2 : i < b.data.size := by rw [← Array.length_toList]; exact hi
      show b.data[i]! = _
      rw [getElem!_pos b.data i h2,Array.getElem_toList]
    rw [this]; rfl
theorem toList_eq (b : ByteArray) : b.toList = b.data.toList := by
  unfold ByteArray.toList
  rw [toList_loop b _ 0 [] rfl]; rfl
def mes (n : Nat) : List (ByteArray × Nat × Nat) := (List.range n).map fun j => (fnm j,0,j)
theorem Ui (n : Nat) : (mes n).length = n := by simp [mes]
theorem mes_get {n j : Nat} (h : j < n) : (mes n)[j]? = some (fnm j,0,j) := by
  unfold mes; rw [List.getElem?_map,List.getElem?_range h]; rfl
theorem mes_mem {n : Nat} {y : ByteArray × Nat × Nat} (h : y ∈ mes n) : ∃ j,j < n ∧ y = (fnm j,0,j) := by
  obtain ⟨j,hj,rfl⟩ := List.mem_map.1 h
  exact ⟨j,List.mem_range.1 hj,rfl⟩
theorem mes_take {n i : Nat} (h : i ≤ n) : (mes n).take i = mes i := by
  unfold mes; rw [← List.map_take,List.take_range,Nat.min_eq_left h]
theorem fnm_eq : ∀ i,i < 4 → ∀ j,j < 4 → ((fnm i).data.toList == (fnm j).data.toList) = decide (i = j) := by decide
theorem exB_mes {n j : Nat} (hn : n ≤ 3) (hj : j < n) {m : Nat} (hm : n ≤ m) (r : List (ByteArray × Nat × Nat)) : exB m (mes n ++ r) j = false := by
  unfold exB
  rw [List.getElem?_append_left (by rw [Ui]; exact hj),mes_get hj]
  simp only
  rw [List.take_append_of_le_length (by rw [Ui]; omega),mes_take (by omega)]
  have h1 : ((mes j).any fun y => y.1.toList == (fnm j).toList) = false := by
    rw [List.any_eq_false]
    intro y hy
    obtain ⟨i,hi,rfl⟩ := mes_mem hy
    rw [toList_eq,toList_eq,fnm_eq i (by omega) j (by omega)]
    simp; omega
  rw [h1]
  simp; omega
theorem exBs_mes {n m : Nat} (hn : n ≤ 3) (hm : n ≤ m) (r : List (ByteArray × Nat × Nat)) : Ub m (mes n ++ r) n = false := by
  unfold Ub
  rw [List.any_eq_false]
  intro j hj
  rw [exB_mes hn (List.mem_range.1 hj) hm]; simp
theorem all_pieces {sz : Nat} : ∀ (n : Nat) (l : List Value),l.length = n * sz → (∀ j,j < n → ((l.drop (j * sz)).take sz).all isCell = true) → l.all isCell = true
  | 0,l,h,_ => by rw [List.eq_nil_of_length_eq_zero (by omega : l.length = 0)]; rfl
  | n + 1,l,h,p => by
    rw [← List.take_append_drop sz l,List.all_append,Bool.and_eq_true_iff]
    refine ⟨by simpa using p 0 (by omega),all_pieces (sz := sz) n _ (by rw [List.length_drop,h,Nat.add_mul,Nat.one_mul]; omega) fun j hj => ?_⟩
    have := p (j + 1) (by omega)
    rw [Nat.add_mul,Nat.one_mul] at this
    rw [List.drop_drop,Nat.add_comm]; exact this

end
section
/- check: begun (a closed run). -/
noncomputable def chk20 : Bool := match fnR T 1200 20 [] Heap.empty with
  | some (.bool b,_) => b
  | _ => false
set_option maxRecDepth 100000 in
theorem run20 : chk20 = true := by kernel_rfl
theorem C20 {h : Heap} : Fn Try.prog 20 [] h fun v h' => v = .bool true ∧ h = h' := by
  have hc := run20
  unfold chk20 at hc
  split at hc
  · rename_i b h0 hr
    subst hc
    exact Fn.anywhere (R := fun v => v = .bool true) rfl (Uj hr) fun v h' q => ⟨by rw [q.1]; rfl,q.1⟩
  · cases hc

end
section
/- CheckNames: the walk. -/
theorem Cd1.two {h : Heap} {S : Nat → Prop} {fs : List Nat} {cl : List Value} {j : Nat} (c : Cd1 h S fs cl j) : ∃ (la ba : Option Addr) (ln lc bn bc : Nat),(cl.drop (j * 2)).take 2 = [.slice la ln lc,.slice ba bn bc] := by
  obtain ⟨la,lc,ba,bc,w,p,h1,_⟩ := c
  exact ⟨la,ba,3,lc,w.length + 1,bc,h1⟩

end
section
/- CheckStarts: the walk. -/
theorem tyB_pos {f : Nat} (h0 : 0 < f) (h6 : f < 6) : tyB f = true := by
  have : f = 1 ∨ f = 2 ∨ f = 3 ∨ f = 4 ∨ f = 5 := by omega
  rcases this with rfl | rfl | rfl | rfl | rfl <;> rfl
theorem exBs_mes0 {n m : Nat} (hn : n ≤ 3) (hm : n ≤ m) : Ub m (mes n) (mes n).length = false := by
  rw [Ui]
  have := exBs_mes hn hm []
  rwa [List.append_nil] at this
abbrev xS (d : LD) (fa : Option Addr) (fc : Nat) (X : List Nat) (sx : Nat) (ca : Option Addr) (cc : Nat) (cl : List Value) : CX := ⟨d,fa,fc,d.fs ++ X,d.ea,d.ec,mes d.fs.length,d.el,true,sx,ca,cc,d.fs.length + X.length,cl⟩
theorem Lay.mes {h : Heap} {d : LD} (q : Lay h d) (j : Nat) (hj : j < (mes d.fs.length).length) : (d.el.drop (j * 3)).take 3 = exC (mes d.fs.length)[j] := by
  have hlt : j < d.fs.length := by rw [Ui] at hj; exact hj
  have e : (SYtpkefdoleieloaa.mes d.fs.length)[j] = (fnm j,0,j) := by
    have := List.getElem?_eq_getElem hj
    rw [mes_get hlt] at this
    exact (Option.some.inj this).symm
  rw [e,q.ex j hlt]; rfl
theorem xS_ex {d : LD} {fa : Option Addr} {fc : Nat} {X : List Nat} {sx : Nat} {ca : Option Addr} {cc : Nat} {cl : List Value} : (xS d fa fc X sx ca cc cl).Ex X := by
  refine ⟨rfl,fun j hj => ⟨fnm j,mes_get hj⟩,fun e he _ => ?_⟩
  obtain ⟨i,hi,rfl⟩ := mes_mem he
  exact .inl hi
theorem xS_cx {h : Heap} {d : LD} {fa : Option Addr} {fc : Nat} {X : List Nat} {sx : Nat} {ca : Option Addr} {cc : Nat} {cl : List Value} (q : Lay h d) (hX : X = [] ∨ X = [0]) (sf : SlA h 1 fa (d.fs ++ X).length fc (Qc (d.fs ++ X))) (hs : sx < 4294967296) (sc : SlA h 2 ca (d.fs.length + X.length) cc cl)
    (hc : ∀ i,i < d.fs.length + X.length → ∃ (la ba : Option Addr) (ln lc bn bc : Nat),(cl.drop (i * 2)).take 2 = [.slice la ln lc,.slice ba bn bc]) : Cx h (xS d fa fc X sx ca cc cl) := by
  have f3 := q.f3
  have xl : X.length ≤ 1 := by rcases hX with rfl | rfl <;> decide
  have el : (mes d.fs.length).length = d.fs.length := Ui _
  refine ⟨q,sf,fun f hf => ?_,?_,?_,?_,q.mes,?_,fun e he => ?_,hs,sc,?_,hc⟩
  · rcases List.mem_append.1 hf with hf | hf
    · exact (q.f6 f hf).2
    · rcases hX with rfl | rfl
      · cases hf
      · rw [List.mem_singleton] at hf; omega
  · show (d.fs ++ X).length ≤ 4; rw [List.length_append]; omega
  · show d.fs.length ≤ (d.fs ++ X).length; rw [List.length_append]; omega
  · show SlA h 3 d.ea (mes d.fs.length).length d.ec d.el; rw [el]; exact q.se
  · show (mes d.fs.length).length ≤ 4; omega
  · obtain ⟨i,hi,rfl⟩ := mes_mem he
    exact ⟨by show 0 < _; omega,by show i < _; omega⟩
  · show d.fs.length + X.length = (d.fs ++ X).length; rw [List.length_append]
theorem xS_bad {d : LD} {h : Heap} {fa : Option Addr} {fc : Nat} {X : List Nat} {sx : Nat} {ca : Option Addr} {cc : Nat} {cl : List Value} (q : Lay h d) (hX : X = [] ∨ X = [0]) : (xS d fa fc X sx ca cc cl).bad = !(decide (X = [0]) && decide (sx = d.fs.length)) := by
  have f3 := q.f3
  have e1 : (xS d fa fc X sx ca cc cl).bad = (xS d fa fc X sx ca cc cl).stB := by
    show (Ub (d.fs ++ X).length (mes d.fs.length) (mes d.fs.length).length || (true && _)) = _
    rw [exBs_mes0 f3 (by rw [List.length_append]; omega)]; rfl
  rw [e1]
  unfold CX.stB
  show (match (d.fs ++ X)[sx]? with | some f => tyB f | none => true) = _
  by_cases hlt : sx < d.fs.length
  · have hf := q.f6 _ (List.getElem_mem hlt)
    rw [List.getElem?_append_left hlt,List.getElem?_eq_getElem hlt]
    simp only [tyB_pos hf.1 hf.2]
    rw [decide_eq_false (by omega : ¬ sx = d.fs.length),Bool.and_false]; rfl
  · rw [List.getElem?_append_right (by omega)]
    rcases hX with rfl | rfl
    · rfl
    · by_cases he : sx = d.fs.length
      · rw [decide_eq_true he,he,Nat.sub_self]; rfl
      · rw [decide_eq_false he,List.getElem?_eq_none (by simp; omega),Bool.and_false]; rfl
set_option maxHeartbeats 2000000 in
theorem C8 {h : Heap} {xa : Option Addr} {n xc : Nat} {xs : List Int} {w : Bool} {k : Nat} (sx : SlA h 1 xa n xc (Yw .u8 xs)) (bx : ∀ j,Blk xa j → j < h.next) (hl : xs.length = n) (xw : ∀ x ∈ xs,0 ≤ x ∧ x ≤ 255) (hk : k < 256) :
    Fn Try.prog 8 [.slice xa n xc,.int .u8 (k : Int),.bool w] h fun v h' => v = .bool true := by
  subst hl
  have ek : ((k : Int).tmod 6) = ((k % 6 : Nat) : Int) := rfl
  refine fnK F8.fok rfl ?_
  refine Wd (Wa rfl rfl (Wc [(0,_),(1,_),(2,_)] rfl (?_)))
  refine Xc (Wd (Wb rfl C20 ?_))
  rintro _ _ ⟨rfl,rfl⟩
  refine Wa rfl rfl (Wc [(0,_),(1,_),(2,_),(10,_)] rfl ?_)
  refine Wo (t := false) rfl (fun hc => by cases hc) (fun _ => ?_)
  refine Wr (Xc (Wd (Wa rfl rfl (Wa rfl rfl (Wa rfl rfl (Wc [(0,_),(1,_),(2,_),(13,_)] rfl ?_))))))
  refine Wo rfl (fun hc => ?_) (fun hc => ?_)
  · refine Xc (Wd (Wa rfl rfl (Wc [(6,_)] rfl ?_)))
    exact Yo (Ws.mk _ rfl rfl)
  have hxl : xs.length ≤ 150 := by have := of_decide_eq_false hc; omega
  refine Wr (Wd (Wa rfl rfl (Wb rfl C10 ?_)))
  rintro _ h1 ⟨rfl,gp,x1⟩
  refine Wb rfl (C11 gp (sx.ext x1) xw (by omega) fun j r => by have := bx j r; have := x1.next; omega) ?_
  rintro _ h2 ⟨d,rfl,hcell,q2,x2⟩
  refine Xh fun h3 n3 x3 g3 => Wm (l := d.mc) rfl rfl rfl rfl g3 (by simp) rfl fun h4 n4 x4 g4 => Wc [(1,_),(2,_),(7,_)] rfl ?_
  replace g4 : At h4 h2.next (.cells d.mc 0 false) := g4
  have x24 : Xe h2 h4 := x3.then x4 fun j r => .inr (by omega)
  have q4 := q2.ext0 x24
  have hb4 : h2.next < h4.next := g4.lt
  have hB2 : h2.next ≤ h2.next := Nat.le_refl _
  generalize hB : h2.next = B at g4 hb4 ⊢
  replace hB2 : h2.next ≤ B := by omega
  clear hc x1 gp x3 g3 n3 n4 x4
  have f0 := q4.f0
  have f3 := q4.f3
  have lf := q4.sf.len
  have lc := q4.sc.len
  refine Zo (fun e h' => ∃ l fa fc X ca cc cl,e = [(1,.int .u8 (k : Int)),(2,.bool w),(7,ptr B)] ++ l ∧ (X = [] ∨ X = [0]) ∧ decide (X = [0]) = w ∧ Xe h2 h' ∧ At h' B (.cells [.slice d.ta 6 d.tc,.slice fa (d.fs.length + X.length) fc,.slice (some ⟨d.bt,0,none⟩) 1 1,.slice (some ⟨d.bm,0,none⟩) 1 1,.slice (some ⟨d.bg,0,none⟩) 2 1,.slice d.ea d.fs.length d.ec,.bool false,.int .u32 0,.slice (some ⟨d.be,0,none⟩) 2 1,.bool true,.int .u32 2,.slice ca (d.fs.length + X.length) cc,.slice (some ⟨d.bd,0,none⟩) 2 1] 0 false) ∧
    SlA h' 1 fa (d.fs ++ X).length fc (Qc (d.fs ++ X)) ∧ (∀ i,Blk fa i → i ≠ B) ∧ SlA h' 2 ca (d.fs.length + X.length) cc cl ∧ (∀ i,Blk ca i → i ≠ B) ∧ (∀ i,i < d.fs.length → (cl.drop (i * 2)).take 2 = (d.cl.drop (i * 2)).take 2) ∧ (∀ i,d.fs.length ≤ i → i < d.fs.length + X.length → ∃ b,(cl.drop (i * 2)).take 2 = [Xf,.slice (some ⟨b,0,none⟩) 1 1] ∧ At h' b (.cells Zg 6 false) ∧ b ≠ B)) (Wd ?_) ?_
  · refine Wa rfl rfl (Wc [(1,_),(2,_),(7,_),(17,_)] rfl (?_))
    cases w with
    | false =>
      refine Wn (t := false) rfl (fun hc => by cases hc) (fun _ => Ya ⟨[(17,.bool false)],d.fa,d.fc,[],d.ca,d.cc,d.cl,rfl,.inl rfl,rfl,x24,g4,by rw [List.append_nil]; exact q4.sf,fun i r => ?_,q4.sc,fun i r => ?_,fun i hi => rfl,fun i h1 h2 => absurd h2 (by simp; omega)⟩)
      · have := SlA.below q2.sf f0 r; omega
      · have := SlA.below q2.sc f0 r; omega
    | true =>
      refine Wn (t := true) rfl (fun _ => ?_) (fun hc => by cases hc)
      refine Wd (Wj (l := []) rfl rfl fun h5 n5 x5 g5 => Wa rfl rfl (We (v := .slice d.fa d.fs.length d.fc) rfl (g4.ext x5 fun r => r) rfl ?_))
      have o5 : OwS h5 1 (some ⟨h4.next,0,none⟩) 0 0 [] := OwS.new g5 rfl
      refine Xk (m := d.fs.length) rfl rfl o5 rfl (q4.sf.ext x5).first ⟨by omega,by omega⟩ lf (by simp [Qc,isCell]) (by decide) fun h6 a6 c6 x6 o6 b6 => ?_
      have x46 : Xe h4 h6 := x5.then x6 fun i r => .inr (by rw [Blk.at] at r; omega)
      have ba6 : ∀ i,Blk a6 i → h4.next ≤ i := fun i r => by rcases b6 i r with q | q; (rw [Blk.at] at q; omega); (have := x5.next; omega)
      refine Wj (l := [.int .u32 0]) rfl rfl fun h7 n7 x7 g7 => ?_
      have s7 : SlA h7 1 (some ⟨h6.next,0,none⟩) 1 1 [.int .u32 0] := (OwS.new (n := 1) (c := 1) g7 rfl).sl
      refine Xk (m := 1) rfl rfl (o6.ext x7) rfl s7.first ⟨by omega,by omega⟩ rfl rfl (by decide) fun h8 a8 c8 x8 o8 b8 => ?_
      have x48 : Xe h4 h8 := x46.then (x7.of0.trans x8) fun i r => .inr (ba6 i r)
      have ba8 : ∀ i,Blk a8 i → h4.next ≤ i := fun i r => by
        have := x46.next
        have := x7.next
        rcases b8 i r with q | q
        · exact ba6 i q
        · omega
      refine Wa rfl rfl (Wm (l := [.slice a8 (0 + d.fs.length + 1) c8]) rfl rfl rfl rfl (g4.ext x48 fun r => r) (by simp) rfl fun h9 n9 x9 g9 => Wc [(1,_),(2,_),(7,_)] rfl (?_))
      have x29 : Xe h2 h9 := (x24.then0 x48).then x9 fun i r => .inr (by omega)
      have q9 := q2.ext0 x29
      have o9 := o8.ext x9 fun i r e => by have := ba8 i r; omega
      have z49 : h4.next ≤ h9.next := by have := x48.next; omega
      refine Wl (Wj (l := []) rfl rfl fun h10 n10 x10 g10 => Wa rfl rfl (We (v := .slice d.ca d.fs.length d.cc) rfl (At.ext g9 x10 fun r => r) rfl ?_))
      have o10 : OwS h10 2 (some ⟨h9.next,0,none⟩) 0 0 [] := OwS.new g10 rfl
      refine Xk (m := d.fs.length) rfl rfl o10 rfl (q9.sc.ext x10).first ⟨by omega,by omega⟩ lc (all_pieces d.fs.length d.cl lc fun j hj => by obtain ⟨la,ba,ln,lc,bn,bc,e⟩ := (q9.cd j hj).two; rw [e]; rfl) (by decide) fun h11 a11 c11 x11 o11 b11 => ?_
      have x9b : Xe h9 h11 := x10.then x11 fun i r => .inr (by rw [Blk.at] at r; omega)
      have ba11 : ∀ i,Blk a11 i → h9.next ≤ i := fun i r => by rcases b11 i r with q | q; (rw [Blk.at] at q; omega); (have := x10.next; omega)
      refine Wa rfl rfl (Wj (l := Zg) rfl rfl fun h12 n12 x12 g12 => Wa rfl rfl (Wj (l := [Xf,.slice (some ⟨h11.next,0,none⟩) 1 1]) rfl rfl fun h13 n13 x13 g13 => ?_))
      have s13 : SlA h13 2 (some ⟨h12.next,0,none⟩) 1 1 [Xf,.slice (some ⟨h11.next,0,none⟩) 1 1] := (OwS.new (n := 1) (c := 1) g13 rfl).sl
      have x1113 : Xe h11 h13 := x12.then0 x13
      refine Xk (m := 1) rfl rfl (o11.ext x1113) rfl s13.first ⟨by omega,by omega⟩ rfl rfl (by decide) fun h14 a14 c14 x14 o14 b14 => ?_
      have x914 : Xe h9 h14 := x9b.then (x1113.of0.trans x14) fun i r => .inr (ba11 i r)
      have ba14 : ∀ i,Blk a14 i → h9.next ≤ i := fun i r => by
        have := x9b.next
        have := x1113.next
        rcases b14 i r with q | q
        · exact ba11 i q
        · omega
      have ge12 : At h12 h11.next (.cells Zg 6 false) := g12
      have z11 := x9b.next
      have ge14 : At h14 h11.next (.cells Zg 6 false) := (ge12.ext x13 fun r => r).ext x14 fun r => by
        have := o11.lt r; omega
      refine Wa rfl rfl (Wm (l := [.slice a14 (0 + d.fs.length + 1) c14]) rfl rfl rfl rfl (At.ext g9 x914 fun r => r) (by show 12 ≤ 13; omega) rfl fun h15 n15 x15 g15 => Wk [(1,_),(2,_),(7,_)] rfl (?_))
      have x215 : Xe h2 h15 := (x29.then0 x914).then x15 fun i r => .inr (by omega)
      refine ⟨[],a8,c8,[0],a14,c14,d.cl ++ [Xf,.slice (some ⟨h11.next,0,none⟩) 1 1],rfl,.inr rfl,rfl,x215,?_,?_,fun i r => ?_,?_,fun i r => ?_,fun i hi => ?_,fun i h1 h2 => ⟨h11.next,?_,ge14.ext x15 fun r => by omega,by omega⟩⟩
      · show At h15 B (.cells [.slice d.ta 6 d.tc,.slice a8 (d.fs.length + 1) c8,.slice (some ⟨d.bt,0,none⟩) 1 1,.slice (some ⟨d.bm,0,none⟩) 1 1,.slice (some ⟨d.bg,0,none⟩) 2 1,.slice d.ea d.fs.length d.ec,.bool false,.int .u32 0,.slice (some ⟨d.be,0,none⟩) 2 1,.bool true,.int .u32 2,.slice a14 (d.fs.length + 1) c14,.slice (some ⟨d.bd,0,none⟩) 2 1] 0 false)
        rw [show d.fs.length + 1 = 0 + d.fs.length + 1 by omega]
        exact g15
      · have o15 := (o9.ext x914).ext x15 fun i r e => by have := ba8 i r; omega
        have hl : (d.fs ++ [0]).length = 0 + d.fs.length + 1 := by simp
        rw [hl]
        have : Qc (d.fs ++ [0]) = [] ++ Qc d.fs ++ [.int .u32 0] := by simp [Qc]
        rw [this]; exact o15.sl
      · have := ba8 i r; omega
      · have o15 := o14.ext x15 fun i r e => by have := ba14 i r; omega
        rw [show d.fs.length + [0].length = 0 + d.fs.length + 1 by simp]
        exact o15.sl
      · have := ba14 i r; omega
      · rw [List.drop_append_of_le_length (by omega),List.take_append_of_le_length (by rw [List.length_drop]; omega)]
      · obtain rfl : i = d.fs.length := by have h2 : i < d.fs.length + 1 := h2; omega
        rw [List.drop_append,List.drop_of_length_le (by omega),show d.fs.length * 2 - d.cl.length = 0 by omega]
        rfl
  rintro e h16 ⟨l,fa,fc,X,ca,cc,cl,rfl,hX,hw,x216,g16,sf,bf,sc,bc,hc1,hc2⟩
  have wX : X.length = if w = true then 1 else 0 := by rw [← hw]; rcases hX with rfl | rfl <;> rfl
  refine Wd (Wa rfl rfl (Wi (w := .int .u8 ((k % 6 : Nat) : Int)) rfl rfl (congrArg (Value.int .u8) ek) (Wi (w := .int .u32 ((k % 6 : Nat) : Int)) rfl rfl (by rw [Ut (by omega)]) (Wa rfl rfl (Wm (l := [.bool true]) rfl rfl rfl rfl g16 (by simp) rfl fun h17 n17 x17 g17 => Wa rfl rfl (Wm (l := [.int .u32 ((k % 6 : Nat) : Int)]) rfl rfl rfl rfl g17 (by show 8 ≤ 13; omega) rfl fun h18 n18 x18 g18 => Wc [(1,_),(2,_),(7,_)] rfl (?_)))))))
  have x218 : Xe h2 h18 := (x216.then x17 fun i r => .inr (by omega)).then x18 fun i r => .inr (by omega)
  have q18 := q2.ext0 x218
  have sf18 := (sf.ext x17 bf).ext x18 bf
  have sc18 := (sc.ext x17 bc).ext x18 bc
  have lX : (d.fs ++ X).length = d.fs.length + X.length := List.length_append
  have hc3 : ∀ i,d.fs.length ≤ i → i < d.fs.length + X.length → ∃ b,(cl.drop (i * 2)).take 2 = [Xf,.slice (some ⟨b,0,none⟩) 1 1] ∧ At h18 b (.cells Zg 6 false) := fun i h1 h2 => by
    obtain ⟨b,e1,g,hb⟩ := hc2 i h1 h2
    exact ⟨b,e1,(g.ext x17 hb).ext x18 hb⟩
  have X18 : Cx h18 (xS d fa fc X (k % 6) ca cc cl) := xS_cx q18 hX sf18 (by omega) sc18 fun i hi => by
    by_cases hlt : i < d.fs.length
    · rw [hc1 i hlt]; exact (q18.cd i hlt).two
    · obtain ⟨b,e1,_⟩ := hc3 i (by omega) hi
      exact ⟨none,some ⟨b,0,none⟩,0,0,1,1,e1⟩
  have hbad := xS_bad (fa := fa) (fc := fc) (sx := k % 6) (ca := ca) (cc := cc) (cl := cl) q18 hX
  have hbod : (xS d fa fc X (k % 6) ca cc cl).Bod h18 := X18.bod xS_ex hc1 fun i hi hn => by
    have hi : i < (d.fs ++ X).length := hi
    have hn : d.fs.length ≤ i := hn
    refine ⟨?_,hc3 i hn (by omega)⟩
    show (d.fs ++ X)[i] = 0
    rcases hX with rfl | rfl
    · simp at hi; omega
    · obtain rfl : i = d.fs.length := by simp at hi; omega
      simp
  have e18 : putL (putL [.slice d.ta 6 d.tc,.slice fa (d.fs.length + X.length) fc,.slice (some ⟨d.bt,0,none⟩) 1 1,.slice (some ⟨d.bm,0,none⟩) 1 1,.slice (some ⟨d.bg,0,none⟩) 2 1,.slice d.ea d.fs.length d.ec,.bool false,.int .u32 0,.slice (some ⟨d.be,0,none⟩) 2 1,.bool true,.int .u32 2,.slice ca (d.fs.length + X.length) cc,.slice (some ⟨d.bd,0,none⟩) 2 1] (0 + 6) [.bool true]) (0 + 7) [.int .u32 ((k % 6 : Nat) : Int)] = (xS d fa fc X (k % 6) ca cc cl).mc := by
    unfold CX.mc
    rw [show (xS d fa fc X (k % 6) ca cc cl).fs.length = d.fs.length + X.length from lX,show (xS d fa fc X (k % 6) ca cc cl).es.length = d.fs.length from Ui _]; rfl
  rw [e18] at g18
  obtain ⟨x,hx⟩ : ∃ x : CX,x = xS d fa fc X (k % 6) ca cc cl := ⟨_,rfl⟩
  have hfl : x.fs.length = d.fs.length + X.length := by rw [hx]; exact lX
  rw [← hx] at X18 g18 hbad hbod
  replace g18 : At h18 B (.cells x.mc 0 false) := g18
  refine Wd (Wa rfl rfl (Wc [(1,_),(2,_),(7,_),(8,_)] rfl (?_)))
  refine Zo (fun e h' => ∃ l,e = [(7,ptr B),(8,.int .i64 (ck6 x.bad))] ++ l ∧ h18 = h') (Wd ?_) ?_
  · rw [hbad,hw]
    refine Wa rfl rfl (Wa rfl rfl ?_)
    cases w with
    | false =>
      refine Wg rfl (Wg rfl (Wg rfl (Wg rfl (Wg rfl (Wg rfl (Wg rfl (Wg rfl (Wa rfl rfl (Wc [(7,_),(8,_),(50,_)] rfl (?_))))))))))
      exact Wn (t := false) rfl (fun hc => by cases hc) (fun _ => Ya ⟨[(50,.bool false)],rfl,rfl⟩)
    | true =>
      have wl : x.fs.length = d.fs.length + 1 := by rw [hfl,wX]; rfl
      refine Wh rfl (Wa rfl rfl (Wh rfl (Wi (w := .int .u8 ((k % 6 : Nat) : Int)) rfl rfl (congrArg (Value.int .u8) ek) (Wh rfl (Wi (w := .int .i64 ((k % 6 : Nat) : Int)) rfl rfl (by rw [w64 (by omega)]) (Wh rfl (Wa rfl rfl (Wh rfl (We (v := .slice x.fa x.fs.length x.fc) rfl g18 rfl (Wh rfl (Wa rfl rfl (Wh rfl ?_))))))))))))
      refine Wi (w := .int .i64 (d.fs.length : Int)) rfl rfl (by rw [w64 (by omega),wl]; congr 1; omega) (Wh rfl ?_)
      refine Wi (w := .bool (decide (k % 6 = d.fs.length))) rfl rfl (by congr 1; rw [Bool.eq_iff_iff]; simp; omega) (Wa rfl rfl (Wc [(7,_),(8,_),(50,_)] rfl (?_)))
      rw [Bool.true_and]
      refine Wn rfl (fun hc => ?_) (fun hc => ?_)
      · rw [hc]; exact Wl (Wa rfl rfl (Wk [(7,_),(8,_)] rfl ⟨[],rfl,rfl⟩))
      · rw [hc]; exact Ya ⟨[(50,.bool false)],rfl,rfl⟩
  rintro e _ ⟨l,rfl,rfl⟩
  refine Wd (Xj (l := x.mc) rfl g18 (by simp) rfl (Wb rfl (C21 X18 rfl fun _ => hbod) ?_))
  rintro _ h19 ⟨rfl,x19⟩
  refine Wa rfl rfl (Wi (w := .bool true) rfl rfl (by simp) (Wa rfl rfl (Wc [(6,_)] rfl (?_))))
  exact Xo (Ws.mk _ rfl rfl)

end
section
/- CheckStarts: its arguments. -/
set_option maxRecDepth 10000 in
theorem checkStarts_fn {L : List (List Value)} {vs : List Value} (hG : Qx Try.prog 0 [22,5,4] vs L) : Fn Try.prog 8 vs (flatH L) fun v _ => v = .bool true := by
  obtain ⟨a,m,c,l,r,k2,L2,L3,rfl,s,hl,hL,hk2,hF⟩ := flat_slice (P := Try.prog) (k := 0) (t := 22) (ts := [5,4]) (L0 := []) (L := L) (L' := L) Try.underlying22 rfl rfl hG
  obtain ⟨v,r,rfl,hv,hF2⟩ := flat_scal (P := Try.prog) (k := k2) (t := 5) (ts := [4]) (L' := L3) (fun e q => by rw [Try.underlying5] at q; cases q) hF
  obtain ⟨k,rfl,hk⟩ := scal_int Try.underlying5 hv
  obtain ⟨v,r,rfl,hv,hF3⟩ := flat_scal (P := Try.prog) (k := k2) (t := 4) (ts := []) (L' := L3) (fun e q => by rw [Try.underlying4] at q; cases q) hF2
  obtain ⟨w,rfl⟩ := scal_bool Try.underlying4 hv
  obtain rfl := flat_nil hF3
  obtain ⟨xs,rfl,hw⟩ := scal_ints Try.underlying5 hl
  have w1 := wf_u8 hk
  obtain ⟨k',rfl⟩ : ∃ n : Nat,k = n := ⟨k.toNat,by omega⟩
  exact C8 s.sl (fun j r => s.lt j r) (by have := s.sl.len; simpa [Yw] using this) (fun x hx => by have := wf_u8 (hw x hx); omega) (by omega)

end
end Go.Dx.SYtpkefdoleieloaa
