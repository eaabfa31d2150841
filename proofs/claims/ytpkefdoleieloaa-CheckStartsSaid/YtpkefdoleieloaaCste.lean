/- Texts merged: Tm2.lean, Tm3.lean, Tm4.lean. -/
import Derived.Test.YtpkefdoleieloaaCstd
namespace Go.Dx.SYtpkefdoleieloaa
open Go.Proofs
set_option linter.unusedVariables false
set_option linter.unusedSimpArgs false
section
/- Made modules, with types: value, local, ref; what the greater functions keep. -/
section
variable {P : Program} {e : Env} {h : Heap} {kn : Kn} {kx : Nat → Kn} {kr : Kn}
def replS (t : Nat) (v : Value) : Env → Env
  | [] => []
  | (k,u) :: r => bif k.beq t then (k,v) :: r else (k,u) :: replS t v r
theorem K_both {t : Nat} {b1 : Bool} {R : List SOp} {keep : List Nat} {d : SCode} (hc : Arg.ev e (.t t) = some (.bool b1)) (he : replS t (.bool b1) e = e)
    (h2 : Xd P R e h fun e' h' => h' = h ∧ ∃ b,e'.keep keep = replS t (.bool b) e) (hd : ∀ b,W P d (replS t (.bool b) e) h (K3 kn kx kr)) : W P (.seq (.cond (.t t) .skip (.region R keep)) d) e h (K3 kn kx kr) := by
  have hd1 := hd b1
  rw [he] at hd1
  refine Wo hc (fun _ => Wr hd1) (fun _ => Wd (h2.mono ?_))
  rintro e' h' ⟨rfl,b,q⟩
  show W P d (e'.keep keep) _ _
  rw [q]; exact hd b
end
open VS (Okv MM)
theorem Yy {k : IntKind} {L : List Int} {r : Nat} (h : r < L.length) : (Yw k L)[((r : Nat) : Int).toNat]? = some (.int k (L.getD r 0)) := by
  rw [Int.toNat_natCast,List.getElem?_map,List.getD_eq_getElem?_getD,List.getElem?_eq_getElem h]; rfl
theorem Yb {P : Int → Prop} {L : List Int} {r : Nat} (h : ∀ x ∈ L,P x) (hr : r < L.length) : P (L.getD r 0) := by
  rw [List.getD_eq_getElem?_getD,List.getElem?_eq_getElem hr]; exact h _ (List.getElem_mem _)
abbrev nats (k : IntKind) (xs : List Nat) : List Value := xs.map fun (x : Nat) => Value.int k (x : Int)
theorem nats_getD {k : IntKind} {L : List Nat} {r : Nat} (h : r < L.length) : (nats k L)[((r : Nat) : Int).toNat]? = some (.int k ((L.getD r 0 : Nat) : Int)) := by
  rw [Int.toNat_natCast,List.getElem?_map,List.getD_eq_getElem?_getD,List.getElem?_eq_getElem h]; rfl
section
variable {K : Kt} {h h1 : Heap} {s s1 : Sm} {v v1 v2 : VS}
abbrev valL : List Nat := [0,1,2,3,7,65535,65536,2147483647,2147483648,4294967295,9223372036854775808,18446744073709551615,40,100]
theorem Go.c61 (g : Go K h s h1 s1 v v1) : Fn Try.prog 74 [ptr K.pk] h1 fun u h2 => ∃ (N n' : Nat),u = .int .u64 (N : Int) ∧ Go K h s h2 { s1 with n := n' } v v1 ∧ s1.n ≤ n' ∧ pot K { s1 with n := n' } ≤ pot K s1 := by
  refine fnK F74.fok rfl ?_
  refine Wd (Wa rfl rfl (Wc [(0,_)] rfl (?_)))
  refine Wd (Wj (l := nats .u64 valL) rfl rfl fun h2 n2 x2 g2 => ?_)
  have G2 := g.ext0 x2
  refine Wa rfl rfl (Wa rfl rfl (Wa rfl rfl (We (v := ptr K.pp) rfl G2.m.gk rfl ?_)))
  refine Wb rfl (G2.c48 (by decide)) ?_
  rintro _ h3 ⟨r,n',rfl,hr,G3,hn,hp,_,_,x3⟩
  have g3 : At h3 h1.next (.cells (nats .u64 valL) 1 false) := At.ext g2 x3 (by have := g.m.lt; omega)
  refine Xx (u := .int .u64 ((valL.getD r 0 : Nat) : Int)) rfl rfl (OwS.new (n := 14) (c := 1) g3 rfl).sl ⟨by omega,by omega⟩ (nats_getD (show r < 14 by omega)) fun _ => ?_
  refine Wa rfl rfl (Wc [(2,_)] rfl (?_))
  exact Xo (Ws.mk _ rfl ⟨_,n',rfl,G3,hn,hp⟩)
set_option maxHeartbeats 1000000 in
theorem Go.c62 {t : Nat} (g : Go K h s h1 s1 v v1) : Fn Try.prog 75 [ptr K.pk,.int .u8 (t : Int)] h1 fun u h2 => ∃ (a : Nat) (b : Bool) (n' : Nat),u = .tuple ⟨[.int .u32 (a : Int),.bool b]⟩ ∧ Go K h s h2 { s1 with n := n' } v v1 ∧ s1.n ≤ n' ∧ pot K { s1 with n := n' } ≤ pot K s1 ∧ (b = true → a < K.ls.length ∧ a < 4294967296 ∧ K.ls.getD a 0 = t) := by
  have hll := g.m.z.ll
  refine fnK F75.fok rfl ?_
  refine Wd (Wa rfl rfl (Wa rfl rfl (Wc [(0,_),(1,_)] rfl (?_))))
  refine Wd (Wa rfl rfl (Wa rfl rfl (Wa rfl rfl (We (v := ptr K.pp) rfl g.m.gk rfl (Wb rfl (g.c48 (by decide)) ?_)))))
  rintro _ h3 ⟨r,n',rfl,hr,G3,hn,hp,_,_,x3⟩
  refine Wa rfl rfl (Wc [(0,_),(1,_),(6,_)] rfl (?_))
  refine Xc (Wd (Wa rfl rfl (Wc [(0,_),(1,_),(6,_),(7,_)] rfl (?_))))
  refine Wt ?_
  refine Xy (fun k e h' => ∃ i : Nat,e = [(0,ptr K.pk),(1,.int .u8 (t : Int)),(6,.int .i64 (r : Int)),(7,.int .i64 (i : Int))] ∧ i ≤ K.ls.length ∧ k = K.ls.length - i ∧ h' = h3) ?_ (k := K.ls.length) ⟨0,rfl,by omega,rfl,rfl⟩
  rintro k e h' ⟨i,rfl,hi,rfl,rfl⟩
  refine Xc (Wd (Wa rfl rfl (Wa rfl rfl (Wa rfl rfl (Wa rfl rfl (We (v := .slice K.la K.ls.length K.lc) rfl G3.m.gk rfl (Wa rfl rfl (Wa rfl rfl (Wc [(0,_),(1,_),(6,_),(7,_),(20,_)] rfl (?_))))))))))
  refine Wo rfl (fun hc => ?_) (fun hc => ?_)
  · have hil : i < K.ls.length := by have := of_decide_eq_true hc; omega
    obtain ⟨j,hj,hje⟩ : ∃ j : Nat,j < K.ls.length ∧ ((i : Int) + (r : Int)).tmod (K.ls.length : Int) = j := by
      have h1 := Int.tmod_nonneg (K.ls.length : Int) (show (0 : Int) ≤ (i : Int) + r by omega)
      have h2 := Int.tmod_lt_of_pos ((i : Int) + r) (show (0 : Int) < (K.ls.length : Int) by omega)
      exact ⟨(((i : Int) + r).tmod K.ls.length).toNat,by omega,by omega⟩
    refine Wr (Wt ?_)
    refine Wd (Wa rfl rfl (Wa rfl rfl (Wi (w := .int .i64 ((i : Int) + r)) rfl rfl (by rw [w64 (by omega)]) ?_)))
    refine Wa rfl rfl (Wa rfl rfl (Wa rfl rfl (We (v := .slice K.la K.ls.length K.lc) rfl G3.m.gk rfl (Wa rfl rfl (Ge rfl rfl (by omega) (Wa rfl rfl (Wc [(0,_),(1,_),(6,_),(7,_),(8,.int .i64 (j : Int))] (by rw [← hje]; rfl) (?_))))))))
    refine Wd (Wa rfl rfl (Wa rfl rfl (Wa rfl rfl (We (v := .slice K.la K.ls.length K.lc) rfl G3.m.gk rfl (Wa rfl rfl ?_)))))
    refine Xx (u := .int .u8 ((K.ls[j] : Nat) : Int)) rfl rfl G3.m.z.sl ⟨by omega,by omega⟩ (by simp [hj]) fun _ => ?_
    refine Wa rfl rfl (Wa rfl rfl (Wa rfl rfl ?_))
    cases hq : (((K.ls[j] : Nat) : Int) == (t : Int))
    · (repeat (first | refine Wg rfl ?_ | refine Wa rfl rfl ?_))
      refine Wc [(0,_),(1,_),(6,_),(7,_),(8,_),(50,_)] rfl (?_)
      refine Wn rfl (fun hc => by cases hc) (fun _ => Ya ?_)
      refine Wl (Wa rfl rfl (Wa rfl rfl (Wa rfl rfl (Wk [(0,_),(1,_),(6,_),(7,_)] rfl (?_)))))
      exact ⟨K.ls.length - (i + 1),by omega,i + 1,by rw [Zi (by omega)],by omega,rfl,rfl⟩
    · have hlt : K.ls.getD j 0 = t := by
        have e1 : ((K.ls[j] : Nat) : Int) = (t : Int) := eq_of_beq hq
        have e2 : K.ls.getD j 0 = K.ls[j] := by simp [List.getD,hj]
        omega
      refine Wh rfl (Wa rfl rfl (Wh rfl (Wa rfl rfl (Wh rfl (Wa rfl rfl (Wh rfl (Wa rfl rfl (Wh rfl (We (v := .slice K.la K.ls.length K.lc) rfl G3.m.gk rfl ?_)))))))))
      refine Wh rfl (Wa rfl rfl (Wh rfl (Wa rfl rfl (Wh rfl (Wa rfl rfl (Wa rfl rfl (Wc [(0,_),(1,_),(6,_),(7,_),(8,_),(50,_)] rfl (?_))))))))
      refine Wn rfl (fun _ => ?_) (fun _ => Ya ?_)
      · refine Wd (Wa rfl rfl (Wi (w := .int .u32 (j : Int)) rfl rfl (by rw [Ut (by omega)]) (Wa rfl rfl (Wa rfl rfl (Wc [(4,_),(5,_)] rfl (?_))))))
        exact Xo (Ws.mk _ rfl ⟨j,_,n',rfl,G3,hn,hp,fun _ => ⟨hj,by omega,hlt⟩⟩)
      · refine Wl (Wa rfl rfl (Wa rfl rfl (Wa rfl rfl (Wk [(0,_),(1,_),(6,_),(7,_)] rfl (?_)))))
        exact ⟨K.ls.length - (i + 1),by omega,i + 1,by rw [Zi (by omega)],by omega,rfl,rfl⟩
  · refine Xn (Xp ?_)
    refine Wd (Wa rfl rfl (Wa rfl rfl (Wc [(4,_),(5,_)] rfl (?_))))
    exact Xo (Ws.mk _ rfl ⟨0,_,n',rfl,G3,hn,hp,fun q => by cases q⟩)
theorem Go.c75 (g : Go K h s h1 s1 v v1) (hp : pot K s1 ≤ 100050) (ok : Okv v1) : Fn Try.prog 128 [ptr K.pk] h1 fun u h2 => Jr K h s s1 v (v1.push [112]) 1 h2 := by
  have hf0 := g.m.z.f0
  have hf3 := g.m.z.f3
  refine fnK F128.fok rfl ?_
  refine Wd (Wa rfl rfl (Wa rfl rfl (Wa rfl rfl (We (v := ptr K.pp) rfl g.m.gk rfl (Wb rfl (g.c48 (by decide)) ?_)))))
  rintro _ h2 ⟨r,n2,rfl,hr,G2,hn2,hp2,_,_,x2⟩
  refine Wa rfl rfl (Wc [(0,_),(7,_)] rfl (?_))
  refine Wn rfl (fun _ => ?_) (fun _ => ?_)
  · refine Wl (Wa rfl rfl (Wb rfl (G2.c63 (a := 112) (by omega) (by omega) (.inl (by decide)) ((VS.sg_null rfl rfl).at ok (VS.push_nil _).symm rfl) (ok.push _)) ?_))
    rintro _ h3 ⟨s3,G3,hn3,hp3⟩
    exact Wk [] rfl (Ws.mk [] rfl ⟨s3,G3,Nat.le_trans hn2 hn3,by omega⟩)
  · refine Wl (Wa rfl rfl (Wa rfl rfl (Wa rfl rfl (Wa rfl rfl (We (v := ptr K.pp) rfl G2.m.gk rfl ?_)))))
    refine Wa rfl rfl (Wa rfl rfl (Wa rfl rfl (We (v := ptr K.pm) rfl G2.m.gk rfl (Wa rfl rfl (Wa rfl rfl (We rfl G2.m.z.gm G2.m.z.hF (Wa rfl rfl (Wb rfl (G2.c48 (m := (K.M.funcs.length : Int)) (by omega)) ?_))))))))
    rintro _ h3 ⟨r3,n3,rfl,hr3,G3,hn3,hp3,_,_,x3⟩
    refine Wi (w := .int .u32 (r3 : Int)) rfl rfl (by rw [Ut (by omega)]) (Wb rfl (G3.c63 (a := r3) (by omega) (by omega) (.inl (by decide)) ((VS.sg_func G3.m.z.mm rfl (show r3 < K.M.funcs.length by omega)).at ok (VS.push_nil _).symm rfl) (ok.push _)) ?_)
    rintro _ h4 ⟨s4,G4,hn4,hp4⟩
    exact Wk [] rfl (Ws.mk [] rfl ⟨s4,G4,Nat.le_trans hn2 (Nat.le_trans hn3 hn4),by omega⟩)
end
theorem pick8 {r : Nat} (h : (r : Int) < 2) : ∃ u : Nat,(Yw .u8 [127,126])[((r : Nat) : Int).toNat]? = some (.int .u8 (u : Int)) ∧ (u = 127 ∨ u = 126) := by
  rw [Int.toNat_natCast]
  rcases (show r = 0 ∨ r = 1 by omega) with rfl | rfl
  · exact ⟨127,rfl,.inl rfl⟩
  · exact ⟨126,rfl,.inr rfl⟩
theorem ok14 : (⟨14,0,0,0,[0,0],0⟩ : Ins).Ok := ⟨by decide,by decide,by decide,by decide,by decide⟩
theorem kn14 : (⟨14,0,0,0,[0,0],0⟩ : Ins).Kn := .inl (by decide)
namespace VS
variable {M : Mo} {L : List Nat}
theorem sg_x9d (hM : MM M) {x : Ins} (h : x.op = 64521 ∨ x.op = 64525) (ha : x.a < 2) : Sg M L x [] [] := h.elim (fun h => sg_x9 hM h ha) fun h => sg_xd hM h ha
def dd (b : Bool) (Y : VS) : VS := if b = true then Y.rests else Y
theorem Okv.dd {Y : VS} (ok : Okv Y) (b : Bool) : Okv (dd b Y) := by unfold VS.dd; split; exact ok.rests; exact ok
theorem one_un {x : Ins} (h : x.op = 0 ∨ x.op = 1) (Y : VS) : Y.one M L x = dd (decide (x.op = 0)) Y := by
  unfold dd
  rcases h with h | h
  · rw [if_pos (decide_eq_true h)]; exact one_dead h Y
  · rw [if_neg (by rw [decide_eq_false (by omega)]; simp)]
    exact one_c (by simp [control,h])
theorem one_endu {x : Ins} (h : x.op = 11) {op : Int} {v : VS} (ok : Okv v) (b : Bool) : (dd b (v.opens op [] [])).one M L x = v := by
  unfold dd
  split
  · exact one_endd h ok
  · have := one_end (M := M) (L := L) h (op := op) (to := []) (fun _ => rfl) ok
    rw [push_nil,push_nil] at this
    exact this
theorem one_end0 {x : Ins} (h : x.op = 11) {op : Int} {v : VS} (ok : Okv v) : (v.opens op [] []).one M L x = v := by
  have := one_end (M := M) (L := L) h (op := op) (to := []) (fun _ => rfl) ok
  rw [push_nil,push_nil] at this
  exact this
end VS
def CF (K : Kt) (R f : Nat) (av : List Value) (c : Int) (B : Int) (I O : List Nat) : Prop :=
  ∀ (h : Heap) (s : Sm) (v : VS),Okv v → Mk K h s → K.xs.length ≤ s.n + R → pot K s ≤ B → Fn Try.prog f av h fun u h' => Jr K h s s (v.push I) (v.push O) c h'
theorem CF.go {K : Kt} {R f : Nat} {av : List Value} {c B : Int} {I O : List Nat} {h h1 : Heap} {s s1 : Sm} {v v1 v2 u : VS} (H : CF K R f av c B I O) (g : Go K h s h1 s1 v v1) (hr : K.xs.length ≤ s1.n + R) (hp : pot K s1 ≤ B) (ok : Okv u) (e : v1 = u.push I) (e2 : v2 = u.push O) : Fn Try.prog f av h1 fun _ h2 => Jr K h s s1 v v2 c h2 :=
  (H h1 s1 u ok g.m hr hp).mono fun _ h2 ⟨s2,q,hn,hq⟩ => ⟨s2,by subst e e2; exact g.trans q,hn,hq⟩
structure AllAt (K : Kt) (R : Nat) : Prop where
  e : ∀ (t : Nat) d,t = 127 ∨ t = 126 → CF K R 25 [ptr K.pk,.int .u8 (t : Int),.int .i64 d] 1 100000 [] [t]
  b2 : ∀ (t : Nat) d,t = 127 ∨ t = 126 → CF K R 78 [ptr K.pk,.int .i64 2,.int .u8 (t : Int),.int .i64 d] 8 99975 [] [t]
  b4 : ∀ (t : Nat) d,t = 127 ∨ t = 126 → CF K R 78 [ptr K.pk,.int .i64 4,.int .u8 (t : Int),.int .i64 d] 8 99975 [127] [t]
  l : ∀ (t : Nat) d,t = 127 ∨ t = 126 → CF K R 79 [ptr K.pk,.int .u8 (t : Int),.int .i64 d] 4 99975 [] [t]
  z : ∀ (t : Nat) d,t = 127 ∨ t = 126 → CF K R 80 [ptr K.pk,.int .u8 (t : Int),.int .i64 d] 3 99975 [] [t]
  t : ∀ d,CF K R 127 [ptr K.pk,.int .i64 d] 3 99975 [] [127,127,127]
  s : ∀ n d,n ≤ 1000 → CF K R 24 [ptr K.pk,.int .i64 n,.int .i64 d] 0 100000 [] []
  lo : ∀ d,CF K R 129 [ptr K.pk,.int .i64 d] 14 99975 [] []
  j : ∀ d,CF K R 130 [ptr K.pk,.int .i64 d] 6 99975 [] []

end
section
/- Made modules, with types: expr's cases, sizes, block, loop, jumps (printed by gmt.py). -/
open VS (Okv MM)
set_option maxHeartbeats 4000000 in
theorem E50 {K : Kt} {R : Nat} (H : AllAt K R) {h h1 : Heap} {s s1 : Sm} {v : VS} (ok : Okv v) {t : Nat} (tv : t = 127 ∨ t = 126) {d c : Int} {kx : Nat → Kn} {kr : Kn} (G0 : Go K h s h1 s1 v v) (r0 : K.xs.length ≤ s1.n + R) (n0 : s.n ≤ s1.n) (p0 : pot K s1 ≤ 99970) (p1 : pot K s1 ≤ pot K s + (-30)) :
    W Try.prog (match F25.code with | .seq _ (.seq _ (.seq _ b)) => b | _ => .skip) [(0,ptr K.pk),(1,.int .u8 (t : Int)),(2,.int .i64 d),(6,.int .i64 c),(7,.bool ((t : Int) == 127))] h1 (K3 (Ws F25.res fun _ h' => Jr K h s s v (v.push [t]) 1 h') kx kr) := by
  refine Ze ?_
  refine Wd (Wa rfl rfl (Wa rfl rfl (Wa rfl rfl (Wc [(0,_),(1,_),(2,_),(6,_),(7,_),(46,_)] rfl (?_)))))
  refine Wn rfl (fun hc => ?_) (fun hc => ?_)
  · refine Wl (Wa rfl rfl (Wa rfl rfl (Wa rfl rfl (Wb rfl G0.c61 ?_))))
    rintro _ h1 ⟨v1,n1,rfl,G1,hn1,hp1⟩
    have rr1 := Nat.le_trans r0 (Nat.add_le_add_right hn1 R)
    have NN1 := Nat.le_trans n0 hn1
    refine Wb rfl (G1.c60 (t := t) (N := v1) tv (by omega) ok) ?_
    rintro _ h2 ⟨s2,G2,hn2,hp2⟩
    have rr2 := Nat.le_trans rr1 (Nat.add_le_add_right hn2 R)
    have NN2 := Nat.le_trans NN1 hn2
    refine Wk [] rfl (?_)
    exact Ws.mk [] rfl ⟨_,G2,NN2,by omega⟩
  · refine Wd (Wa rfl rfl (Wa rfl rfl (Wa rfl rfl (Wc [(0,_),(1,_),(2,_),(6,_),(7,_),(54,_)] rfl (?_)))))
    refine Wn rfl (fun hc => ?_) (fun hc => ?_)
    · refine Wd (Wa rfl rfl (Wa rfl rfl (Wb rfl (G0.c62 (t := t)) ?_)))
      rintro _ h3 ⟨v3,w3,n3,rfl,G3,hn3,hp3,hl3⟩
      have rr3 := Nat.le_trans r0 (Nat.add_le_add_right hn3 R)
      have NN3 := Nat.le_trans n0 hn3
      refine Wa rfl rfl (Wa rfl rfl (Wa rfl rfl (Wa rfl rfl (Wa rfl rfl (Wc [(0,_),(1,_),(8,_),(9,_)] rfl (?_))))))
      obtain ⟨s4,G4,hn4,hp4⟩ : ∃ q,Go K h s h3 q v v ∧ ({ s1 with n := n3 } : Sm).n ≤ q.n ∧ pot K q ≤ pot K ({ s1 with n := n3 } : Sm) := ⟨_,G3,Nat.le_refl _,Int.le_refl _⟩
      have rr4 := Nat.le_trans rr3 (Nat.add_le_add_right hn4 R)
      have NN4 := Nat.le_trans NN3 hn4
      refine Wd (Wa rfl rfl (Wc [(0,_),(1,_),(8,_),(63,_)] rfl (?_)))
      refine Wn rfl (fun hc => ?_) (fun hc => ?_)
      · obtain ⟨la3,lb3,lc3⟩ := hl3 hc
        refine Wl (Wa rfl rfl (Wa rfl rfl (Wb rfl (G4.c63 (op := 32) (a := v3) (v2 := (v.push [t])) (by omega) lb3 (.inl (by decide)) ((VS.sg_get rfl la3 lc3).at ok (VS.push_nil _).symm rfl) (ok.push [t])) ?_)))
        rintro _ h5 ⟨s5,G5,hn5,hp5⟩
        have rr5 := Nat.le_trans rr4 (Nat.add_le_add_right hn5 R)
        have NN5 := Nat.le_trans NN4 hn5
        refine Wk [] rfl (?_)
        exact Ws.mk [] rfl ⟨_,G5,NN5,by omega⟩
      · refine Wl (Wa rfl rfl (Wa rfl rfl (Wb rfl (G4.c60 (t := t) (N := 5) tv (by omega) ok) ?_)))
        rintro _ h6 ⟨s6,G6,hn6,hp6⟩
        have rr6 := Nat.le_trans rr4 (Nat.add_le_add_right hn6 R)
        have NN6 := Nat.le_trans NN4 hn6
        refine Wk [] rfl (?_)
        exact Ws.mk [] rfl ⟨_,G6,NN6,by omega⟩
    · refine Wd (Wa rfl rfl (Wa rfl rfl (Wa rfl rfl (Wc [(0,_),(1,_),(2,_),(6,_),(7,_),(70,_)] rfl (?_)))))
      refine Wn rfl (fun hc => ?_) (fun hc => ?_)
      · refine Wd (Wa rfl rfl (Wc [(0,_),(7,_),(10,_)] rfl (?_)))
        refine Xc (Wd (Wa rfl rfl (Wa rfl rfl (Wc [(0,_),(10,_),(74,_)] rfl (?_)))))
        refine Wo rfl (fun hc => ?_) (fun hc => ?_)
        · obtain rfl : t = 126 := by rcases tv with e | e <;> subst e <;> first | rfl | exact absurd hc (by decide)
          refine Wd (Wa rfl rfl (Wc [(0,_),(10,_)] rfl (?_)))
          refine Wl (Wa rfl rfl (Wa rfl rfl (Wb rfl (G0.c63 (op := 35) (a := 1) (v2 := (v.push [126])) (by omega) (by omega) (.inl (by decide)) ((VS.sg_gget G0.m.z.mm rfl (.inr ⟨rfl,rfl⟩)).at ok (VS.push_nil _).symm rfl) (ok.push [126])) ?_)))
          rintro _ h7 ⟨s7,G7,hn7,hp7⟩
          have rr7 := Nat.le_trans r0 (Nat.add_le_add_right hn7 R)
          have NN7 := Nat.le_trans n0 hn7
          refine Wk [] rfl (?_)
          exact Ws.mk [] rfl ⟨_,G7,NN7,by omega⟩
        · obtain rfl : t = 127 := by rcases tv with e | e <;> subst e <;> first | rfl | exact absurd hc (by decide)
          refine Wr (Wl (Wa rfl rfl (Wa rfl rfl (Wb rfl (G0.c63 (op := 35) (a := 0) (v2 := (v.push [127])) (by omega) (by omega) (.inl (by decide)) ((VS.sg_gget G0.m.z.mm rfl (.inl ⟨rfl,rfl⟩)).at ok (VS.push_nil _).symm rfl) (ok.push [127])) ?_))))
          rintro _ h8 ⟨s8,G8,hn8,hp8⟩
          have rr8 := Nat.le_trans r0 (Nat.add_le_add_right hn8 R)
          have NN8 := Nat.le_trans n0 hn8
          refine Wk [] rfl (?_)
          exact Ws.mk [] rfl ⟨_,G8,NN8,by omega⟩
      · refine Wd (Wa rfl rfl (Wa rfl rfl (Wa rfl rfl (Wc [(0,_),(1,_),(2,_),(6,_),(7,_),(78,_)] rfl (?_)))))
        refine Wn rfl (fun hc => ?_) (fun hc => ?_)
        · refine Wd (Wa rfl rfl (Wa rfl rfl (Wa rfl rfl (Wa rfl rfl (Wb rfl ((H.e t _ tv).go (v2 := (v.push [t])) G0 r0 (by omega) ok (VS.push_nil _).symm rfl) ?_)))))
          rintro _ h9 ⟨s9,G9,hn9,hp9⟩
          have rr9 := Nat.le_trans r0 (Nat.add_le_add_right hn9 R)
          have NN9 := Nat.le_trans n0 hn9
          refine Wc [(0,_),(1,_),(2,_),(7,_)] rfl (?_)
          refine Wd (Wa rfl rfl (Wa rfl rfl (Wa rfl rfl (Wa rfl rfl (Wb rfl ((H.e t _ tv).go (v2 := (v.push [t,t])) G9 rr9 (by omega) (ok.push [t]) (VS.push_nil _).symm (VS.push_push _ [t] [t])) ?_)))))
          rintro _ h10 ⟨s10,G10,hn10,hp10⟩
          have rr10 := Nat.le_trans rr9 (Nat.add_le_add_right hn10 R)
          have NN10 := Nat.le_trans NN9 hn10
          refine Wc [(0,_),(7,_)] rfl (?_)
          refine Wd (Wa rfl rfl (Wa rfl rfl (Wa rfl rfl (We (v := ptr K.pp) rfl G10.m.gk rfl ?_))))
          refine Wb rfl (G10.c48 (by decide)) ?_
          rintro _ h11 ⟨r11,n11,rfl,hr11,G11,hn11,hp11,hu11,hz11,x11⟩
          have rr11 := Nat.le_trans rr10 (Nat.add_le_add_right hn11 R)
          have NN11 := Nat.le_trans NN10 hn11
          refine Wi (w := .int .i64 (106 + (r11 : Int))) rfl rfl (by rw [w64 (by omega)]) (Wa rfl rfl (Wc [(0,_),(7,_),(11,_)] rfl (?_)))
          obtain ⟨s12,G12,hn12,hp12⟩ : ∃ q,Go K h s h11 q v (v.push [t,t]) ∧ ({ s10 with n := n11 } : Sm).n ≤ q.n ∧ pot K q ≤ pot K ({ s10 with n := n11 } : Sm) := ⟨_,G11,Nat.le_refl _,Int.le_refl _⟩
          have rr12 := Nat.le_trans rr11 (Nat.add_le_add_right hn12 R)
          have NN12 := Nat.le_trans NN11 hn12
          refine Xc (Wd (Wa rfl rfl (Wa rfl rfl (Wc [(0,_),(11,_),(98,_)] rfl (?_)))))
          refine Wo rfl (fun hc => ?_) (fun hc => ?_)
          · obtain rfl : t = 126 := by rcases tv with e | e <;> subst e <;> first | rfl | exact absurd hc (by decide)
            refine Wd (Wa rfl rfl (Wi (w := .int .i64 ((106 + (r11 : Int)) + 18)) rfl rfl (by rw [w64 (by omega)]) (Wa rfl rfl (Wc [(0,_),(11,_)] rfl (?_)))))
            refine Wl (Wa rfl rfl (Wa rfl rfl (Wb rfl (G12.c64 (op := ((106 + (r11 : Int)) + 18)) (v2 := (v.push [126])) (by omega) (.inr (.inr (VS.n64b (op := ((106 + (r11 : Int)) + 18)) (by omega) (by omega)).1)) ((VS.sg_n (VS.n64b (op := ((106 + (r11 : Int)) + 18)) (by omega) (by omega))).at ok rfl rfl) (ok.push [126])) ?_)))
            rintro _ h13 ⟨s13,G13,hn13,hp13⟩
            have rr13 := Nat.le_trans rr12 (Nat.add_le_add_right hn13 R)
            have NN13 := Nat.le_trans NN12 hn13
            refine Wk [] rfl (?_)
            exact Ws.mk [] rfl ⟨_,G13,NN13,by omega⟩
          · obtain rfl : t = 127 := by rcases tv with e | e <;> subst e <;> first | rfl | exact absurd hc (by decide)
            refine Wr (Wl (Wa rfl rfl (Wa rfl rfl (Wb rfl (G12.c64 (op := (106 + (r11 : Int))) (v2 := (v.push [127])) (by omega) (.inr (.inr (VS.n32b (op := (106 + (r11 : Int))) (by omega) (by omega)).1)) ((VS.sg_n (VS.n32b (op := (106 + (r11 : Int))) (by omega) (by omega))).at ok rfl rfl) (ok.push [127])) ?_))))
            rintro _ h14 ⟨s14,G14,hn14,hp14⟩
            have rr14 := Nat.le_trans rr12 (Nat.add_le_add_right hn14 R)
            have NN14 := Nat.le_trans NN12 hn14
            refine Wk [] rfl (?_)
            exact Ws.mk [] rfl ⟨_,G14,NN14,by omega⟩
        · refine Wd (Wa rfl rfl (Wa rfl rfl (Wa rfl rfl (Wc [(0,_),(1,_),(2,_),(6,_),(7,_),(104,_)] rfl (?_)))))
          refine Wn rfl (fun hc => ?_) (fun hc => ?_)
          · refine Wd (Wa rfl rfl (Wa rfl rfl (Wa rfl rfl (Wa rfl rfl (Wb rfl ((H.e t _ tv).go (v2 := (v.push [t])) G0 r0 (by omega) ok (VS.push_nil _).symm rfl) ?_)))))
            rintro _ h15 ⟨s15,G15,hn15,hp15⟩
            have rr15 := Nat.le_trans r0 (Nat.add_le_add_right hn15 R)
            have NN15 := Nat.le_trans n0 hn15
            refine Wc [(0,_),(7,_)] rfl (?_)
            refine Wd (Wj (l := Yw .i64 [103,104,105,192,193]) rfl rfl fun h16 n16 x16 g16 => ?_)
            have G16 := G15.ext0 x16
            refine Wa rfl rfl (Wa rfl rfl (Wa rfl rfl (We (v := ptr K.pp) rfl G16.m.gk rfl ?_)))
            refine Wb rfl (G16.c48 (by decide)) ?_
            rintro _ h17 ⟨r17,n17,rfl,hr17,G17,hn17,hp17,hu17,hz17,x17⟩
            have g16x17 : At h17 h15.next (.cells (Yw .i64 [103,104,105,192,193]) 1 false) := At.ext (S := (· = K.pp)) g16 x17 (by have := G15.m.lt; omega)
            have rr17 := Nat.le_trans rr15 (Nat.add_le_add_right hn17 R)
            have NN17 := Nat.le_trans NN15 hn17
            refine Xi rfl rfl ⟨by omega,by omega⟩ (We (v := .int .i64 (([103,104,105,192,193] : List Int).getD r17 0)) rfl g16x17 (by rw [Nat.zero_add,Nat.mul_one]; exact Yy (L := [103,104,105,192,193]) (show r17 < 5 by omega)) ?_)
            refine Wa rfl rfl (Wc [(0,_),(7,_),(12,_)] rfl (?_))
            obtain ⟨s18,G18,hn18,hp18⟩ : ∃ q,Go K h s h17 q v (v.push [t]) ∧ ({ s15 with n := n17 } : Sm).n ≤ q.n ∧ pot K q ≤ pot K ({ s15 with n := n17 } : Sm) := ⟨_,G17,Nat.le_refl _,Int.le_refl _⟩
            have rr18 := Nat.le_trans rr17 (Nat.add_le_add_right hn18 R)
            have NN18 := Nat.le_trans NN17 hn18
            refine Xc (Wd (Wa rfl rfl (Wa rfl rfl (Wc [(0,_),(12,_),(121,_)] rfl (?_)))))
            refine Wo rfl (fun hc => ?_) (fun hc => ?_)
            · obtain rfl : t = 126 := by rcases tv with e | e <;> subst e <;> first | rfl | exact absurd hc (by decide)
              refine Wd (Wj (l := Yw .i64 [121,122,123,194,196]) rfl rfl fun h19 n19 x19 g19 => ?_)
              have G19 := G18.ext0 x19
              refine Wa rfl rfl (Wa rfl rfl (Wa rfl rfl (We (v := ptr K.pp) rfl G19.m.gk rfl ?_)))
              refine Wb rfl (G19.c48 (by decide)) ?_
              rintro _ h20 ⟨r20,n20,rfl,hr20,G20,hn20,hp20,hu20,hz20,x20⟩
              have g19x20 : At h20 h17.next (.cells (Yw .i64 [121,122,123,194,196]) 1 false) := At.ext (S := (· = K.pp)) g19 x20 (by have := G18.m.lt; omega)
              have rr20 := Nat.le_trans rr18 (Nat.add_le_add_right hn20 R)
              have NN20 := Nat.le_trans NN18 hn20
              refine Xi rfl rfl ⟨by omega,by omega⟩ (We (v := .int .i64 (([121,122,123,194,196] : List Int).getD r20 0)) rfl g19x20 (by rw [Nat.zero_add,Nat.mul_one]; exact Yy (L := [121,122,123,194,196]) (show r20 < 5 by omega)) ?_)
              refine Wa rfl rfl (Wc [(0,_),(12,_)] rfl (?_))
              obtain ⟨s21,G21,hn21,hp21⟩ : ∃ q,Go K h s h20 q v (v.push [126]) ∧ ({ s18 with n := n20 } : Sm).n ≤ q.n ∧ pot K q ≤ pot K ({ s18 with n := n20 } : Sm) := ⟨_,G20,Nat.le_refl _,Int.le_refl _⟩
              have rr21 := Nat.le_trans rr20 (Nat.add_le_add_right hn21 R)
              have NN21 := Nat.le_trans NN20 hn21
              refine Wl (Wa rfl rfl (Wa rfl rfl (Wb rfl (G21.c64 (op := (([121,122,123,194,196] : List Int).getD r20 0)) (v2 := (v.push [126])) (by omega) (.inr (.inr (Yb (P := fun x => VS.numP x [126] 126) (L := ([121,122,123,194,196] : List Int)) (by decide) (show r20 < 5 by omega)).1)) ((VS.sg_n (Yb (P := fun x => VS.numP x [126] 126) (L := ([121,122,123,194,196] : List Int)) (by decide) (show r20 < 5 by omega))).at ok rfl rfl) (ok.push [126])) ?_)))
              rintro _ h22 ⟨s22,G22,hn22,hp22⟩
              have rr22 := Nat.le_trans rr21 (Nat.add_le_add_right hn22 R)
              have NN22 := Nat.le_trans NN21 hn22
              refine Wk [] rfl (?_)
              exact Ws.mk [] rfl ⟨_,G22,NN22,by omega⟩
            · obtain rfl : t = 127 := by rcases tv with e | e <;> subst e <;> first | rfl | exact absurd hc (by decide)
              refine Wr (Wl (Wa rfl rfl (Wa rfl rfl (Wb rfl (G18.c64 (op := (([103,104,105,192,193] : List Int).getD r17 0)) (v2 := (v.push [127])) (by omega) (.inr (.inr (Yb (P := fun x => VS.numP x [127] 127) (L := ([103,104,105,192,193] : List Int)) (by decide) (show r17 < 5 by omega)).1)) ((VS.sg_n (Yb (P := fun x => VS.numP x [127] 127) (L := ([103,104,105,192,193] : List Int)) (by decide) (show r17 < 5 by omega))).at ok rfl rfl) (ok.push [127])) ?_))))
              rintro _ h23 ⟨s23,G23,hn23,hp23⟩
              have rr23 := Nat.le_trans rr18 (Nat.add_le_add_right hn23 R)
              have NN23 := Nat.le_trans NN18 hn23
              refine Wk [] rfl (?_)
              exact Ws.mk [] rfl ⟨_,G23,NN23,by omega⟩
          · refine Wd (Wa rfl rfl (Wa rfl rfl (Wa rfl rfl (Wc [(0,_),(1,_),(2,_),(6,_),(7,_),(133,_)] rfl (?_)))))
            refine Wn rfl (fun hc => ?_) (fun hc => ?_)
            · refine Wd (Wa rfl rfl (Wc [(0,_),(2,_),(136,_)] rfl (?_)))
              refine Wn rfl (fun hc => ?_) (fun hc => ?_)
              · obtain rfl : t = 127 := by rcases tv with e | e <;> subst e <;> first | rfl | exact absurd hc (by decide)
                refine Wd (Wj (l := Yw .u8 [127,126]) rfl rfl fun h24 n24 x24 g24 => ?_)
                have G24 := G0.ext0 x24
                refine Wa rfl rfl (Wa rfl rfl (Wa rfl rfl (We (v := ptr K.pp) rfl G24.m.gk rfl ?_)))
                refine Wb rfl (G24.c48 (by decide)) ?_
                rintro _ h25 ⟨r25,n25,rfl,hr25,G25,hn25,hp25,hu25,hz25,x25⟩
                have g24x25 : At h25 h1.next (.cells (Yw .u8 [127,126]) 1 false) := At.ext (S := (· = K.pp)) g24 x25 (by have := G0.m.lt; omega)
                have rr25 := Nat.le_trans r0 (Nat.add_le_add_right hn25 R)
                have NN25 := Nat.le_trans n0 hn25
                obtain ⟨u26,eu26,hv26⟩ := pick8 (r := r25) (by omega)
                refine Xi rfl rfl ⟨by omega,by omega⟩ (We (v := .int .u8 (u26 : Int)) rfl g24x25 (by rw [Nat.zero_add,Nat.mul_one]; exact eu26) ?_)
                refine Wa rfl rfl (Wc [(0,_),(2,_),(13,_)] rfl (?_))
                obtain ⟨s27,G27,hn27,hp27⟩ : ∃ q,Go K h s h25 q v v ∧ ({ s1 with n := n25 } : Sm).n ≤ q.n ∧ pot K q ≤ pot K ({ s1 with n := n25 } : Sm) := ⟨_,G25,Nat.le_refl _,Int.le_refl _⟩
                have rr27 := Nat.le_trans rr25 (Nat.add_le_add_right hn27 R)
                have NN27 := Nat.le_trans NN25 hn27
                refine Wd (Wa rfl rfl (Wa rfl rfl (Wa rfl rfl (Wa rfl rfl (Wb rfl ((H.e u26 _ hv26).go (v2 := (v.push [u26])) G27 rr27 (by omega) ok (VS.push_nil _).symm rfl) ?_)))))
                rintro _ h28 ⟨s28,G28,hn28,hp28⟩
                have rr28 := Nat.le_trans rr27 (Nat.add_le_add_right hn28 R)
                have NN28 := Nat.le_trans NN27 hn28
                refine Wc [(0,_),(2,_),(13,_)] rfl (?_)
                refine Wd (Wa rfl rfl (Wa rfl rfl (Wa rfl rfl (Wa rfl rfl (Wb rfl ((H.e u26 _ hv26).go (v2 := (v.push [u26,u26])) G28 rr28 (by omega) (ok.push [u26]) (VS.push_nil _).symm (VS.push_push _ [u26] [u26])) ?_)))))
                rintro _ h29 ⟨s29,G29,hn29,hp29⟩
                have rr29 := Nat.le_trans rr28 (Nat.add_le_add_right hn29 R)
                have NN29 := Nat.le_trans NN28 hn29
                refine Wc [(0,_),(13,_)] rfl (?_)
                refine Wd (Wa rfl rfl (Wa rfl rfl (Wa rfl rfl (We (v := ptr K.pp) rfl G29.m.gk rfl ?_))))
                refine Wb rfl (G29.c48 (by decide)) ?_
                rintro _ h30 ⟨r30,n30,rfl,hr30,G30,hn30,hp30,hu30,hz30,x30⟩
                have rr30 := Nat.le_trans rr29 (Nat.add_le_add_right hn30 R)
                have NN30 := Nat.le_trans NN29 hn30
                refine Wi (w := .int .i64 (70 + (r30 : Int))) rfl rfl (by rw [w64 (by omega)]) (Wa rfl rfl (Wc [(0,_),(13,_),(14,_)] rfl (?_)))
                obtain ⟨s31,G31,hn31,hp31⟩ : ∃ q,Go K h s h30 q v (v.push [u26,u26]) ∧ ({ s29 with n := n30 } : Sm).n ≤ q.n ∧ pot K q ≤ pot K ({ s29 with n := n30 } : Sm) := ⟨_,G30,Nat.le_refl _,Int.le_refl _⟩
                have rr31 := Nat.le_trans rr30 (Nat.add_le_add_right hn31 R)
                have NN31 := Nat.le_trans NN30 hn31
                refine Xc (Wd (Wa rfl rfl (Wa rfl rfl (Wc [(0,_),(14,_),(162,_)] rfl (?_)))))
                refine Wo rfl (fun hc => ?_) (fun hc => ?_)
                · obtain rfl : u26 = 126 := by rcases hv26 with e | e <;> subst e <;> first | rfl | exact absurd hc (by decide)
                  refine Wd (Wa rfl rfl (Wi (w := .int .i64 ((70 + (r30 : Int)) + 11)) rfl rfl (by rw [w64 (by omega)]) (Wa rfl rfl (Wc [(0,_),(14,_)] rfl (?_)))))
                  refine Wl (Wa rfl rfl (Wa rfl rfl (Wb rfl (G31.c64 (op := ((70 + (r30 : Int)) + 11)) (v2 := (v.push [127])) (by omega) (.inr (.inr (VS.n64c (op := ((70 + (r30 : Int)) + 11)) (by omega) (by omega)).1)) ((VS.sg_n (VS.n64c (op := ((70 + (r30 : Int)) + 11)) (by omega) (by omega))).at ok rfl rfl) (ok.push [127])) ?_)))
                  rintro _ h32 ⟨s32,G32,hn32,hp32⟩
                  have rr32 := Nat.le_trans rr31 (Nat.add_le_add_right hn32 R)
                  have NN32 := Nat.le_trans NN31 hn32
                  refine Wk [] rfl (?_)
                  exact Ws.mk [] rfl ⟨_,G32,NN32,by omega⟩
                · obtain rfl : u26 = 127 := by rcases hv26 with e | e <;> subst e <;> first | rfl | exact absurd hc (by decide)
                  refine Wr (Wl (Wa rfl rfl (Wa rfl rfl (Wb rfl (G31.c64 (op := (70 + (r30 : Int))) (v2 := (v.push [127])) (by omega) (.inr (.inr (VS.n32c (op := (70 + (r30 : Int))) (by omega) (by omega)).1)) ((VS.sg_n (VS.n32c (op := (70 + (r30 : Int))) (by omega) (by omega))).at ok rfl rfl) (ok.push [127])) ?_))))
                  rintro _ h33 ⟨s33,G33,hn33,hp33⟩
                  have rr33 := Nat.le_trans rr31 (Nat.add_le_add_right hn33 R)
                  have NN33 := Nat.le_trans NN31 hn33
                  refine Wk [] rfl (?_)
                  exact Ws.mk [] rfl ⟨_,G33,NN33,by omega⟩
              · obtain rfl : t = 126 := by rcases tv with e | e <;> subst e <;> first | rfl | exact absurd hc (by decide)
                refine Wd (Wa rfl rfl (Wa rfl rfl (Wa rfl rfl (Wb rfl ((H.e 127 _ (.inl rfl)).go (v2 := (v.push [127])) G0 r0 (by omega) ok (VS.push_nil _).symm rfl) ?_))))
                rintro _ h34 ⟨s34,G34,hn34,hp34⟩
                have rr34 := Nat.le_trans r0 (Nat.add_le_add_right hn34 R)
                have NN34 := Nat.le_trans n0 hn34
                refine Wc [(0,_)] rfl (?_)
                refine Wl (Wa rfl rfl (Wa rfl rfl (Wa rfl rfl (Wa rfl rfl (We (v := ptr K.pp) rfl G34.m.gk rfl ?_)))))
                refine Wb rfl (G34.c48 (by decide)) ?_
                rintro _ h35 ⟨r35,n35,rfl,hr35,G35,hn35,hp35,hu35,hz35,x35⟩
                have rr35 := Nat.le_trans rr34 (Nat.add_le_add_right hn35 R)
                have NN35 := Nat.le_trans NN34 hn35
                refine Wi (w := .int .i64 (172 + (r35 : Int))) rfl rfl (by rw [w64 (by omega)]) (Wb rfl (G35.c64 (op := (172 + (r35 : Int))) (v2 := (v.push [126])) (by omega) (.inr (.inr (VS.n32e (op := (172 + (r35 : Int))) (by omega) (by omega)).1)) ((VS.sg_n (VS.n32e (op := (172 + (r35 : Int))) (by omega) (by omega))).at ok rfl rfl) (ok.push [126])) ?_)
                rintro _ h36 ⟨s36,G36,hn36,hp36⟩
                have rr36 := Nat.le_trans rr35 (Nat.add_le_add_right hn36 R)
                have NN36 := Nat.le_trans NN35 hn36
                refine Wk [] rfl (?_)
                exact Ws.mk [] rfl ⟨_,G36,NN36,by omega⟩
            · refine Wd (Wa rfl rfl (Wa rfl rfl (Wa rfl rfl (Wc [(0,_),(1,_),(2,_),(6,_),(7,_),(180,_)] rfl (?_)))))
              refine Wn rfl (fun hc => ?_) (fun hc => ?_)
              · refine Wd (Wa rfl rfl (Wa rfl rfl (Wa rfl rfl (Wb rfl ((H.e 127 _ (.inl rfl)).go (v2 := (v.push [127])) G0 r0 (by omega) ok (VS.push_nil _).symm rfl) ?_))))
                rintro _ h37 ⟨s37,G37,hn37,hp37⟩
                have rr37 := Nat.le_trans r0 (Nat.add_le_add_right hn37 R)
                have NN37 := Nat.le_trans n0 hn37
                refine Wc [(0,_),(7,_)] rfl (?_)
                refine Wd (Wj (l := Yw .i64 [40,44,45,46,47]) rfl rfl fun h38 n38 x38 g38 => ?_)
                have G38 := G37.ext0 x38
                refine Wa rfl rfl (Wa rfl rfl (Wa rfl rfl (We (v := ptr K.pp) rfl G38.m.gk rfl ?_)))
                refine Wb rfl (G38.c48 (by decide)) ?_
                rintro _ h39 ⟨r39,n39,rfl,hr39,G39,hn39,hp39,hu39,hz39,x39⟩
                have g38x39 : At h39 h37.next (.cells (Yw .i64 [40,44,45,46,47]) 1 false) := At.ext (S := (· = K.pp)) g38 x39 (by have := G37.m.lt; omega)
                have rr39 := Nat.le_trans rr37 (Nat.add_le_add_right hn39 R)
                have NN39 := Nat.le_trans NN37 hn39
                refine Xi rfl rfl ⟨by omega,by omega⟩ (We (v := .int .i64 (([40,44,45,46,47] : List Int).getD r39 0)) rfl g38x39 (by rw [Nat.zero_add,Nat.mul_one]; exact Yy (L := [40,44,45,46,47]) (show r39 < 5 by omega)) ?_)
                refine Wa rfl rfl (Wc [(0,_),(7,_),(15,_)] rfl (?_))
                obtain ⟨s40,G40,hn40,hp40⟩ : ∃ q,Go K h s h39 q v (v.push [127]) ∧ ({ s37 with n := n39 } : Sm).n ≤ q.n ∧ pot K q ≤ pot K ({ s37 with n := n39 } : Sm) := ⟨_,G39,Nat.le_refl _,Int.le_refl _⟩
                have rr40 := Nat.le_trans rr39 (Nat.add_le_add_right hn40 R)
                have NN40 := Nat.le_trans NN39 hn40
                refine Xc (Wd (Wa rfl rfl (Wa rfl rfl (Wc [(0,_),(15,_),(196,_)] rfl (?_)))))
                refine Wo rfl (fun hc => ?_) (fun hc => ?_)
                · obtain rfl : t = 126 := by rcases tv with e | e <;> subst e <;> first | rfl | exact absurd hc (by decide)
                  refine Wd (Wj (l := Yw .i64 [41,48,49,50,52]) rfl rfl fun h41 n41 x41 g41 => ?_)
                  have G41 := G40.ext0 x41
                  refine Wa rfl rfl (Wa rfl rfl (Wa rfl rfl (We (v := ptr K.pp) rfl G41.m.gk rfl ?_)))
                  refine Wb rfl (G41.c48 (by decide)) ?_
                  rintro _ h42 ⟨r42,n42,rfl,hr42,G42,hn42,hp42,hu42,hz42,x42⟩
                  have g41x42 : At h42 h39.next (.cells (Yw .i64 [41,48,49,50,52]) 1 false) := At.ext (S := (· = K.pp)) g41 x42 (by have := G40.m.lt; omega)
                  have rr42 := Nat.le_trans rr40 (Nat.add_le_add_right hn42 R)
                  have NN42 := Nat.le_trans NN40 hn42
                  refine Xi rfl rfl ⟨by omega,by omega⟩ (We (v := .int .i64 (([41,48,49,50,52] : List Int).getD r42 0)) rfl g41x42 (by rw [Nat.zero_add,Nat.mul_one]; exact Yy (L := [41,48,49,50,52]) (show r42 < 5 by omega)) ?_)
                  refine Wa rfl rfl (Wc [(0,_),(15,_)] rfl (?_))
                  obtain ⟨s43,G43,hn43,hp43⟩ : ∃ q,Go K h s h42 q v (v.push [127]) ∧ ({ s40 with n := n42 } : Sm).n ≤ q.n ∧ pot K q ≤ pot K ({ s40 with n := n42 } : Sm) := ⟨_,G42,Nat.le_refl _,Int.le_refl _⟩
                  have rr43 := Nat.le_trans rr42 (Nat.add_le_add_right hn43 R)
                  have NN43 := Nat.le_trans NN42 hn43
                  refine Wl (Wa rfl rfl (Wa rfl rfl (Wa rfl rfl (Wa rfl rfl (We (v := .slice s43.oa s43.ops.length s43.oc) rfl G43.m.gk rfl ?_)))))
                  refine Wa rfl rfl (Wa rfl rfl (Wa rfl rfl (Wa rfl rfl (We (v := ptr K.pp) rfl G43.m.gk rfl ?_))))
                  refine Wb rfl (G43.c48 (by decide)) ?_
                  rintro _ h44 ⟨r44,n44,rfl,hr44,G44,hn44,hp44,hu44,hz44,x44⟩
                  have rr44 := Nat.le_trans rr43 (Nat.add_le_add_right hn44 R)
                  have NN44 := Nat.le_trans NN43 hn44
                  refine Yn rfl rfl G44.m.gk (v := .slice s43.oa s43.ops.length s43.oc) rfl G44.m.o.sl.same ?_
                  refine Wi (w := .int .u32 (r44 : Int)) rfl rfl (by rw [Ut (by omega)]) (Wa rfl rfl (?_))
                  have o45 := G44.m.o
                  have hops45 : s43.ops.length ≤ 100100 := Zf (K := K) (s := ({ s43 with n := n44 } : Sm)) G44.m (by omega)
                  refine Wj (l := en IM.enc [⟨⟨(([41,48,49,50,52] : List Int).getD r42 0),0,r44,0,[],0⟩,none,0⟩]) rfl rfl fun h45 n45 x45 g45 => ?_
                  refine Xk (m := 1) rfl rfl (o45.ext x45) rfl (OwS.new (n := 1) (c := 1) g45 rfl).sl.first ⟨by omega,by omega⟩ rfl (Xz _) (by decide) fun hh45 a45 c45 xx45 oo45 b45 => ?_
                  refine Wa rfl rfl (Wa rfl rfl (Wm (l := [.slice a45 (({ s43 with n := n44 } : Sm).ops.length + 1) c45]) rfl rfl rfl rfl ((G44.m.gk.ext x45).ext xx45 fun r => (G44.m.no _ r).2.1 rfl) (by simp) rfl fun h46 nn46 x46 g46 => ?_))
                  obtain ⟨s46,G46,hn46,hp46⟩ := G44.push' (k := 1) (xs := [⟨⟨(([41,48,49,50,52] : List Int).getD r42 0),0,r44,0,[],0⟩,none,0⟩]) (v2 := (v.push [126])) x45 xx45 rfl oo45 b45 x46 g46 (fun x hx => by rw [List.mem_singleton] at hx; subst hx; exact .none (ok1 (by omega) (by omega) ⟨by omega,by omega⟩) (.inr (.inl (Yb (P := fun x => VS.movP x [127] [126]) (L := ([41,48,49,50,52] : List Int)) (by decide) (show r42 < 5 by omega)).1))) (.one ((VS.sg_m G44.m.z.mm rfl (Yb (P := fun x => VS.movP x [127] [126]) (L := ([41,48,49,50,52] : List Int)) (by decide) (show r42 < 5 by omega))).at ok rfl rfl) (ok.push [126]))
                  have rr46 := Nat.le_trans rr44 (Nat.add_le_add_right hn46 R)
                  have NN46 := Nat.le_trans NN44 hn46
                  refine Wk [] rfl (?_)
                  exact Ws.mk [] rfl ⟨_,G46,NN46,by omega⟩
                · obtain rfl : t = 127 := by rcases tv with e | e <;> subst e <;> first | rfl | exact absurd hc (by decide)
                  refine Wr (Wl (Wa rfl rfl (Wa rfl rfl (Wa rfl rfl (Wa rfl rfl (We (v := .slice s40.oa s40.ops.length s40.oc) rfl G40.m.gk rfl ?_))))))
                  refine Wa rfl rfl (Wa rfl rfl (Wa rfl rfl (Wa rfl rfl (We (v := ptr K.pp) rfl G40.m.gk rfl ?_))))
                  refine Wb rfl (G40.c48 (by decide)) ?_
                  rintro _ h47 ⟨r47,n47,rfl,hr47,G47,hn47,hp47,hu47,hz47,x47⟩
                  have rr47 := Nat.le_trans rr40 (Nat.add_le_add_right hn47 R)
                  have NN47 := Nat.le_trans NN40 hn47
                  refine Yn rfl rfl G47.m.gk (v := .slice s40.oa s40.ops.length s40.oc) rfl G47.m.o.sl.same ?_
                  refine Wi (w := .int .u32 (r47 : Int)) rfl rfl (by rw [Ut (by omega)]) (Wa rfl rfl (?_))
                  have o48 := G47.m.o
                  have hops48 : s40.ops.length ≤ 100100 := Zf (K := K) (s := ({ s40 with n := n47 } : Sm)) G47.m (by omega)
                  refine Wj (l := en IM.enc [⟨⟨(([40,44,45,46,47] : List Int).getD r39 0),0,r47,0,[],0⟩,none,0⟩]) rfl rfl fun h48 n48 x48 g48 => ?_
                  refine Xk (m := 1) rfl rfl (o48.ext x48) rfl (OwS.new (n := 1) (c := 1) g48 rfl).sl.first ⟨by omega,by omega⟩ rfl (Xz _) (by decide) fun hh48 a48 c48 xx48 oo48 b48 => ?_
                  refine Wa rfl rfl (Wa rfl rfl (Wm (l := [.slice a48 (({ s40 with n := n47 } : Sm).ops.length + 1) c48]) rfl rfl rfl rfl ((G47.m.gk.ext x48).ext xx48 fun r => (G47.m.no _ r).2.1 rfl) (by simp) rfl fun h49 nn49 x49 g49 => ?_))
                  obtain ⟨s49,G49,hn49,hp49⟩ := G47.push' (k := 1) (xs := [⟨⟨(([40,44,45,46,47] : List Int).getD r39 0),0,r47,0,[],0⟩,none,0⟩]) (v2 := (v.push [127])) x48 xx48 rfl oo48 b48 x49 g49 (fun x hx => by rw [List.mem_singleton] at hx; subst hx; exact .none (ok1 (by omega) (by omega) ⟨by omega,by omega⟩) (.inr (.inl (Yb (P := fun x => VS.movP x [127] [127]) (L := ([40,44,45,46,47] : List Int)) (by decide) (show r39 < 5 by omega)).1))) (.one ((VS.sg_m G47.m.z.mm rfl (Yb (P := fun x => VS.movP x [127] [127]) (L := ([40,44,45,46,47] : List Int)) (by decide) (show r39 < 5 by omega))).at ok rfl rfl) (ok.push [127]))
                  have rr49 := Nat.le_trans rr47 (Nat.add_le_add_right hn49 R)
                  have NN49 := Nat.le_trans NN47 hn49
                  refine Wk [] rfl (?_)
                  exact Ws.mk [] rfl ⟨_,G49,NN49,by omega⟩
              · refine Wd (Wa rfl rfl (Wa rfl rfl (Wa rfl rfl (Wc [(0,_),(1,_),(2,_),(6,_),(7,_),(222,_)] rfl (?_)))))
                refine Wn rfl (fun hc => ?_) (fun hc => ?_)
                · refine Wd (Wa rfl rfl (Wa rfl rfl (Wa rfl rfl (Wa rfl rfl (Wb rfl ((H.e t _ tv).go (v2 := (v.push [t])) G0 r0 (by omega) ok (VS.push_nil _).symm rfl) ?_)))))
                  rintro _ h50 ⟨s50,G50,hn50,hp50⟩
                  have rr50 := Nat.le_trans r0 (Nat.add_le_add_right hn50 R)
                  have NN50 := Nat.le_trans n0 hn50
                  refine Wc [(0,_),(1,_),(2,_)] rfl (?_)
                  refine Wd (Wa rfl rfl (Wa rfl rfl (Wa rfl rfl (Wa rfl rfl (Wb rfl ((H.e t _ tv).go (v2 := (v.push [t,t])) G50 rr50 (by omega) (ok.push [t]) (VS.push_nil _).symm (VS.push_push _ [t] [t])) ?_)))))
                  rintro _ h51 ⟨s51,G51,hn51,hp51⟩
                  have rr51 := Nat.le_trans rr50 (Nat.add_le_add_right hn51 R)
                  have NN51 := Nat.le_trans NN50 hn51
                  refine Wc [(0,_),(2,_)] rfl (?_)
                  refine Wd (Wa rfl rfl (Wa rfl rfl (Wa rfl rfl (Wb rfl ((H.e 127 _ (.inl rfl)).go (v2 := (v.push [t,t,127])) G51 rr51 (by omega) (ok.push [t,t]) (VS.push_nil _).symm (VS.push_push _ [t,t] [127])) ?_))))
                  rintro _ h52 ⟨s52,G52,hn52,hp52⟩
                  have rr52 := Nat.le_trans rr51 (Nat.add_le_add_right hn52 R)
                  have NN52 := Nat.le_trans NN51 hn52
                  refine Wc [(0,_)] rfl (?_)
                  refine Wl (Wa rfl rfl (Wb rfl (G52.c64 (op := 27) (v2 := (v.push [t])) (by omega) (.inl (by decide)) ((VS.sg_choose rfl tv).at ok rfl rfl) (ok.push [t])) ?_))
                  rintro _ h53 ⟨s53,G53,hn53,hp53⟩
                  have rr53 := Nat.le_trans rr52 (Nat.add_le_add_right hn53 R)
                  have NN53 := Nat.le_trans NN52 hn53
                  refine Wk [] rfl (?_)
                  exact Ws.mk [] rfl ⟨_,G53,NN53,by omega⟩
                · refine Wd (Wa rfl rfl (Wa rfl rfl (Wa rfl rfl (Wc [(0,_),(1,_),(2,_),(6,_),(7,_),(241,_)] rfl (?_)))))
                  refine Wn rfl (fun hc => ?_) (fun hc => ?_)
                  · refine Wl (Wa rfl rfl (Wa rfl rfl (Wa rfl rfl (Wb rfl ((H.b2 t _ tv).go (v2 := (v.push [t])) G0 r0 (by omega) ok (VS.push_nil _).symm rfl) ?_))))
                    rintro _ h54 ⟨s54,G54,hn54,hp54⟩
                    have rr54 := Nat.le_trans r0 (Nat.add_le_add_right hn54 R)
                    have NN54 := Nat.le_trans n0 hn54
                    refine Wk [] rfl (?_)
                    exact Ws.mk [] rfl ⟨_,G54,NN54,by omega⟩
                  · refine Wd (Wa rfl rfl (Wa rfl rfl (Wa rfl rfl (Wc [(0,_),(1,_),(2,_),(6,_),(7,_),(248,_)] rfl (?_)))))
                    refine Wn rfl (fun hc => ?_) (fun hc => ?_)
                    · refine Wd (Wa rfl rfl (Wa rfl rfl (Wa rfl rfl (Wb rfl ((H.e 127 _ (.inl rfl)).go (v2 := (v.push [127])) G0 r0 (by omega) ok (VS.push_nil _).symm rfl) ?_))))
                      rintro _ h55 ⟨s55,G55,hn55,hp55⟩
                      have rr55 := Nat.le_trans r0 (Nat.add_le_add_right hn55 R)
                      have NN55 := Nat.le_trans n0 hn55
                      refine Wc [(0,_),(1,_),(2,_)] rfl (?_)
                      refine Wl (Wa rfl rfl (Wa rfl rfl (Wa rfl rfl (Wb rfl ((H.b4 t _ tv).go (v2 := (v.push [t])) G55 rr55 (by omega) ok rfl rfl) ?_))))
                      rintro _ h56 ⟨s56,G56,hn56,hp56⟩
                      have rr56 := Nat.le_trans rr55 (Nat.add_le_add_right hn56 R)
                      have NN56 := Nat.le_trans NN55 hn56
                      refine Wk [] rfl (?_)
                      exact Ws.mk [] rfl ⟨_,G56,NN56,by omega⟩
                    · refine Wd (Wa rfl rfl (Wa rfl rfl (Wa rfl rfl (Wc [(0,_),(1,_),(2,_),(6,_),(7,_),(259,_)] rfl (?_)))))
                      refine Wn rfl (fun hc => ?_) (fun hc => ?_)
                      · refine Wd (Wa rfl rfl (Wc [(0,_),(1,_),(2,_),(262,_)] rfl (?_)))
                        refine Wn rfl (fun hc => ?_) (fun hc => ?_)
                        · obtain rfl : t = 127 := by rcases tv with e | e <;> subst e <;> first | rfl | exact absurd hc (by decide)
                          refine Wd (Wa rfl rfl (Wa rfl rfl (Wa rfl rfl (Wb rfl ((H.e 126 _ (.inr rfl)).go (v2 := (v.push [126])) G0 r0 (by omega) ok (VS.push_nil _).symm rfl) ?_))))
                          rintro _ h57 ⟨s57,G57,hn57,hp57⟩
                          have rr57 := Nat.le_trans r0 (Nat.add_le_add_right hn57 R)
                          have NN57 := Nat.le_trans n0 hn57
                          refine Wc [(0,_)] rfl (?_)
                          refine Wl (Wa rfl rfl (Wb rfl (G57.c64 (op := 167) (v2 := (v.push [127])) (by omega) (.inr (.inr (by decide))) ((VS.sg_n (i := [126]) (o := 127) (by decide)).at ok rfl rfl) (ok.push [127])) ?_))
                          rintro _ h58 ⟨s58,G58,hn58,hp58⟩
                          have rr58 := Nat.le_trans rr57 (Nat.add_le_add_right hn58 R)
                          have NN58 := Nat.le_trans NN57 hn58
                          refine Wk [] rfl (?_)
                          exact Ws.mk [] rfl ⟨_,G58,NN58,by omega⟩
                        · obtain rfl : t = 126 := by rcases tv with e | e <;> subst e <;> first | rfl | exact absurd hc (by decide)
                          refine Wl (Wa rfl rfl (Wa rfl rfl (Wb rfl (G0.c60 (t := 126) (N := 9) (.inr rfl) (by omega) ok) ?_)))
                          rintro _ h59 ⟨s59,G59,hn59,hp59⟩
                          have rr59 := Nat.le_trans r0 (Nat.add_le_add_right hn59 R)
                          have NN59 := Nat.le_trans n0 hn59
                          refine Wk [] rfl (?_)
                          exact Ws.mk [] rfl ⟨_,G59,NN59,by omega⟩
                      · refine Wd (Wa rfl rfl (Wa rfl rfl (Wa rfl rfl (Wc [(0,_),(1,_),(2,_),(272,_)] rfl (?_)))))
                        refine Wn rfl (fun hc => ?_) (fun hc => ?_)
                        · refine Wl (Wa rfl rfl (Wa rfl rfl (Wa rfl rfl (Wb rfl ((H.l t _ tv).go (v2 := (v.push [t])) G0 r0 (by omega) ok (VS.push_nil _).symm rfl) ?_))))
                          rintro _ h60 ⟨s60,G60,hn60,hp60⟩
                          have rr60 := Nat.le_trans r0 (Nat.add_le_add_right hn60 R)
                          have NN60 := Nat.le_trans n0 hn60
                          refine Wk [] rfl (?_)
                          exact Ws.mk [] rfl ⟨_,G60,NN60,by omega⟩
                        · refine Wl (Wa rfl rfl (Wa rfl rfl (Wa rfl rfl (Wb rfl ((H.z t _ tv).go (v2 := (v.push [t])) G0 r0 (by omega) ok (VS.push_nil _).symm rfl) ?_))))
                          rintro _ h61 ⟨s61,G61,hn61,hp61⟩
                          have rr61 := Nat.le_trans r0 (Nat.add_le_add_right hn61 R)
                          have NN61 := Nat.le_trans n0 hn61
                          refine Wk [] rfl (?_)
                          exact Ws.mk [] rfl ⟨_,G61,NN61,by omega⟩
set_option maxHeartbeats 4000000 in
theorem E67 {K : Kt} {R : Nat} (E : ∀ (t : Nat) d,t = 127 ∨ t = 126 → CF K R 25 [ptr K.pk,.int .u8 (t : Int),.int .i64 d] 1 100000 [] [t]) {t : Nat} (tv : t = 127 ∨ t = 126) {d : Int} : CF K R 80 [ptr K.pk,.int .u8 (t : Int),.int .i64 d] 3 99975 [] [t] := by
  intro h s v ok m r0 p0
  rw [VS.push_nil v]
  have G0 := Go.refl m v
  have n0 := Nat.le_refl s.n
  refine fnK F80.fok rfl ?_
  refine Xc (Wd (Wa rfl rfl (Wa rfl rfl (Wc [(0,_),(1,_),(2,_),(7,_)] rfl (?_)))))
  refine Wo rfl (fun hc => ?_) (fun hc => ?_)
  · obtain rfl : t = 126 := by rcases tv with e | e <;> subst e <;> first | rfl | exact absurd hc (by decide)
    refine Xc (Wd (Wa rfl rfl (Wa rfl rfl (Wb rfl (G0.c60 (t := 126) (N := 11) (.inr rfl) (by omega) ok) ?_))))
    rintro _ h1 ⟨s1,G1,hn1,hp1⟩
    have rr1 := Nat.le_trans r0 (Nat.add_le_add_right hn1 R)
    have NN1 := Nat.le_trans n0 hn1
    refine Wc [] rfl (?_)
    refine Yo ?_
    exact Ws.mk [] rfl ⟨_,G1,NN1,by omega⟩
  · obtain rfl : t = 127 := by rcases tv with e | e <;> subst e <;> first | rfl | exact absurd hc (by decide)
    refine Wr (Wd (Wa rfl rfl (Wa rfl rfl (Wa rfl rfl (We (v := ptr K.pp) rfl G0.m.gk rfl ?_)))))
    refine Wb rfl (G0.c48 (by decide)) ?_
    rintro _ h2 ⟨r2,n2,rfl,hr2,G2,hn2,hp2,hu2,hz2,x2⟩
    have rr2 := Nat.le_trans r0 (Nat.add_le_add_right hn2 R)
    have NN2 := Nat.le_trans n0 hn2
    refine Wc [(0,_),(2,_),(15,_)] rfl (?_)
    obtain ⟨s3,G3,hn3,hp3⟩ : ∃ q,Go K h s h2 q v v ∧ ({ s with n := n2 } : Sm).n ≤ q.n ∧ pot K q ≤ pot K ({ s with n := n2 } : Sm) := ⟨_,G2,Nat.le_refl _,Int.le_refl _⟩
    have rr3 := Nat.le_trans rr2 (Nat.add_le_add_right hn3 R)
    have NN3 := Nat.le_trans NN2 hn3
    refine Ze ?_
    refine Wd (Wa rfl rfl (Wa rfl rfl (Wc [(0,_),(2,_),(15,_),(28,_)] rfl (?_))))
    refine Wn rfl (fun hc => ?_) (fun hc => ?_)
    · refine Wl (Wa rfl rfl (Wb rfl (G3.c64 (op := 63) (v2 := (v.push [127])) (by omega) (.inl (by decide)) ((VS.sg_63 G3.m.z.mm rfl).at ok (VS.push_nil _).symm rfl) (ok.push [127])) ?_))
      rintro _ h4 ⟨s4,G4,hn4,hp4⟩
      have rr4 := Nat.le_trans rr3 (Nat.add_le_add_right hn4 R)
      have NN4 := Nat.le_trans NN3 hn4
      refine Wk [] rfl (?_)
      exact Ws.mk [] rfl ⟨_,G4,NN4,by omega⟩
    · refine Wd (Wa rfl rfl (Wa rfl rfl (Wc [(0,_),(2,_),(15,_),(32,_)] rfl (?_))))
      refine Wn rfl (fun hc => ?_) (fun hc => ?_)
      · refine Wd (Wa rfl rfl (Wa rfl rfl (Wa rfl rfl (Wb rfl ((E 127 _ (.inl rfl)).go (v2 := (v.push [127])) G3 rr3 (by omega) ok (VS.push_nil _).symm rfl) ?_))))
        rintro _ h5 ⟨s5,G5,hn5,hp5⟩
        have rr5 := Nat.le_trans rr3 (Nat.add_le_add_right hn5 R)
        have NN5 := Nat.le_trans NN3 hn5
        refine Wc [(0,_)] rfl (?_)
        refine Wl (Wa rfl rfl (Wb rfl (G5.c64 (op := 64) (v2 := (v.push [127])) (by omega) (.inl (by decide)) ((VS.sg_64 G5.m.z.mm rfl).at ok rfl rfl) (ok.push [127])) ?_))
        rintro _ h6 ⟨s6,G6,hn6,hp6⟩
        have rr6 := Nat.le_trans rr5 (Nat.add_le_add_right hn6 R)
        have NN6 := Nat.le_trans NN5 hn6
        refine Wk [] rfl (?_)
        exact Ws.mk [] rfl ⟨_,G6,NN6,by omega⟩
      · refine Wd (Wa rfl rfl (Wa rfl rfl (Wc [(0,_),(2,_),(15,_),(40,_)] rfl (?_))))
        refine Wn rfl (fun hc => ?_) (fun hc => ?_)
        · refine Wl (Wa rfl rfl (Wb rfl (G3.c63 (op := 64528) (a := 0) (v2 := (v.push [127])) (by omega) (by omega) (.inl (by decide)) ((VS.sg_xg G3.m.z.mm rfl rfl).at ok (VS.push_nil _).symm rfl) (ok.push [127])) ?_))
          rintro _ h7 ⟨s7,G7,hn7,hp7⟩
          have rr7 := Nat.le_trans rr3 (Nat.add_le_add_right hn7 R)
          have NN7 := Nat.le_trans NN3 hn7
          refine Wk [] rfl (?_)
          exact Ws.mk [] rfl ⟨_,G7,NN7,by omega⟩
        · refine Wd (Wa rfl rfl (Wa rfl rfl (Wc [(0,_),(2,_),(44,_)] rfl (?_))))
          refine Wn rfl (fun hc => ?_) (fun hc => ?_)
          · refine Wd (Wa rfl rfl (Wa rfl rfl (Wa rfl rfl (Wb rfl ((E 127 _ (.inl rfl)).go (v2 := (v.push [127])) G3 rr3 (by omega) ok (VS.push_nil _).symm rfl) ?_))))
            rintro _ h8 ⟨s8,G8,hn8,hp8⟩
            have rr8 := Nat.le_trans rr3 (Nat.add_le_add_right hn8 R)
            have NN8 := Nat.le_trans NN3 hn8
            refine Wc [(0,_)] rfl (?_)
            refine Wd (Wa rfl rfl (Wb rfl (G8.c63 (op := 37) (a := 0) (v2 := (v.push [112])) (by omega) (by omega) (.inl (by decide)) ((VS.sg_37 G8.m.z.mm rfl rfl).at ok rfl rfl) (ok.push [112])) ?_))
            rintro _ h9 ⟨s9,G9,hn9,hp9⟩
            have rr9 := Nat.le_trans rr8 (Nat.add_le_add_right hn9 R)
            have NN9 := Nat.le_trans NN8 hn9
            refine Wc [(0,_)] rfl (?_)
            refine Wl (Wa rfl rfl (Wb rfl (G9.c64 (op := 209) (v2 := (v.push [127])) (by omega) (.inl (by decide)) ((VS.sg_isn rfl).at ok rfl rfl) (ok.push [127])) ?_))
            rintro _ h10 ⟨s10,G10,hn10,hp10⟩
            have rr10 := Nat.le_trans rr9 (Nat.add_le_add_right hn10 R)
            have NN10 := Nat.le_trans NN9 hn10
            refine Wk [] rfl (?_)
            exact Ws.mk [] rfl ⟨_,G10,NN10,by omega⟩
          · refine Wd (Wa rfl rfl (Wb rfl (G3.c63 (op := 208) (a := 112) (v2 := (v.push [112])) (by omega) (by omega) (.inl (by decide)) ((VS.sg_null rfl rfl).at ok (VS.push_nil _).symm rfl) (ok.push [112])) ?_))
            rintro _ h11 ⟨s11,G11,hn11,hp11⟩
            have rr11 := Nat.le_trans rr3 (Nat.add_le_add_right hn11 R)
            have NN11 := Nat.le_trans NN3 hn11
            refine Wc [(0,_)] rfl (?_)
            refine Wd (Wa rfl rfl (Wa rfl rfl (Wa rfl rfl (Wa rfl rfl (We (v := ptr K.pp) rfl G11.m.gk rfl ?_)))))
            refine Wb rfl (G11.c48 (by decide)) ?_
            rintro _ h12 ⟨r12,n12,rfl,hr12,G12,hn12,hp12,hu12,hz12,x12⟩
            have rr12 := Nat.le_trans rr11 (Nat.add_le_add_right hn12 R)
            have NN12 := Nat.le_trans NN11 hn12
            refine Wi (w := .int .u64 (r12 : Int)) rfl rfl (by rw [Vu (by omega)]) (Wb rfl (G12.c60 (t := 127) (N := r12) (.inl rfl) (by omega) (ok.push [112])) ?_)
            rintro _ h13 ⟨s13,G13,hn13,hp13⟩
            replace G13 := G13.cast (v2 := (v.push [112,127])) (VS.push_push _ [112] [127]).symm
            have rr13 := Nat.le_trans rr12 (Nat.add_le_add_right hn13 R)
            have NN13 := Nat.le_trans NN12 hn13
            refine Wc [(0,_)] rfl (?_)
            refine Wl (Wa rfl rfl (Wb rfl (G13.c63 (op := 64527) (a := 0) (v2 := (v.push [127])) (by omega) (by omega) (.inl (by decide)) ((VS.sg_xf G13.m.z.mm rfl rfl).at ok rfl rfl) (ok.push [127])) ?_))
            rintro _ h14 ⟨s14,G14,hn14,hp14⟩
            have rr14 := Nat.le_trans rr13 (Nat.add_le_add_right hn14 R)
            have NN14 := Nat.le_trans NN13 hn14
            refine Wk [] rfl (?_)
            exact Ws.mk [] rfl ⟨_,G14,NN14,by omega⟩
set_option maxHeartbeats 4000000 in
theorem E65a {K : Kt} {R : Nat} (E : ∀ (t : Nat) d,t = 127 ∨ t = 126 → CF K R 25 [ptr K.pk,.int .u8 (t : Int),.int .i64 d] 1 100000 [] [t]) (S : ∀ n d,n ≤ 1000 → CF K R 24 [ptr K.pk,.int .i64 n,.int .i64 d] 0 100000 [] []) {t : Nat} (tv : t = 127 ∨ t = 126) {d : Int} : CF K R 78 [ptr K.pk,.int .i64 2,.int .u8 (t : Int),.int .i64 d] 8 99975 [] [t] := by
  intro h s v ok m r0 p0
  rw [VS.push_nil v]
  have G0 := Go.refl m v
  have n0 := Nat.le_refl s.n
  refine fnK F78.fok rfl ?_
  refine Wd (Wa rfl rfl (Wa rfl rfl (Wa rfl rfl (We (v := .int .i64 s.deep) rfl G0.m.gk rfl ?_))))
  refine Wa rfl rfl (Wa rfl rfl (Wa rfl rfl (Wm (l := [.int .i64 _]) rfl rfl rfl rfl G0.m.gk (by simp) rfl fun h1 nn1 x1 g1 => ?_)))
  obtain ⟨s1,G1,hn1,hp1⟩ := G0.deep' x1 g1
  have rr1 := Nat.le_trans r0 (Nat.add_le_add_right hn1 R)
  have NN1 := Nat.le_trans n0 hn1
  refine Wc [(0,_),(1,_),(2,_),(3,_)] rfl (?_)
  refine Wd (Wa rfl rfl (Wa rfl rfl (Wa rfl rfl (Wa rfl rfl (We (v := .slice s1.oa s1.ops.length s1.oc) rfl G1.m.gk rfl ?_)))))
  refine Wa rfl rfl (Wa rfl rfl (Wi (w := .int .i64 (t : Int)) rfl rfl (by rw [w64 (by omega)]) (Wi (w := .int .i64 ((t : Int) - 128)) rfl rfl (by rw [w64 (by omega)]) (Wa rfl rfl (?_)))))
  have o2 := G1.m.o
  have hops2 : s1.ops.length ≤ 100100 := Zf (K := K) (s := s1) G1.m (by omega)
  refine Wj (l := en IM.enc [⟨⟨2,0,0,0,[],((t : Int) - 128)⟩,none,0⟩]) rfl rfl fun h2 n2 x2 g2 => ?_
  refine Xk (m := 1) rfl rfl (o2.ext x2) rfl (OwS.new (n := 1) (c := 1) g2 rfl).sl.first ⟨by omega,by omega⟩ rfl (Xz _) (by decide) fun hh2 a2 c2 xx2 oo2 b2 => ?_
  refine Wa rfl rfl (Wa rfl rfl (Wm (l := [.slice a2 (s1.ops.length + 1) c2]) rfl rfl rfl rfl ((G1.m.gk.ext x2).ext xx2 fun r => (G1.m.no _ r).2.1 rfl) (by simp) rfl fun h3 nn3 x3 g3 => ?_))
  obtain ⟨s3,G3,hn3,hp3⟩ := G1.push' (k := 1) (xs := [⟨⟨2,0,0,0,[],((t : Int) - 128)⟩,none,0⟩]) (v2 := (v.opens 2 [] [t])) x2 xx2 rfl oo2 b2 x3 g3 (fun x hx => by rw [List.mem_singleton] at hx; subst hx; exact .none (ok1 (by omega) (by omega) ⟨by omega,by omega⟩) (.inl (by decide))) (.one (VS.one_blk (.inl rfl) (.inr ⟨t,tv,rfl,rfl⟩) _) (ok.opens 2 [t]))
  have rr3 := Nat.le_trans rr1 (Nat.add_le_add_right hn3 R)
  have NN3 := Nat.le_trans NN1 hn3
  refine Wc [(0,_),(1,_),(2,_),(3,_)] rfl (?_)
  refine Wd (Wa rfl rfl (Wa rfl rfl (Wa rfl rfl (Wb rfl ((S _ _ (by omega)).go (v2 := (v.opens 2 [] [t])) G3 rr3 (by omega) (ok.opens 2 [t]) (VS.push_nil _).symm (VS.push_nil _).symm) ?_))))
  rintro _ h4 ⟨s4,G4,hn4,hp4⟩
  have rr4 := Nat.le_trans rr3 (Nat.add_le_add_right hn4 R)
  have NN4 := Nat.le_trans NN3 hn4
  refine Wc [(0,_),(1,_),(2,_),(3,_)] rfl (?_)
  refine Wd (Wa rfl rfl (Wa rfl rfl (Wa rfl rfl (Wa rfl rfl (Wb rfl ((E t _ tv).go (v2 := ((v.opens 2 [] [t]).push [t])) G4 rr4 (by omega) (ok.opens 2 [t]) (VS.push_nil _).symm rfl) ?_)))))
  rintro _ h5 ⟨s5,G5,hn5,hp5⟩
  have rr5 := Nat.le_trans rr4 (Nat.add_le_add_right hn5 R)
  have NN5 := Nat.le_trans NN4 hn5
  refine Wc [(0,_),(1,_),(2,_),(3,_)] rfl (?_)
  refine Xc (Wd (Wa rfl rfl (Wa rfl rfl (Wa rfl rfl (We (v := ptr K.pp) rfl G5.m.gk rfl ?_)))))
  refine Wb rfl (G5.c48 (by decide)) ?_
  rintro _ h6 ⟨r6,n6,rfl,hr6,G6,hn6,hp6,hu6,hz6,x6⟩
  have rr6 := Nat.le_trans rr5 (Nat.add_le_add_right hn6 R)
  have NN6 := Nat.le_trans NN5 hn6
  refine Wa rfl rfl (Wc [(0,_),(1,_),(2,_),(3,_),(43,_)] rfl (?_))
  obtain ⟨s7,G7,hn7,hp7⟩ : ∃ q,Go K h s h6 q v ((v.opens 2 [] [t]).push [t]) ∧ ({ s5 with n := n6 } : Sm).n ≤ q.n ∧ pot K q ≤ pot K ({ s5 with n := n6 } : Sm) := ⟨_,G6,Nat.le_refl _,Int.le_refl _⟩
  have rr7 := Nat.le_trans rr6 (Nat.add_le_add_right hn7 R)
  have NN7 := Nat.le_trans NN6 hn7
  refine Wo rfl (fun hc => ?_) (fun hc => ?_)
  · refine Xc (Wd (Wa rfl rfl (Wa rfl rfl (Wa rfl rfl (Wb rfl ((E 127 _ (.inl rfl)).go (v2 := ((v.opens 2 [] [t]).push [t,127])) G7 rr7 (by omega) ((ok.opens 2 [t]).push [t]) (VS.push_nil _).symm (VS.push_push _ [t] [127])) ?_)))))
    rintro _ h8 ⟨s8,G8,hn8,hp8⟩
    have rr8 := Nat.le_trans rr7 (Nat.add_le_add_right hn8 R)
    have NN8 := Nat.le_trans NN7 hn8
    refine Wc [(0,_),(1,_),(2,_),(3,_)] rfl (?_)
    refine Wd (Wa rfl rfl (Wb rfl (G8.c63 (op := 13) (a := 0) (v2 := ((v.opens 2 [] [t]).push [t])) (by omega) (by omega) (.inl (by decide)) (VS.one_brif rfl rfl (by decide) (to := [t]) ok) ((ok.opens 2 [t]).push [t])) ?_))
    rintro _ h9 ⟨s9,G9,hn9,hp9⟩
    have rr9 := Nat.le_trans rr8 (Nat.add_le_add_right hn9 R)
    have NN9 := Nat.le_trans NN8 hn9
    refine Wc [(0,_),(1,_),(2,_),(3,_)] rfl (?_)
    refine Xc (Wd (Wa rfl rfl (Wa rfl rfl (Wc [(0,_),(2,_),(3,_),(51,_)] rfl (?_)))))
    refine Wo rfl (fun hc => absurd hc (by decide)) (fun _ => ?_)
    refine Wr (Wd (Wa rfl rfl (Wb rfl (G9.c64 (op := 11) (v2 := (v.push [t])) (by omega) (.inl (by decide)) (VS.one_end rfl (fun h => absurd h (by decide)) ok) (ok.push [t])) ?_)))
    rintro _ h10 ⟨s10,G10,hn10,hp10⟩
    have rr10 := Nat.le_trans rr9 (Nat.add_le_add_right hn10 R)
    have NN10 := Nat.le_trans NN9 hn10
    refine Wc [(0,_)] rfl (?_)
    refine Wl (Wa rfl rfl (Wa rfl rfl (Wa rfl rfl (We (v := .int .i64 s10.deep) rfl G10.m.gk rfl ?_))))
    refine Wa rfl rfl (Wa rfl rfl (Wa rfl rfl (Wm (l := [.int .i64 _]) rfl rfl rfl rfl G10.m.gk (by simp) rfl fun h11 nn11 x11 g11 => ?_)))
    obtain ⟨s11,G11,hn11,hp11⟩ := G10.deep' x11 g11
    have rr11 := Nat.le_trans rr10 (Nat.add_le_add_right hn11 R)
    have NN11 := Nat.le_trans NN10 hn11
    refine Wk [] rfl (?_)
    exact Ws.mk [] rfl ⟨_,G11,NN11,by omega⟩
  · refine Wr (Xc (Wd (Wa rfl rfl (Wa rfl rfl (Wc [(0,_),(2,_),(3,_),(51,_)] rfl (?_))))))
    refine Wo rfl (fun hc => absurd hc (by decide)) (fun _ => ?_)
    refine Wr (Wd (Wa rfl rfl (Wb rfl (G7.c64 (op := 11) (v2 := (v.push [t])) (by omega) (.inl (by decide)) (VS.one_end rfl (fun h => absurd h (by decide)) ok) (ok.push [t])) ?_)))
    rintro _ h12 ⟨s12,G12,hn12,hp12⟩
    have rr12 := Nat.le_trans rr7 (Nat.add_le_add_right hn12 R)
    have NN12 := Nat.le_trans NN7 hn12
    refine Wc [(0,_)] rfl (?_)
    refine Wl (Wa rfl rfl (Wa rfl rfl (Wa rfl rfl (We (v := .int .i64 s12.deep) rfl G12.m.gk rfl ?_))))
    refine Wa rfl rfl (Wa rfl rfl (Wa rfl rfl (Wm (l := [.int .i64 _]) rfl rfl rfl rfl G12.m.gk (by simp) rfl fun h13 nn13 x13 g13 => ?_)))
    obtain ⟨s13,G13,hn13,hp13⟩ := G12.deep' x13 g13
    have rr13 := Nat.le_trans rr12 (Nat.add_le_add_right hn13 R)
    have NN13 := Nat.le_trans NN12 hn13
    refine Wk [] rfl (?_)
    exact Ws.mk [] rfl ⟨_,G13,NN13,by omega⟩
set_option maxHeartbeats 4000000 in
theorem E65b {K : Kt} {R : Nat} (E : ∀ (t : Nat) d,t = 127 ∨ t = 126 → CF K R 25 [ptr K.pk,.int .u8 (t : Int),.int .i64 d] 1 100000 [] [t]) (S : ∀ n d,n ≤ 1000 → CF K R 24 [ptr K.pk,.int .i64 n,.int .i64 d] 0 100000 [] []) {t : Nat} (tv : t = 127 ∨ t = 126) {d : Int} : CF K R 78 [ptr K.pk,.int .i64 4,.int .u8 (t : Int),.int .i64 d] 8 99975 [127] [t] := by
  intro h s v ok m r0 p0
  have G0 := Go.refl m (v.push [127])
  have n0 := Nat.le_refl s.n
  refine fnK F78.fok rfl ?_
  refine Wd (Wa rfl rfl (Wa rfl rfl (Wa rfl rfl (We (v := .int .i64 s.deep) rfl G0.m.gk rfl ?_))))
  refine Wa rfl rfl (Wa rfl rfl (Wa rfl rfl (Wm (l := [.int .i64 _]) rfl rfl rfl rfl G0.m.gk (by simp) rfl fun h1 nn1 x1 g1 => ?_)))
  obtain ⟨s1,G1,hn1,hp1⟩ := G0.deep' x1 g1
  have rr1 := Nat.le_trans r0 (Nat.add_le_add_right hn1 R)
  have NN1 := Nat.le_trans n0 hn1
  refine Wc [(0,_),(1,_),(2,_),(3,_)] rfl (?_)
  refine Wd (Wa rfl rfl (Wa rfl rfl (Wa rfl rfl (Wa rfl rfl (We (v := .slice s1.oa s1.ops.length s1.oc) rfl G1.m.gk rfl ?_)))))
  refine Wa rfl rfl (Wa rfl rfl (Wi (w := .int .i64 (t : Int)) rfl rfl (by rw [w64 (by omega)]) (Wi (w := .int .i64 ((t : Int) - 128)) rfl rfl (by rw [w64 (by omega)]) (Wa rfl rfl (?_)))))
  have o2 := G1.m.o
  have hops2 : s1.ops.length ≤ 100100 := Zf (K := K) (s := s1) G1.m (by omega)
  refine Wj (l := en IM.enc [⟨⟨4,0,0,0,[],((t : Int) - 128)⟩,none,0⟩]) rfl rfl fun h2 n2 x2 g2 => ?_
  refine Xk (m := 1) rfl rfl (o2.ext x2) rfl (OwS.new (n := 1) (c := 1) g2 rfl).sl.first ⟨by omega,by omega⟩ rfl (Xz _) (by decide) fun hh2 a2 c2 xx2 oo2 b2 => ?_
  refine Wa rfl rfl (Wa rfl rfl (Wm (l := [.slice a2 (s1.ops.length + 1) c2]) rfl rfl rfl rfl ((G1.m.gk.ext x2).ext xx2 fun r => (G1.m.no _ r).2.1 rfl) (by simp) rfl fun h3 nn3 x3 g3 => ?_))
  obtain ⟨s3,G3,hn3,hp3⟩ := G1.push' (k := 1) (xs := [⟨⟨4,0,0,0,[],((t : Int) - 128)⟩,none,0⟩]) (v2 := (v.opens 4 [] [t])) x2 xx2 rfl oo2 b2 x3 g3 (fun x hx => by rw [List.mem_singleton] at hx; subst hx; exact .none (ok1 (by omega) (by omega) ⟨by omega,by omega⟩) (.inl (by decide))) (.one (VS.one_if rfl (.inr ⟨t,tv,rfl,rfl⟩) ok) (ok.opens 4 [t]))
  have rr3 := Nat.le_trans rr1 (Nat.add_le_add_right hn3 R)
  have NN3 := Nat.le_trans NN1 hn3
  refine Wc [(0,_),(1,_),(2,_),(3,_)] rfl (?_)
  refine Wd (Wa rfl rfl (Wa rfl rfl (Wa rfl rfl (Wb rfl ((S _ _ (by omega)).go (v2 := (v.opens 4 [] [t])) G3 rr3 (by omega) (ok.opens 4 [t]) (VS.push_nil _).symm (VS.push_nil _).symm) ?_))))
  rintro _ h4 ⟨s4,G4,hn4,hp4⟩
  have rr4 := Nat.le_trans rr3 (Nat.add_le_add_right hn4 R)
  have NN4 := Nat.le_trans NN3 hn4
  refine Wc [(0,_),(1,_),(2,_),(3,_)] rfl (?_)
  refine Wd (Wa rfl rfl (Wa rfl rfl (Wa rfl rfl (Wa rfl rfl (Wb rfl ((E t _ tv).go (v2 := ((v.opens 4 [] [t]).push [t])) G4 rr4 (by omega) (ok.opens 4 [t]) (VS.push_nil _).symm rfl) ?_)))))
  rintro _ h5 ⟨s5,G5,hn5,hp5⟩
  have rr5 := Nat.le_trans rr4 (Nat.add_le_add_right hn5 R)
  have NN5 := Nat.le_trans NN4 hn5
  refine Wc [(0,_),(1,_),(2,_),(3,_)] rfl (?_)
  refine Xc (Wd (Wa rfl rfl (Wa rfl rfl (Wa rfl rfl (We (v := ptr K.pp) rfl G5.m.gk rfl ?_)))))
  refine Wb rfl (G5.c48 (by decide)) ?_
  rintro _ h6 ⟨r6,n6,rfl,hr6,G6,hn6,hp6,hu6,hz6,x6⟩
  have rr6 := Nat.le_trans rr5 (Nat.add_le_add_right hn6 R)
  have NN6 := Nat.le_trans NN5 hn6
  refine Wa rfl rfl (Wc [(0,_),(1,_),(2,_),(3,_),(43,_)] rfl (?_))
  obtain ⟨s7,G7,hn7,hp7⟩ : ∃ q,Go K h s h6 q (v.push [127]) ((v.opens 4 [] [t]).push [t]) ∧ ({ s5 with n := n6 } : Sm).n ≤ q.n ∧ pot K q ≤ pot K ({ s5 with n := n6 } : Sm) := ⟨_,G6,Nat.le_refl _,Int.le_refl _⟩
  have rr7 := Nat.le_trans rr6 (Nat.add_le_add_right hn7 R)
  have NN7 := Nat.le_trans NN6 hn7
  refine Wo rfl (fun hc => ?_) (fun hc => ?_)
  · refine Xc (Wd (Wa rfl rfl (Wa rfl rfl (Wa rfl rfl (Wb rfl ((E 127 _ (.inl rfl)).go (v2 := ((v.opens 4 [] [t]).push [t,127])) G7 rr7 (by omega) ((ok.opens 4 [t]).push [t]) (VS.push_nil _).symm (VS.push_push _ [t] [127])) ?_)))))
    rintro _ h8 ⟨s8,G8,hn8,hp8⟩
    have rr8 := Nat.le_trans rr7 (Nat.add_le_add_right hn8 R)
    have NN8 := Nat.le_trans NN7 hn8
    refine Wc [(0,_),(1,_),(2,_),(3,_)] rfl (?_)
    refine Wd (Wa rfl rfl (Wb rfl (G8.c63 (op := 13) (a := 0) (v2 := ((v.opens 4 [] [t]).push [t])) (by omega) (by omega) (.inl (by decide)) (VS.one_brif rfl rfl (by decide) (to := [t]) ok) ((ok.opens 4 [t]).push [t])) ?_))
    rintro _ h9 ⟨s9,G9,hn9,hp9⟩
    have rr9 := Nat.le_trans rr8 (Nat.add_le_add_right hn9 R)
    have NN9 := Nat.le_trans NN8 hn9
    refine Wc [(0,_),(1,_),(2,_),(3,_)] rfl (?_)
    refine Xc (Wd (Wa rfl rfl (Wa rfl rfl (Wc [(0,_),(2,_),(3,_),(51,_)] rfl (?_)))))
    refine Wo rfl (fun _ => ?_) (fun hc => absurd hc (by decide))
    refine Xc (Wd (Wa rfl rfl (Wb rfl (G9.c64 (op := 5) (v2 := (v.opens 5 [] [t])) (by omega) (.inl (by decide)) (VS.one_els rfl ok) (ok.opens 5 [t])) ?_)))
    rintro _ h10 ⟨s10,G10,hn10,hp10⟩
    have rr10 := Nat.le_trans rr9 (Nat.add_le_add_right hn10 R)
    have NN10 := Nat.le_trans NN9 hn10
    refine Wc [(0,_),(2,_),(3,_)] rfl (?_)
    refine Wd (Wa rfl rfl (Wa rfl rfl (Wa rfl rfl (Wa rfl rfl (Wb rfl ((E t _ tv).go (v2 := ((v.opens 5 [] [t]).push [t])) G10 rr10 (by omega) (ok.opens 5 [t]) (VS.push_nil _).symm rfl) ?_)))))
    rintro _ h11 ⟨s11,G11,hn11,hp11⟩
    have rr11 := Nat.le_trans rr10 (Nat.add_le_add_right hn11 R)
    have NN11 := Nat.le_trans NN10 hn11
    refine Wc [(0,_)] rfl (?_)
    refine Wd (Wa rfl rfl (Wb rfl (G11.c64 (op := 11) (v2 := (v.push [t])) (by omega) (.inl (by decide)) (VS.one_end rfl (fun h => absurd h (by decide)) ok) (ok.push [t])) ?_))
    rintro _ h12 ⟨s12,G12,hn12,hp12⟩
    have rr12 := Nat.le_trans rr11 (Nat.add_le_add_right hn12 R)
    have NN12 := Nat.le_trans NN11 hn12
    refine Wc [(0,_)] rfl (?_)
    refine Wl (Wa rfl rfl (Wa rfl rfl (Wa rfl rfl (We (v := .int .i64 s12.deep) rfl G12.m.gk rfl ?_))))
    refine Wa rfl rfl (Wa rfl rfl (Wa rfl rfl (Wm (l := [.int .i64 _]) rfl rfl rfl rfl G12.m.gk (by simp) rfl fun h13 nn13 x13 g13 => ?_)))
    obtain ⟨s13,G13,hn13,hp13⟩ := G12.deep' x13 g13
    have rr13 := Nat.le_trans rr12 (Nat.add_le_add_right hn13 R)
    have NN13 := Nat.le_trans NN12 hn13
    refine Wk [] rfl (?_)
    exact Ws.mk [] rfl ⟨_,G13,NN13,by omega⟩
  · refine Wr (Xc (Wd (Wa rfl rfl (Wa rfl rfl (Wc [(0,_),(2,_),(3,_),(51,_)] rfl (?_))))))
    refine Wo rfl (fun _ => ?_) (fun hc => absurd hc (by decide))
    refine Xc (Wd (Wa rfl rfl (Wb rfl (G7.c64 (op := 5) (v2 := (v.opens 5 [] [t])) (by omega) (.inl (by decide)) (VS.one_els rfl ok) (ok.opens 5 [t])) ?_)))
    rintro _ h14 ⟨s14,G14,hn14,hp14⟩
    have rr14 := Nat.le_trans rr7 (Nat.add_le_add_right hn14 R)
    have NN14 := Nat.le_trans NN7 hn14
    refine Wc [(0,_),(2,_),(3,_)] rfl (?_)
    refine Wd (Wa rfl rfl (Wa rfl rfl (Wa rfl rfl (Wa rfl rfl (Wb rfl ((E t _ tv).go (v2 := ((v.opens 5 [] [t]).push [t])) G14 rr14 (by omega) (ok.opens 5 [t]) (VS.push_nil _).symm rfl) ?_)))))
    rintro _ h15 ⟨s15,G15,hn15,hp15⟩
    have rr15 := Nat.le_trans rr14 (Nat.add_le_add_right hn15 R)
    have NN15 := Nat.le_trans NN14 hn15
    refine Wc [(0,_)] rfl (?_)
    refine Wd (Wa rfl rfl (Wb rfl (G15.c64 (op := 11) (v2 := (v.push [t])) (by omega) (.inl (by decide)) (VS.one_end rfl (fun h => absurd h (by decide)) ok) (ok.push [t])) ?_))
    rintro _ h16 ⟨s16,G16,hn16,hp16⟩
    have rr16 := Nat.le_trans rr15 (Nat.add_le_add_right hn16 R)
    have NN16 := Nat.le_trans NN15 hn16
    refine Wc [(0,_)] rfl (?_)
    refine Wl (Wa rfl rfl (Wa rfl rfl (Wa rfl rfl (We (v := .int .i64 s16.deep) rfl G16.m.gk rfl ?_))))
    refine Wa rfl rfl (Wa rfl rfl (Wa rfl rfl (Wm (l := [.int .i64 _]) rfl rfl rfl rfl G16.m.gk (by simp) rfl fun h17 nn17 x17 g17 => ?_)))
    obtain ⟨s17,G17,hn17,hp17⟩ := G16.deep' x17 g17
    have rr17 := Nat.le_trans rr16 (Nat.add_le_add_right hn17 R)
    have NN17 := Nat.le_trans NN16 hn17
    refine Wk [] rfl (?_)
    exact Ws.mk [] rfl ⟨_,G17,NN17,by omega⟩
set_option maxHeartbeats 4000000 in
theorem E76 {K : Kt} {R : Nat} (S : ∀ n d,n ≤ 1000 → CF K R 24 [ptr K.pk,.int .i64 n,.int .i64 d] 0 100000 [] []) {d : Int} : CF K R 129 [ptr K.pk,.int .i64 d] 14 99975 [] [] := by
  intro h s v ok m r0 p0
  rw [VS.push_nil v]
  have G0 := Go.refl m v
  have n0 := Nat.le_refl s.n
  have hll := m.z.ll
  have hl0 := m.z.l0
  have hlast : K.ls.length - 1 < K.ls.length := by omega
  refine fnK F129.fok rfl ?_
  refine Wd (Wa rfl rfl (Wa rfl rfl (Wa rfl rfl (We (v := .slice K.la K.ls.length K.lc) rfl G0.m.gk rfl ?_))))
  refine Wa rfl rfl (Wi (w := .int .i64 ((K.ls.length - 1 : Nat) : Int)) rfl rfl (by rw [w64 (by omega)]; congr 1; omega) (Wi (w := .int .u32 ((K.ls.length - 1 : Nat) : Int)) rfl rfl (by rw [Ut (by omega)]) (Wa rfl rfl (Wc [(0,_),(1,_),(4,_)] rfl (?_)))))
  refine Xc (Wd (Wa rfl rfl (Wa rfl rfl (Wa rfl rfl (We (v := .int .i64 s.deep) rfl G0.m.gk rfl ?_)))))
  refine Wa rfl rfl (Wc [(0,_),(1,_),(4,_),(16,_)] rfl (?_))
  refine Wo rfl (fun hc => ?_) (fun hc => ?_)
  · refine Xc (Wd (Wa rfl rfl (Wb rfl (G0.c64 (op := 1) (v2 := v) (by omega) (.inl (by decide)) ((VS.sg_nop rfl).at ok (VS.push_nil _).symm (VS.push_nil _).symm) ok) ?_)))
    rintro _ h1 ⟨s1,G1,hn1,hp1⟩
    have rr1 := Nat.le_trans r0 (Nat.add_le_add_right hn1 R)
    have NN1 := Nat.le_trans n0 hn1
    refine Wc [] rfl (?_)
    refine Yo ?_
    exact Ws.mk [] rfl ⟨_,G1,NN1,by omega⟩
  · refine Wr (Wd (Wa rfl rfl (Wa rfl rfl (Wa rfl rfl (Wa rfl rfl (We (v := .int .i64 s.deep) rfl G0.m.gk rfl ?_))))))
    refine Wa rfl rfl (Wa rfl rfl (Wa rfl rfl (Wm (l := [.int .i64 _]) rfl rfl rfl rfl G0.m.gk (by simp) rfl fun h2 nn2 x2 g2 => ?_)))
    obtain ⟨s2,G2,hn2,hp2⟩ := G0.deep' x2 g2
    have rr2 := Nat.le_trans r0 (Nat.add_le_add_right hn2 R)
    have NN2 := Nat.le_trans n0 hn2
    refine Wc [(0,_),(1,_),(4,_)] rfl (?_)
    refine Wd (Wa rfl rfl (Wa rfl rfl (Wa rfl rfl (Wa rfl rfl (We (v := ptr K.pp) rfl G2.m.gk rfl ?_)))))
    refine Wb rfl (G2.c48 (by decide)) ?_
    rintro _ h3 ⟨r3,n3,rfl,hr3,G3,hn3,hp3,hu3,hz3,x3⟩
    have rr3 := Nat.le_trans rr2 (Nat.add_le_add_right hn3 R)
    have NN3 := Nat.le_trans NN2 hn3
    refine Wi (w := .int .u64 (r3 : Int)) rfl rfl (by rw [Vu (by omega)]) (Wb rfl (G3.c60 (t := 127) (N := r3) (.inl rfl) (by omega) ok) ?_)
    rintro _ h4 ⟨s4,G4,hn4,hp4⟩
    have rr4 := Nat.le_trans rr3 (Nat.add_le_add_right hn4 R)
    have NN4 := Nat.le_trans NN3 hn4
    refine Wc [(0,_),(1,_),(4,_)] rfl (?_)
    refine Wd (Wa rfl rfl (Wa rfl rfl (Wb rfl (G4.c63 (op := 33) (a := (K.ls.length - 1)) (v2 := v) (by omega) (by omega) (.inl (by decide)) ((VS.sg_set rfl hlast G4.m.z.l7).at ok rfl (VS.push_nil _).symm) ok) ?_)))
    rintro _ h5 ⟨s5,G5,hn5,hp5⟩
    have rr5 := Nat.le_trans rr4 (Nat.add_le_add_right hn5 R)
    have NN5 := Nat.le_trans NN4 hn5
    refine Wc [(0,_),(1,_),(4,_)] rfl (?_)
    refine Wd (Wa rfl rfl (Wa rfl rfl (Wa rfl rfl (Wa rfl rfl (We (v := .slice s5.oa s5.ops.length s5.oc) rfl G5.m.gk rfl ?_)))))
    refine Wa rfl rfl (Wa rfl rfl (?_))
    have o6 := G5.m.o
    have hops6 : s5.ops.length ≤ 100100 := Zf (K := K) (s := s5) G5.m (by omega)
    refine Wj (l := en IM.enc [⟨⟨2,0,0,0,[],(-64)⟩,none,0⟩,⟨⟨3,0,0,0,[],(-64)⟩,none,0⟩]) rfl rfl fun h6 n6 x6 g6 => ?_
    refine Xk (m := 2) rfl rfl (o6.ext x6) rfl (OwS.new (n := 2) (c := 1) g6 rfl).sl.first ⟨by omega,by omega⟩ rfl (Xz _) (by decide) fun hh6 a6 c6 xx6 oo6 b6 => ?_
    refine Wa rfl rfl (Wa rfl rfl (Wm (l := [.slice a6 (s5.ops.length + 2) c6]) rfl rfl rfl rfl ((G5.m.gk.ext x6).ext xx6 fun r => (G5.m.no _ r).2.1 rfl) (by simp) rfl fun h7 nn7 x7 g7 => ?_))
    obtain ⟨s7,G7,hn7,hp7⟩ := G5.push' (k := 2) (xs := [⟨⟨2,0,0,0,[],(-64)⟩,none,0⟩,⟨⟨3,0,0,0,[],(-64)⟩,none,0⟩]) (v2 := ((v.opens 2 [] []).opens 3 [] [])) x6 xx6 rfl oo6 b6 x7 g7 (fun x hx => by rcases List.mem_cons.1 hx with hx | hx; (subst hx; exact .none (ok1 (by omega) (by omega) ⟨by omega,by omega⟩) (.inl (by decide))); (rw [List.mem_singleton] at hx; subst hx; exact .none (ok1 (by omega) (by omega) ⟨by omega,by omega⟩) (.inl (by decide)))) (.two (VS.one_blk (.inl rfl) (.inl ⟨rfl,rfl⟩) _) (ok.opens 2 []) (VS.one_blk (.inr rfl) (.inl ⟨rfl,rfl⟩) _) ((ok.opens 2 []).opens 3 []))
    have rr7 := Nat.le_trans rr5 (Nat.add_le_add_right hn7 R)
    have NN7 := Nat.le_trans NN5 hn7
    refine Wc [(0,_),(1,_),(4,_)] rfl (?_)
    refine Wd (Wa rfl rfl (Wa rfl rfl (Wb rfl (G7.c63 (op := 32) (a := (K.ls.length - 1)) (v2 := (((v.opens 2 [] []).opens 3 [] []).push [127])) (by omega) (by omega) (.inl (by decide)) ((VS.sg_get rfl hlast G7.m.z.l7).at ((ok.opens 2 []).opens 3 []) (VS.push_nil _).symm rfl) (((ok.opens 2 []).opens 3 []).push [127])) ?_)))
    rintro _ h8 ⟨s8,G8,hn8,hp8⟩
    have rr8 := Nat.le_trans rr7 (Nat.add_le_add_right hn8 R)
    have NN8 := Nat.le_trans NN7 hn8
    refine Wc [(0,_),(1,_),(4,_)] rfl (?_)
    refine Wd (Wa rfl rfl (Wb rfl (G8.c64 (op := 69) (v2 := (((v.opens 2 [] []).opens 3 [] []).push [127])) (by omega) (.inr (.inr (by decide))) ((VS.sg_n (i := [127]) (o := 127) (by decide)).at ((ok.opens 2 []).opens 3 []) rfl rfl) (((ok.opens 2 []).opens 3 []).push [127])) ?_))
    rintro _ h9 ⟨s9,G9,hn9,hp9⟩
    have rr9 := Nat.le_trans rr8 (Nat.add_le_add_right hn9 R)
    have NN9 := Nat.le_trans NN8 hn9
    refine Wc [(0,_),(1,_),(4,_)] rfl (?_)
    refine Wd (Wa rfl rfl (Wb rfl (G9.c63 (op := 13) (a := 1) (v2 := ((v.opens 2 [] []).opens 3 [] [])) (by omega) (by omega) (.inl (by decide)) (VS.one_brif1 rfl rfl ok) ((ok.opens 2 []).opens 3 [])) ?_))
    rintro _ h10 ⟨s10,G10,hn10,hp10⟩
    have rr10 := Nat.le_trans rr9 (Nat.add_le_add_right hn10 R)
    have NN10 := Nat.le_trans NN9 hn10
    refine Wc [(0,_),(1,_),(4,_)] rfl (?_)
    refine Wd (Wa rfl rfl (Wa rfl rfl (Wb rfl (G10.c63 (op := 32) (a := (K.ls.length - 1)) (v2 := (((v.opens 2 [] []).opens 3 [] []).push [127])) (by omega) (by omega) (.inl (by decide)) ((VS.sg_get rfl hlast G10.m.z.l7).at ((ok.opens 2 []).opens 3 []) (VS.push_nil _).symm rfl) (((ok.opens 2 []).opens 3 []).push [127])) ?_)))
    rintro _ h11 ⟨s11,G11,hn11,hp11⟩
    have rr11 := Nat.le_trans rr10 (Nat.add_le_add_right hn11 R)
    have NN11 := Nat.le_trans NN10 hn11
    refine Wc [(0,_),(1,_),(4,_)] rfl (?_)
    refine Wd (Wa rfl rfl (Wb rfl (G11.c60 (t := 127) (N := 1) (.inl rfl) (by omega) (((ok.opens 2 []).opens 3 []).push [127])) ?_))
    rintro _ h12 ⟨s12,G12,hn12,hp12⟩
    replace G12 := G12.cast (v2 := (((v.opens 2 [] []).opens 3 [] []).push [127,127])) (VS.push_push _ [127] [127]).symm
    have rr12 := Nat.le_trans rr11 (Nat.add_le_add_right hn12 R)
    have NN12 := Nat.le_trans NN11 hn12
    refine Wc [(0,_),(1,_),(4,_)] rfl (?_)
    refine Wd (Wa rfl rfl (Wb rfl (G12.c64 (op := 107) (v2 := (((v.opens 2 [] []).opens 3 [] []).push [127])) (by omega) (.inr (.inr (by decide))) ((VS.sg_n (i := [127,127]) (o := 127) (by decide)).at ((ok.opens 2 []).opens 3 []) rfl rfl) (((ok.opens 2 []).opens 3 []).push [127])) ?_))
    rintro _ h13 ⟨s13,G13,hn13,hp13⟩
    have rr13 := Nat.le_trans rr12 (Nat.add_le_add_right hn13 R)
    have NN13 := Nat.le_trans NN12 hn13
    refine Wc [(0,_),(1,_),(4,_)] rfl (?_)
    refine Wd (Wa rfl rfl (Wa rfl rfl (Wb rfl (G13.c63 (op := 33) (a := (K.ls.length - 1)) (v2 := ((v.opens 2 [] []).opens 3 [] [])) (by omega) (by omega) (.inl (by decide)) ((VS.sg_set rfl hlast G13.m.z.l7).at ((ok.opens 2 []).opens 3 []) rfl (VS.push_nil _).symm) ((ok.opens 2 []).opens 3 [])) ?_)))
    rintro _ h14 ⟨s14,G14,hn14,hp14⟩
    have rr14 := Nat.le_trans rr13 (Nat.add_le_add_right hn14 R)
    have NN14 := Nat.le_trans NN13 hn14
    refine Wc [(0,_),(1,_)] rfl (?_)
    refine Wd (Wa rfl rfl (Wa rfl rfl (Wa rfl rfl (Wa rfl rfl (We (v := ptr K.pp) rfl G14.m.gk rfl ?_)))))
    refine Wb rfl (G14.c48 (by decide)) ?_
    rintro _ h15 ⟨r15,n15,rfl,hr15,G15,hn15,hp15,hu15,hz15,x15⟩
    have rr15 := Nat.le_trans rr14 (Nat.add_le_add_right hn15 R)
    have NN15 := Nat.le_trans NN14 hn15
    refine Wi (w := .int .i64 (1 + (r15 : Int))) rfl rfl (by rw [w64 (by omega)]) (Wa rfl rfl (Wa rfl rfl (Wb rfl ((S _ _ (by omega)).go (v2 := ((v.opens 2 [] []).opens 3 [] [])) G15 rr15 (by omega) ((ok.opens 2 []).opens 3 []) (VS.push_nil _).symm (VS.push_nil _).symm) ?_)))
    rintro _ h16 ⟨s16,G16,hn16,hp16⟩
    have rr16 := Nat.le_trans rr15 (Nat.add_le_add_right hn16 R)
    have NN16 := Nat.le_trans NN15 hn16
    refine Wc [(0,_)] rfl (?_)
    refine Wd (Wa rfl rfl (Wb rfl (G16.c63 (op := 12) (a := 0) (v2 := ((v.opens 2 [] []).opens 3 [] []).rests) (by omega) (by omega) (.inl (by decide)) (VS.one_br rfl rfl) ((ok.opens 2 []).opens 3 []).rests) ?_))
    rintro _ h17 ⟨s17,G17,hn17,hp17⟩
    have rr17 := Nat.le_trans rr16 (Nat.add_le_add_right hn17 R)
    have NN17 := Nat.le_trans NN16 hn17
    refine Wc [(0,_)] rfl (?_)
    refine Wd (Wa rfl rfl (Wb rfl (G17.c64 (op := 11) (v2 := (v.opens 2 [] [])) (by omega) (.inl (by decide)) (VS.one_endd rfl (ok.opens 2 [])) (ok.opens 2 [])) ?_))
    rintro _ h18 ⟨s18,G18,hn18,hp18⟩
    have rr18 := Nat.le_trans rr17 (Nat.add_le_add_right hn18 R)
    have NN18 := Nat.le_trans NN17 hn18
    refine Wc [(0,_)] rfl (?_)
    refine Wd (Wa rfl rfl (Wb rfl (G18.c64 (op := 11) (v2 := v) (by omega) (.inl (by decide)) (VS.one_end0 rfl ok) ok) ?_))
    rintro _ h19 ⟨s19,G19,hn19,hp19⟩
    have rr19 := Nat.le_trans rr18 (Nat.add_le_add_right hn19 R)
    have NN19 := Nat.le_trans NN18 hn19
    refine Wc [(0,_)] rfl (?_)
    refine Wl (Wa rfl rfl (Wa rfl rfl (Wa rfl rfl (Wa rfl rfl (We (v := .int .i64 s19.deep) rfl G19.m.gk rfl ?_)))))
    refine Wa rfl rfl (Wa rfl rfl (Wa rfl rfl (Wm (l := [.int .i64 _]) rfl rfl rfl rfl G19.m.gk (by simp) rfl fun h20 nn20 x20 g20 => ?_)))
    obtain ⟨s20,G20,hn20,hp20⟩ := G19.deep' x20 g20
    have rr20 := Nat.le_trans rr19 (Nat.add_le_add_right hn20 R)
    have NN20 := Nat.le_trans NN19 hn20
    refine Wk [] rfl (?_)
    exact Ws.mk [] rfl ⟨_,G20,NN20,by omega⟩
set_option maxHeartbeats 4000000 in
theorem E77 {K : Kt} {R : Nat} (E : ∀ (t : Nat) d,t = 127 ∨ t = 126 → CF K R 25 [ptr K.pk,.int .u8 (t : Int),.int .i64 d] 1 100000 [] [t]) (S : ∀ n d,n ≤ 1000 → CF K R 24 [ptr K.pk,.int .i64 n,.int .i64 d] 0 100000 [] []) {d : Int} : CF K R 130 [ptr K.pk,.int .i64 d] 6 99975 [] [] := by
  intro h s v ok m r0 p0
  rw [VS.push_nil v]
  have G0 := Go.refl m v
  have n0 := Nat.le_refl s.n
  refine fnK F130.fok rfl ?_
  refine Xc (Wd (Wa rfl rfl (Wa rfl rfl (Wa rfl rfl (We (v := .int .i64 s.deep) rfl G0.m.gk rfl ?_)))))
  refine Wa rfl rfl (Wc [(0,_),(1,_),(8,_)] rfl (?_))
  refine Wo rfl (fun hc => ?_) (fun hc => ?_)
  · refine Xc (Wd (Wa rfl rfl (Wb rfl (G0.c64 (op := 1) (v2 := v) (by omega) (.inl (by decide)) ((VS.sg_nop rfl).at ok (VS.push_nil _).symm (VS.push_nil _).symm) ok) ?_)))
    rintro _ h1 ⟨s1,G1,hn1,hp1⟩
    have rr1 := Nat.le_trans r0 (Nat.add_le_add_right hn1 R)
    have NN1 := Nat.le_trans n0 hn1
    refine Wc [] rfl (?_)
    refine Yo ?_
    exact Ws.mk [] rfl ⟨_,G1,NN1,by omega⟩
  · refine Wr (Wd (Wa rfl rfl (Wa rfl rfl (Wa rfl rfl (We (v := .int .i64 s.deep) rfl G0.m.gk rfl ?_)))))
    refine Wa rfl rfl (Wa rfl rfl (Wa rfl rfl (Wm (l := [.int .i64 _]) rfl rfl rfl rfl G0.m.gk (by simp) rfl fun h2 nn2 x2 g2 => ?_)))
    obtain ⟨s2,G2,hn2,hp2⟩ := G0.deep' x2 g2
    have rr2 := Nat.le_trans r0 (Nat.add_le_add_right hn2 R)
    have NN2 := Nat.le_trans n0 hn2
    refine Wc [(0,_),(1,_)] rfl (?_)
    refine Wd (Wa rfl rfl (Wa rfl rfl (Wa rfl rfl (Wa rfl rfl (We (v := .slice s2.oa s2.ops.length s2.oc) rfl G2.m.gk rfl ?_)))))
    refine Wa rfl rfl (?_)
    have o3 := G2.m.o
    have hops3 : s2.ops.length ≤ 100100 := Zf (K := K) (s := s2) G2.m (by omega)
    refine Wj (l := en IM.enc [⟨⟨2,0,0,0,[],(-64)⟩,none,0⟩]) rfl rfl fun h3 n3 x3 g3 => ?_
    refine Xk (m := 1) rfl rfl (o3.ext x3) rfl (OwS.new (n := 1) (c := 1) g3 rfl).sl.first ⟨by omega,by omega⟩ rfl (Xz _) (by decide) fun hh3 a3 c3 xx3 oo3 b3 => ?_
    refine Wa rfl rfl (Wa rfl rfl (Wm (l := [.slice a3 (s2.ops.length + 1) c3]) rfl rfl rfl rfl ((G2.m.gk.ext x3).ext xx3 fun r => (G2.m.no _ r).2.1 rfl) (by simp) rfl fun h4 nn4 x4 g4 => ?_))
    obtain ⟨s4,G4,hn4,hp4⟩ := G2.push' (k := 1) (xs := [⟨⟨2,0,0,0,[],(-64)⟩,none,0⟩]) (v2 := (v.opens 2 [] [])) x3 xx3 rfl oo3 b3 x4 g4 (fun x hx => by rw [List.mem_singleton] at hx; subst hx; exact .none (ok1 (by omega) (by omega) ⟨by omega,by omega⟩) (.inl (by decide))) (.one (VS.one_blk (.inl rfl) (.inl ⟨rfl,rfl⟩) _) (ok.opens 2 []))
    have rr4 := Nat.le_trans rr2 (Nat.add_le_add_right hn4 R)
    have NN4 := Nat.le_trans NN2 hn4
    refine Wc [(0,_),(1,_)] rfl (?_)
    refine Xc (Wd (Wa rfl rfl (Wa rfl rfl (Wa rfl rfl (We (v := ptr K.pp) rfl G4.m.gk rfl ?_)))))
    refine Wb rfl (G4.c48 (by decide)) ?_
    rintro _ h5 ⟨r5,n5,rfl,hr5,G5,hn5,hp5,hu5,hz5,x5⟩
    have rr5 := Nat.le_trans rr4 (Nat.add_le_add_right hn5 R)
    have NN5 := Nat.le_trans NN4 hn5
    refine Wc [(0,_),(1,_),(32,_)] rfl (?_)
    obtain ⟨s6,G6,hn6,hp6⟩ : ∃ q,Go K h s h5 q v (v.opens 2 [] []) ∧ ({ s4 with n := n5 } : Sm).n ≤ q.n ∧ pot K q ≤ pot K ({ s4 with n := n5 } : Sm) := ⟨_,G5,Nat.le_refl _,Int.le_refl _⟩
    have rr6 := Nat.le_trans rr5 (Nat.add_le_add_right hn6 R)
    have NN6 := Nat.le_trans NN5 hn6
    refine Wt ?_
    refine Wd (Wa rfl rfl (Wa rfl rfl (Wc [(0,_),(1,_),(32,_),(43,_)] rfl (?_))))
    refine Wn rfl (fun hc => ?_) (fun hc => ?_)
    · refine Wd (Wa rfl rfl (Wa rfl rfl (Wa rfl rfl (Wb rfl ((E 127 _ (.inl rfl)).go (v2 := ((v.opens 2 [] []).push [127])) G6 rr6 (by omega) (ok.opens 2 []) (VS.push_nil _).symm rfl) ?_))))
      rintro _ h7 ⟨s7,G7,hn7,hp7⟩
      have rr7 := Nat.le_trans rr6 (Nat.add_le_add_right hn7 R)
      have NN7 := Nat.le_trans NN6 hn7
      refine Wc [(0,_)] rfl (?_)
      refine Wl (Wa rfl rfl (Wa rfl rfl (Wa rfl rfl (Wa rfl rfl (We (v := .slice s7.oa s7.ops.length s7.oc) rfl G7.m.gk rfl ?_)))))
      refine Wj (l := Qc [0,0]) rfl rfl fun h8 n8 x8 g8 => ?_
      have sl8 : SlA h8 1 (some ⟨h7.next,0,none⟩) 2 1 (Qc [0,0]) := (OwS.new (n := 2) (c := 1) g8 rfl).sl
      refine Wa rfl rfl (?_)
      have o9 := G7.m.o
      have o9 := o9.ext x8
      have hops9 : s7.ops.length ≤ 100100 := Zf (K := K) (s := s7) G7.m (by omega)
      refine Wj (l := en IM.enc [⟨⟨14,0,0,0,[0,0],0⟩,some ⟨h7.next,0,none⟩,1⟩]) rfl rfl fun h9 n9 x9 g9 => ?_
      refine Xk (m := 1) rfl rfl (o9.ext x9) rfl (OwS.new (n := 1) (c := 1) g9 rfl).sl.first ⟨by omega,by omega⟩ rfl (Xz _) (by decide) fun hh9 a9 c9 xx9 oo9 b9 => ?_
      refine Wa rfl rfl (Wa rfl rfl (Wm (l := [.slice a9 (s7.ops.length + 1) c9]) rfl rfl rfl rfl (((G7.m.gk.ext x8).ext x9).ext xx9 fun r => (G7.m.no _ r).2.1 rfl) (by simp) rfl fun h10 nn10 x10 g10 => ?_))
      obtain ⟨s10,G10,hn10,hp10⟩ := G7.push' (k := 1) (xs := [⟨⟨14,0,0,0,[0,0],0⟩,some ⟨h7.next,0,none⟩,1⟩]) (v2 := (v.opens 2 [] []).rests) (x8.trans x9) xx9 rfl oo9 b9 x10 g10 (fun x hx => by rw [List.mem_singleton] at hx; subst hx; exact ⟨sl8.ext x9,fun j r => by rw [Blk.at] at r; omega,ok14,kn14⟩) (.one (VS.one_brt rfl rfl rfl ok) (ok.opens 2 []).rests)
      have rr10 := Nat.le_trans rr7 (Nat.add_le_add_right hn10 R)
      have NN10 := Nat.le_trans NN7 hn10
      refine Wk [(0,_)] rfl (?_)
      refine Wd (Wa rfl rfl (Wb rfl (G10.c64 (op := 11) (v2 := v) (by omega) (.inl (by decide)) (VS.one_endd rfl ok) ok) ?_))
      rintro _ h11 ⟨s11,G11,hn11,hp11⟩
      have rr11 := Nat.le_trans rr10 (Nat.add_le_add_right hn11 R)
      have NN11 := Nat.le_trans NN10 hn11
      refine Wc [(0,_)] rfl (?_)
      refine Wl (Wa rfl rfl (Wa rfl rfl (Wa rfl rfl (We (v := .int .i64 s11.deep) rfl G11.m.gk rfl ?_))))
      refine Wa rfl rfl (Wa rfl rfl (Wa rfl rfl (Wm (l := [.int .i64 _]) rfl rfl rfl rfl G11.m.gk (by simp) rfl fun h12 nn12 x12 g12 => ?_)))
      obtain ⟨s12,G12,hn12,hp12⟩ := G11.deep' x12 g12
      have rr12 := Nat.le_trans rr11 (Nat.add_le_add_right hn12 R)
      have NN12 := Nat.le_trans NN11 hn12
      refine Wk [] rfl (?_)
      exact Ws.mk [] rfl ⟨_,G12,NN12,by omega⟩
    · refine Wd (Wa rfl rfl (Wa rfl rfl (Wc [(0,_),(1,_),(32,_),(60,_)] rfl (?_))))
      refine Wn rfl (fun hc => ?_) (fun hc => ?_)
      · refine Wd (Wa rfl rfl (Wb rfl (G6.c63 (op := 12) (a := 0) (v2 := (v.opens 2 [] []).rests) (by omega) (by omega) (.inl (by decide)) (VS.one_br rfl rfl) (ok.opens 2 []).rests) ?_))
        rintro _ h13 ⟨s13,G13,hn13,hp13⟩
        have rr13 := Nat.le_trans rr6 (Nat.add_le_add_right hn13 R)
        have NN13 := Nat.le_trans NN6 hn13
        refine Wc [(0,_),(1,_)] rfl (?_)
        refine Wl (Wa rfl rfl (Wa rfl rfl (Wa rfl rfl (Wb rfl ((S _ _ (by omega)).go (v2 := (v.opens 2 [] []).rests) G13 rr13 (by omega) (ok.opens 2 []).rests (VS.push_nil _).symm (VS.push_nil _).symm) ?_))))
        rintro _ h14 ⟨s14,G14,hn14,hp14⟩
        have rr14 := Nat.le_trans rr13 (Nat.add_le_add_right hn14 R)
        have NN14 := Nat.le_trans NN13 hn14
        refine Wk [(0,_)] rfl (?_)
        refine Wd (Wa rfl rfl (Wb rfl (G14.c64 (op := 11) (v2 := v) (by omega) (.inl (by decide)) (VS.one_endd rfl ok) ok) ?_))
        rintro _ h15 ⟨s15,G15,hn15,hp15⟩
        have rr15 := Nat.le_trans rr14 (Nat.add_le_add_right hn15 R)
        have NN15 := Nat.le_trans NN14 hn15
        refine Wc [(0,_)] rfl (?_)
        refine Wl (Wa rfl rfl (Wa rfl rfl (Wa rfl rfl (We (v := .int .i64 s15.deep) rfl G15.m.gk rfl ?_))))
        refine Wa rfl rfl (Wa rfl rfl (Wa rfl rfl (Wm (l := [.int .i64 _]) rfl rfl rfl rfl G15.m.gk (by simp) rfl fun h16 nn16 x16 g16 => ?_)))
        obtain ⟨s16,G16,hn16,hp16⟩ := G15.deep' x16 g16
        have rr16 := Nat.le_trans rr15 (Nat.add_le_add_right hn16 R)
        have NN16 := Nat.le_trans NN15 hn16
        refine Wk [] rfl (?_)
        exact Ws.mk [] rfl ⟨_,G16,NN16,by omega⟩
      · refine Wd (Wa rfl rfl (Wa rfl rfl (Wc [(0,_),(1,_),(68,_)] rfl (?_))))
        refine Wn rfl (fun hc => ?_) (fun hc => ?_)
        · refine Wd (Wa rfl rfl (Wa rfl rfl (Wa rfl rfl (Wb rfl ((E 127 _ (.inl rfl)).go (v2 := ((v.opens 2 [] []).push [127])) G6 rr6 (by omega) (ok.opens 2 []) (VS.push_nil _).symm rfl) ?_))))
          rintro _ h17 ⟨s17,G17,hn17,hp17⟩
          have rr17 := Nat.le_trans rr6 (Nat.add_le_add_right hn17 R)
          have NN17 := Nat.le_trans NN6 hn17
          refine Wc [(0,_)] rfl (?_)
          refine Wd (Wa rfl rfl (Wa rfl rfl (Wa rfl rfl (Wa rfl rfl (We (v := .slice s17.oa s17.ops.length s17.oc) rfl G17.m.gk rfl ?_)))))
          refine Wa rfl rfl (?_)
          have o18 := G17.m.o
          have hops18 : s17.ops.length ≤ 100100 := Zf (K := K) (s := s17) G17.m (by omega)
          refine Wj (l := en IM.enc [⟨⟨4,0,0,0,[],(-64)⟩,none,0⟩]) rfl rfl fun h18 n18 x18 g18 => ?_
          refine Xk (m := 1) rfl rfl (o18.ext x18) rfl (OwS.new (n := 1) (c := 1) g18 rfl).sl.first ⟨by omega,by omega⟩ rfl (Xz _) (by decide) fun hh18 a18 c18 xx18 oo18 b18 => ?_
          refine Wa rfl rfl (Wa rfl rfl (Wm (l := [.slice a18 (s17.ops.length + 1) c18]) rfl rfl rfl rfl ((G17.m.gk.ext x18).ext xx18 fun r => (G17.m.no _ r).2.1 rfl) (by simp) rfl fun h19 nn19 x19 g19 => ?_))
          obtain ⟨s19,G19,hn19,hp19⟩ := G17.push' (k := 1) (xs := [⟨⟨4,0,0,0,[],(-64)⟩,none,0⟩]) (v2 := ((v.opens 2 [] []).opens 4 [] [])) x18 xx18 rfl oo18 b18 x19 g19 (fun x hx => by rw [List.mem_singleton] at hx; subst hx; exact .none (ok1 (by omega) (by omega) ⟨by omega,by omega⟩) (.inl (by decide))) (.one (VS.one_if rfl (.inl ⟨rfl,rfl⟩) (ok.opens 2 [])) ((ok.opens 2 []).opens 4 []))
          have rr19 := Nat.le_trans rr17 (Nat.add_le_add_right hn19 R)
          have NN19 := Nat.le_trans NN17 hn19
          refine Wc [(0,_)] rfl (?_)
          refine Wd (Wa rfl rfl (Wj (l := Yw .i64 [0,1,15]) rfl rfl fun h20 n20 x20 g20 => ?_))
          have G20 := G19.ext0 x20
          refine Wa rfl rfl (Wa rfl rfl (Wa rfl rfl (We (v := ptr K.pp) rfl G20.m.gk rfl ?_)))
          refine Wb rfl (G20.c48 (by decide)) ?_
          rintro _ h21 ⟨r21,n21,rfl,hr21,G21,hn21,hp21,hu21,hz21,x21⟩
          have g20x21 : At h21 h19.next (.cells (Yw .i64 [0,1,15]) 1 false) := At.ext (S := (· = K.pp)) g20 x21 (by have := G19.m.lt; omega)
          have rr21 := Nat.le_trans rr19 (Nat.add_le_add_right hn21 R)
          have NN21 := Nat.le_trans NN19 hn21
          refine Xi rfl rfl ⟨by omega,by omega⟩ (We (v := .int .i64 (([0,1,15] : List Int).getD r21 0)) rfl g20x21 (by rw [Nat.zero_add,Nat.mul_one]; exact Yy (L := [0,1,15]) (show r21 < 3 by omega)) ?_)
          refine Wb rfl (G21.c64 (op := (([0,1,15] : List Int).getD r21 0)) (v2 := (VS.dd (decide ((([0,1,15] : List Int).getD r21 0) = 0)) ((v.opens 2 [] []).opens 4 [] []))) (by omega) (.inl (Yb (P := fun x => x ∈ opsC) (L := ([0,1,15] : List Int)) (by decide) (show r21 < 3 by omega))) (VS.one_un (by rcases (show r21 = 0 ∨ r21 = 1 by omega) with e | e <;> subst e; exact .inl rfl; exact .inr rfl) _) (((ok.opens 2 []).opens 4 []).dd _)) ?_
          rintro _ h22 ⟨s22,G22,hn22,hp22⟩
          have rr22 := Nat.le_trans rr21 (Nat.add_le_add_right hn22 R)
          have NN22 := Nat.le_trans NN21 hn22
          refine Wc [(0,_)] rfl (?_)
          refine Wl (Wa rfl rfl (Wb rfl (G22.c64 (op := 11) (v2 := (v.opens 2 [] [])) (by omega) (.inl (by decide)) (VS.one_endu rfl (ok.opens 2 []) _) (ok.opens 2 [])) ?_))
          rintro _ h23 ⟨s23,G23,hn23,hp23⟩
          have rr23 := Nat.le_trans rr22 (Nat.add_le_add_right hn23 R)
          have NN23 := Nat.le_trans NN22 hn23
          refine Wk [(0,_)] rfl (?_)
          refine Wd (Wa rfl rfl (Wb rfl (G23.c64 (op := 11) (v2 := v) (by omega) (.inl (by decide)) (VS.one_end0 rfl ok) ok) ?_))
          rintro _ h24 ⟨s24,G24,hn24,hp24⟩
          have rr24 := Nat.le_trans rr23 (Nat.add_le_add_right hn24 R)
          have NN24 := Nat.le_trans NN23 hn24
          refine Wc [(0,_)] rfl (?_)
          refine Wl (Wa rfl rfl (Wa rfl rfl (Wa rfl rfl (We (v := .int .i64 s24.deep) rfl G24.m.gk rfl ?_))))
          refine Wa rfl rfl (Wa rfl rfl (Wa rfl rfl (Wm (l := [.int .i64 _]) rfl rfl rfl rfl G24.m.gk (by simp) rfl fun h25 nn25 x25 g25 => ?_)))
          obtain ⟨s25,G25,hn25,hp25⟩ := G24.deep' x25 g25
          have rr25 := Nat.le_trans rr24 (Nat.add_le_add_right hn25 R)
          have NN25 := Nat.le_trans NN24 hn25
          refine Wk [] rfl (?_)
          exact Ws.mk [] rfl ⟨_,G25,NN25,by omega⟩
        · refine Wd (Wa rfl rfl (Wa rfl rfl (Wa rfl rfl (Wb rfl ((E 127 _ (.inl rfl)).go (v2 := ((v.opens 2 [] []).push [127])) G6 rr6 (by omega) (ok.opens 2 []) (VS.push_nil _).symm rfl) ?_))))
          rintro _ h26 ⟨s26,G26,hn26,hp26⟩
          have rr26 := Nat.le_trans rr6 (Nat.add_le_add_right hn26 R)
          have NN26 := Nat.le_trans NN6 hn26
          refine Wc [(0,_),(1,_)] rfl (?_)
          refine Wd (Wa rfl rfl (Wb rfl (G26.c63 (op := 13) (a := 0) (v2 := (v.opens 2 [] [])) (by omega) (by omega) (.inl (by decide)) ((VS.one_brif rfl rfl (by decide) (to := []) ok).trans (VS.push_nil _)) (ok.opens 2 [])) ?_))
          rintro _ h27 ⟨s27,G27,hn27,hp27⟩
          have rr27 := Nat.le_trans rr26 (Nat.add_le_add_right hn27 R)
          have NN27 := Nat.le_trans NN26 hn27
          refine Wc [(0,_),(1,_)] rfl (?_)
          refine Wl (Wa rfl rfl (Wa rfl rfl (Wa rfl rfl (Wb rfl ((S _ _ (by omega)).go (v2 := (v.opens 2 [] [])) G27 rr27 (by omega) (ok.opens 2 []) (VS.push_nil _).symm (VS.push_nil _).symm) ?_))))
          rintro _ h28 ⟨s28,G28,hn28,hp28⟩
          have rr28 := Nat.le_trans rr27 (Nat.add_le_add_right hn28 R)
          have NN28 := Nat.le_trans NN27 hn28
          refine Wk [(0,_)] rfl (?_)
          refine Wd (Wa rfl rfl (Wb rfl (G28.c64 (op := 11) (v2 := v) (by omega) (.inl (by decide)) (VS.one_end0 rfl ok) ok) ?_))
          rintro _ h29 ⟨s29,G29,hn29,hp29⟩
          have rr29 := Nat.le_trans rr28 (Nat.add_le_add_right hn29 R)
          have NN29 := Nat.le_trans NN28 hn29
          refine Wc [(0,_)] rfl (?_)
          refine Wl (Wa rfl rfl (Wa rfl rfl (Wa rfl rfl (We (v := .int .i64 s29.deep) rfl G29.m.gk rfl ?_))))
          refine Wa rfl rfl (Wa rfl rfl (Wa rfl rfl (Wm (l := [.int .i64 _]) rfl rfl rfl rfl G29.m.gk (by simp) rfl fun h30 nn30 x30 g30 => ?_)))
          obtain ⟨s30,G30,hn30,hp30⟩ := G29.deep' x30 g30
          have rr30 := Nat.le_trans rr29 (Nat.add_le_add_right hn30 R)
          have NN30 := Nat.le_trans NN29 hn30
          refine Wk [] rfl (?_)
          exact Ws.mk [] rfl ⟨_,G30,NN30,by omega⟩

end
section
/- Made modules, with types: stmt (printed by gmt.py). -/
open VS (Okv MM)
set_option maxHeartbeats 4000000 in
theorem E59 {K : Kt} {R : Nat} (H : AllAt K R) {h : Heap} {s : Sm} {v : VS} (ok : Okv v) {d : Int} (m : Mk K h s) (hl : s.n < K.xs.length) (r0 : K.xs.length ≤ s.n + (R + 1)) (p0 : pot K s ≤ 100000) :
    Fn Try.prog 72 [ptr K.pk,.int .i64 d] h fun _ h' => Jr K h s s v v 0 h' := by
  have G0 := Go.refl m v
  have n0 := Nat.le_refl s.n
  refine fnK F72.fok rfl ?_
  refine Wd (Wj (l := Yw .u8 [127,126]) rfl rfl fun h1 n1 x1 g1 => ?_)
  have G1 := G0.ext0 x1
  refine Wa rfl rfl (Wa rfl rfl (Wa rfl rfl (We (v := ptr K.pp) rfl G1.m.gk rfl ?_)))
  refine Wb rfl (G1.c48 (by decide)) ?_
  rintro _ h2 ⟨r2,n2,rfl,hr2,G2,hn2,hp2,hu2,hz2,x2⟩
  have g1x2 : At h2 h.next (.cells (Yw .u8 [127,126]) 1 false) := At.ext (S := (· = K.pp)) g1 x2 (by have := G0.m.lt; omega)
  obtain ⟨hu2',hpu2⟩ := hu2 hl
  have rr2 : K.xs.length ≤ n2 + R := by omega
  have NN2 := Nat.le_trans n0 hn2
  obtain ⟨u3,eu3,hv3⟩ := pick8 (r := r2) (by omega)
  refine Xi rfl rfl ⟨by omega,by omega⟩ (We (v := .int .u8 (u3 : Int)) rfl g1x2 (by rw [Nat.zero_add,Nat.mul_one]; exact eu3) ?_)
  refine Wa rfl rfl (Wc [(0,_),(1,_),(4,_)] rfl (?_))
  obtain ⟨s4,G4,hn4,hp4⟩ : ∃ q,Go K h s h2 q v v ∧ ({ s with n := n2 } : Sm).n ≤ q.n ∧ pot K q ≤ pot K ({ s with n := n2 } : Sm) := ⟨_,G2,Nat.le_refl _,Int.le_refl _⟩
  have rr4 := Nat.le_trans rr2 (Nat.add_le_add_right hn4 R)
  have NN4 := Nat.le_trans NN2 hn4
  refine Wd (Wa rfl rfl (Wa rfl rfl (Wa rfl rfl (We (v := ptr K.pp) rfl G4.m.gk rfl ?_))))
  refine Wb rfl (G4.c48 (by decide)) ?_
  rintro _ h5 ⟨r5,n5,rfl,hr5,G5,hn5,hp5,hu5,hz5,x5⟩
  have rr5 := Nat.le_trans rr4 (Nat.add_le_add_right hn5 R)
  have NN5 := Nat.le_trans NN4 hn5
  refine Wc [(0,_),(1,_),(4,_),(21,_)] rfl (?_)
  obtain ⟨s6,G6,hn6,hp6⟩ : ∃ q,Go K h s h5 q v v ∧ ({ s4 with n := n5 } : Sm).n ≤ q.n ∧ pot K q ≤ pot K ({ s4 with n := n5 } : Sm) := ⟨_,G5,Nat.le_refl _,Int.le_refl _⟩
  have rr6 := Nat.le_trans rr5 (Nat.add_le_add_right hn6 R)
  have NN6 := Nat.le_trans NN5 hn6
  refine Ze ?_
  refine Xc (Wd (Wa rfl rfl (Wa rfl rfl (Wc [(0,_),(1,_),(4,_),(21,_),(25,_)] rfl (?_)))))
  refine K_both (t := 25) rfl rfl (Wa rfl rfl (Wa rfl rfl (show _ ∧ _ from ⟨rfl,_,rfl⟩))) fun _ => ?_
  refine Wn rfl (fun hc => ?_) (fun hc => ?_)
  · refine Wd (Wa rfl rfl (Wa rfl rfl (Wb rfl (G6.c62 (t := u3)) ?_)))
    rintro _ h186 ⟨v186,w186,n186,rfl,G186,hn186,hp186,hl186⟩
    have rr186 := Nat.le_trans rr6 (Nat.add_le_add_right hn186 R)
    have NN186 := Nat.le_trans NN6 hn186
    refine Wa rfl rfl (Wa rfl rfl (Wa rfl rfl (Wa rfl rfl (Wa rfl rfl (Wc [(0,_),(1,_),(4,_),(5,_),(6,_)] rfl (?_))))))
    obtain ⟨s187,G187,hn187,hp187⟩ : ∃ q,Go K h s h186 q v v ∧ ({ s6 with n := n186 } : Sm).n ≤ q.n ∧ pot K q ≤ pot K ({ s6 with n := n186 } : Sm) := ⟨_,G186,Nat.le_refl _,Int.le_refl _⟩
    have rr187 := Nat.le_trans rr186 (Nat.add_le_add_right hn187 R)
    have NN187 := Nat.le_trans NN186 hn187
    refine Wd (Wa rfl rfl (Wa rfl rfl (Wa rfl rfl (Wb rfl ((H.e u3 _ hv3).go (v2 := (v.push [u3])) G187 rr187 (by omega) ok (VS.push_nil _).symm rfl) ?_))))
    rintro _ h188 ⟨s188,G188,hn188,hp188⟩
    have rr188 := Nat.le_trans rr187 (Nat.add_le_add_right hn188 R)
    have NN188 := Nat.le_trans NN187 hn188
    refine Wc [(0,_),(5,_),(6,_)] rfl (?_)
    refine Wd (Wa rfl rfl (Wc [(0,_),(5,_),(38,_)] rfl (?_)))
    refine Wn rfl (fun hc => ?_) (fun hc => ?_)
    · obtain ⟨la186,lb186,lc186⟩ := hl186 hc
      refine Wl (Wa rfl rfl (Wa rfl rfl (Wb rfl (G188.c63 (op := 33) (a := v186) (v2 := v) (by omega) lb186 (.inl (by decide)) ((VS.sg_set rfl la186 lc186).at ok rfl (VS.push_nil _).symm) ok) ?_)))
      rintro _ h189 ⟨s189,G189,hn189,hp189⟩
      have rr189 := Nat.le_trans rr188 (Nat.add_le_add_right hn189 R)
      have NN189 := Nat.le_trans NN188 hn189
      refine Wk [] rfl (?_)
      exact Ws.mk [] rfl ⟨_,G189,NN189,by omega⟩
    · refine Wl (Wa rfl rfl (Wb rfl (G188.c64 (op := 26) (v2 := v) (by omega) (.inl (by decide)) ((VS.sg_drop rfl _).at ok rfl (VS.push_nil _).symm) ok) ?_))
      rintro _ h190 ⟨s190,G190,hn190,hp190⟩
      have rr190 := Nat.le_trans rr188 (Nat.add_le_add_right hn190 R)
      have NN190 := Nat.le_trans NN188 hn190
      refine Wk [] rfl (?_)
      exact Ws.mk [] rfl ⟨_,G190,NN190,by omega⟩
  · refine Xc (Wd (Wa rfl rfl (Wa rfl rfl (Wc [(0,_),(1,_),(4,_),(21,_),(44,_)] rfl (?_)))))
    refine K_both (t := 44) rfl rfl (Wa rfl rfl (Wa rfl rfl (show _ ∧ _ from ⟨rfl,_,rfl⟩))) fun _ => ?_
    refine Wn rfl (fun hc => ?_) (fun hc => ?_)
    · refine Wd (Wa rfl rfl (Wa rfl rfl (Wa rfl rfl (Wb rfl ((H.e u3 _ hv3).go (v2 := (v.push [u3])) G6 rr6 (by omega) ok (VS.push_nil _).symm rfl) ?_))))
      rintro _ h278 ⟨s278,G278,hn278,hp278⟩
      have rr278 := Nat.le_trans rr6 (Nat.add_le_add_right hn278 R)
      have NN278 := Nat.le_trans NN6 hn278
      refine Wc [(0,_),(4,_)] rfl (?_)
      refine Wd (Wa rfl rfl (Wc [(0,_),(4,_),(7,_)] rfl (?_)))
      refine Xc (Wd (Wa rfl rfl (Wa rfl rfl (Wc [(0,_),(7,_),(52,_)] rfl (?_)))))
      refine Wo rfl (fun hc => ?_) (fun hc => ?_)
      · obtain rfl : u3 = 126 := by rcases hv3 with e | e <;> subst e <;> first | rfl | exact absurd hc (by decide)
        refine Wd (Wa rfl rfl (Wc [(0,_),(7,_)] rfl (?_)))
        refine Wl (Wa rfl rfl (Wa rfl rfl (Wb rfl (G278.c63 (op := 36) (a := 1) (v2 := v) (by omega) (by omega) (.inl (by decide)) ((VS.sg_gset G278.m.z.mm rfl (.inr ⟨rfl,rfl⟩)).at ok rfl (VS.push_nil _).symm) ok) ?_)))
        rintro _ h279 ⟨s279,G279,hn279,hp279⟩
        have rr279 := Nat.le_trans rr278 (Nat.add_le_add_right hn279 R)
        have NN279 := Nat.le_trans NN278 hn279
        refine Wk [] rfl (?_)
        exact Ws.mk [] rfl ⟨_,G279,NN279,by omega⟩
      · obtain rfl : u3 = 127 := by rcases hv3 with e | e <;> subst e <;> first | rfl | exact absurd hc (by decide)
        refine Wr (Wl (Wa rfl rfl (Wa rfl rfl (Wb rfl (G278.c63 (op := 36) (a := 0) (v2 := v) (by omega) (by omega) (.inl (by decide)) ((VS.sg_gset G278.m.z.mm rfl (.inl ⟨rfl,rfl⟩)).at ok rfl (VS.push_nil _).symm) ok) ?_))))
        rintro _ h280 ⟨s280,G280,hn280,hp280⟩
        have rr280 := Nat.le_trans rr278 (Nat.add_le_add_right hn280 R)
        have NN280 := Nat.le_trans NN278 hn280
        refine Wk [] rfl (?_)
        exact Ws.mk [] rfl ⟨_,G280,NN280,by omega⟩
    · refine Xc (Wd (Wa rfl rfl (Wa rfl rfl (Wc [(0,_),(1,_),(4,_),(21,_),(56,_)] rfl (?_)))))
      refine K_both (t := 56) rfl rfl (Wa rfl rfl (Wa rfl rfl (show _ ∧ _ from ⟨rfl,_,rfl⟩))) fun _ => ?_
      refine Wn rfl (fun hc => ?_) (fun hc => ?_)
      · refine Wd (Wa rfl rfl (Wa rfl rfl (Wa rfl rfl (Wb rfl ((H.e 127 _ (.inl rfl)).go (v2 := (v.push [127])) G6 rr6 (by omega) ok (VS.push_nil _).symm rfl) ?_))))
        rintro _ h323 ⟨s323,G323,hn323,hp323⟩
        have rr323 := Nat.le_trans rr6 (Nat.add_le_add_right hn323 R)
        have NN323 := Nat.le_trans NN6 hn323
        refine Wc [(0,_),(1,_),(4,_)] rfl (?_)
        refine Wd (Wa rfl rfl (Wa rfl rfl (Wa rfl rfl (Wa rfl rfl (Wb rfl ((H.e u3 _ hv3).go (v2 := (v.push [127,u3])) G323 rr323 (by omega) (ok.push [127]) (VS.push_nil _).symm (VS.push_push _ [127] [u3])) ?_)))))
        rintro _ h324 ⟨s324,G324,hn324,hp324⟩
        have rr324 := Nat.le_trans rr323 (Nat.add_le_add_right hn324 R)
        have NN324 := Nat.le_trans NN323 hn324
        refine Wc [(0,_),(4,_)] rfl (?_)
        refine Wd (Wj (l := Yw .i64 [54,58,59]) rfl rfl fun h325 n325 x325 g325 => ?_)
        have G325 := G324.ext0 x325
        refine Wa rfl rfl (Wa rfl rfl (Wa rfl rfl (We (v := ptr K.pp) rfl G325.m.gk rfl ?_)))
        refine Wb rfl (G325.c48 (by decide)) ?_
        rintro _ h326 ⟨r326,n326,rfl,hr326,G326,hn326,hp326,hu326,hz326,x326⟩
        have g325x326 : At h326 h324.next (.cells (Yw .i64 [54,58,59]) 1 false) := At.ext (S := (· = K.pp)) g325 x326 (by have := G324.m.lt; omega)
        have rr326 := Nat.le_trans rr324 (Nat.add_le_add_right hn326 R)
        have NN326 := Nat.le_trans NN324 hn326
        refine Xi rfl rfl ⟨by omega,by omega⟩ (We (v := .int .i64 (([54,58,59] : List Int).getD r326 0)) rfl g325x326 (by rw [Nat.zero_add,Nat.mul_one]; exact Yy (L := [54,58,59]) (show r326 < 3 by omega)) ?_)
        refine Wa rfl rfl (Wc [(0,_),(4,_),(8,_)] rfl (?_))
        obtain ⟨s327,G327,hn327,hp327⟩ : ∃ q,Go K h s h326 q v (v.push [127,u3]) ∧ ({ s324 with n := n326 } : Sm).n ≤ q.n ∧ pot K q ≤ pot K ({ s324 with n := n326 } : Sm) := ⟨_,G326,Nat.le_refl _,Int.le_refl _⟩
        have rr327 := Nat.le_trans rr326 (Nat.add_le_add_right hn327 R)
        have NN327 := Nat.le_trans NN326 hn327
        refine Xc (Wd (Wa rfl rfl (Wa rfl rfl (Wc [(0,_),(8,_),(77,_)] rfl (?_)))))
        refine Wo rfl (fun hc => ?_) (fun hc => ?_)
        · obtain rfl : u3 = 126 := by rcases hv3 with e | e <;> subst e <;> first | rfl | exact absurd hc (by decide)
          refine Wd (Wj (l := Yw .i64 [55,60,61,62]) rfl rfl fun h328 n328 x328 g328 => ?_)
          have G328 := G327.ext0 x328
          refine Wa rfl rfl (Wa rfl rfl (Wa rfl rfl (We (v := ptr K.pp) rfl G328.m.gk rfl ?_)))
          refine Wb rfl (G328.c48 (by decide)) ?_
          rintro _ h329 ⟨r329,n329,rfl,hr329,G329,hn329,hp329,hu329,hz329,x329⟩
          have g328x329 : At h329 h326.next (.cells (Yw .i64 [55,60,61,62]) 1 false) := At.ext (S := (· = K.pp)) g328 x329 (by have := G327.m.lt; omega)
          have rr329 := Nat.le_trans rr327 (Nat.add_le_add_right hn329 R)
          have NN329 := Nat.le_trans NN327 hn329
          refine Xi rfl rfl ⟨by omega,by omega⟩ (We (v := .int .i64 (([55,60,61,62] : List Int).getD r329 0)) rfl g328x329 (by rw [Nat.zero_add,Nat.mul_one]; exact Yy (L := [55,60,61,62]) (show r329 < 4 by omega)) ?_)
          refine Wa rfl rfl (Wc [(0,_),(8,_)] rfl (?_))
          obtain ⟨s330,G330,hn330,hp330⟩ : ∃ q,Go K h s h329 q v (v.push [127,126]) ∧ ({ s327 with n := n329 } : Sm).n ≤ q.n ∧ pot K q ≤ pot K ({ s327 with n := n329 } : Sm) := ⟨_,G329,Nat.le_refl _,Int.le_refl _⟩
          have rr330 := Nat.le_trans rr329 (Nat.add_le_add_right hn330 R)
          have NN330 := Nat.le_trans NN329 hn330
          refine Wl (Wa rfl rfl (Wa rfl rfl (Wa rfl rfl (Wa rfl rfl (We (v := .slice s330.oa s330.ops.length s330.oc) rfl G330.m.gk rfl ?_)))))
          refine Wa rfl rfl (Wa rfl rfl (Wa rfl rfl (Wa rfl rfl (We (v := ptr K.pp) rfl G330.m.gk rfl ?_))))
          refine Wb rfl (G330.c48 (by decide)) ?_
          rintro _ h331 ⟨r331,n331,rfl,hr331,G331,hn331,hp331,hu331,hz331,x331⟩
          have rr331 := Nat.le_trans rr330 (Nat.add_le_add_right hn331 R)
          have NN331 := Nat.le_trans NN330 hn331
          refine Yn rfl rfl G331.m.gk (v := .slice s330.oa s330.ops.length s330.oc) rfl G331.m.o.sl.same ?_
          refine Wi (w := .int .u32 (r331 : Int)) rfl rfl (by rw [Ut (by omega)]) (Wa rfl rfl (?_))
          have o332 := G331.m.o
          have hops332 : s330.ops.length ≤ 100100 := Zf (K := K) (s := ({ s330 with n := n331 } : Sm)) G331.m (by omega)
          refine Wj (l := en IM.enc [⟨⟨(([55,60,61,62] : List Int).getD r329 0),0,r331,0,[],0⟩,none,0⟩]) rfl rfl fun h332 n332 x332 g332 => ?_
          refine Xk (m := 1) rfl rfl (o332.ext x332) rfl (OwS.new (n := 1) (c := 1) g332 rfl).sl.first ⟨by omega,by omega⟩ rfl (Xz _) (by decide) fun hh332 a332 c332 xx332 oo332 b332 => ?_
          refine Wa rfl rfl (Wa rfl rfl (Wm (l := [.slice a332 (({ s330 with n := n331 } : Sm).ops.length + 1) c332]) rfl rfl rfl rfl ((G331.m.gk.ext x332).ext xx332 fun r => (G331.m.no _ r).2.1 rfl) (by simp) rfl fun h333 nn333 x333 g333 => ?_))
          obtain ⟨s333,G333,hn333,hp333⟩ := G331.push' (k := 1) (xs := [⟨⟨(([55,60,61,62] : List Int).getD r329 0),0,r331,0,[],0⟩,none,0⟩]) (v2 := v) x332 xx332 rfl oo332 b332 x333 g333 (fun x hx => by rw [List.mem_singleton] at hx; subst hx; exact .none (ok1 (by omega) (by omega) ⟨by omega,by omega⟩) (.inr (.inl (Yb (P := fun x => VS.movP x [127,126] []) (L := ([55,60,61,62] : List Int)) (by decide) (show r329 < 4 by omega)).1))) (.one ((VS.sg_m G331.m.z.mm rfl (Yb (P := fun x => VS.movP x [127,126] []) (L := ([55,60,61,62] : List Int)) (by decide) (show r329 < 4 by omega))).at ok rfl (VS.push_nil _).symm) ok)
          have rr333 := Nat.le_trans rr331 (Nat.add_le_add_right hn333 R)
          have NN333 := Nat.le_trans NN331 hn333
          refine Wk [] rfl (?_)
          exact Ws.mk [] rfl ⟨_,G333,NN333,by omega⟩
        · obtain rfl : u3 = 127 := by rcases hv3 with e | e <;> subst e <;> first | rfl | exact absurd hc (by decide)
          refine Wr (Wl (Wa rfl rfl (Wa rfl rfl (Wa rfl rfl (Wa rfl rfl (We (v := .slice s327.oa s327.ops.length s327.oc) rfl G327.m.gk rfl ?_))))))
          refine Wa rfl rfl (Wa rfl rfl (Wa rfl rfl (Wa rfl rfl (We (v := ptr K.pp) rfl G327.m.gk rfl ?_))))
          refine Wb rfl (G327.c48 (by decide)) ?_
          rintro _ h334 ⟨r334,n334,rfl,hr334,G334,hn334,hp334,hu334,hz334,x334⟩
          have rr334 := Nat.le_trans rr327 (Nat.add_le_add_right hn334 R)
          have NN334 := Nat.le_trans NN327 hn334
          refine Yn rfl rfl G334.m.gk (v := .slice s327.oa s327.ops.length s327.oc) rfl G334.m.o.sl.same ?_
          refine Wi (w := .int .u32 (r334 : Int)) rfl rfl (by rw [Ut (by omega)]) (Wa rfl rfl (?_))
          have o335 := G334.m.o
          have hops335 : s327.ops.length ≤ 100100 := Zf (K := K) (s := ({ s327 with n := n334 } : Sm)) G334.m (by omega)
          refine Wj (l := en IM.enc [⟨⟨(([54,58,59] : List Int).getD r326 0),0,r334,0,[],0⟩,none,0⟩]) rfl rfl fun h335 n335 x335 g335 => ?_
          refine Xk (m := 1) rfl rfl (o335.ext x335) rfl (OwS.new (n := 1) (c := 1) g335 rfl).sl.first ⟨by omega,by omega⟩ rfl (Xz _) (by decide) fun hh335 a335 c335 xx335 oo335 b335 => ?_
          refine Wa rfl rfl (Wa rfl rfl (Wm (l := [.slice a335 (({ s327 with n := n334 } : Sm).ops.length + 1) c335]) rfl rfl rfl rfl ((G334.m.gk.ext x335).ext xx335 fun r => (G334.m.no _ r).2.1 rfl) (by simp) rfl fun h336 nn336 x336 g336 => ?_))
          obtain ⟨s336,G336,hn336,hp336⟩ := G334.push' (k := 1) (xs := [⟨⟨(([54,58,59] : List Int).getD r326 0),0,r334,0,[],0⟩,none,0⟩]) (v2 := v) x335 xx335 rfl oo335 b335 x336 g336 (fun x hx => by rw [List.mem_singleton] at hx; subst hx; exact .none (ok1 (by omega) (by omega) ⟨by omega,by omega⟩) (.inr (.inl (Yb (P := fun x => VS.movP x [127,127] []) (L := ([54,58,59] : List Int)) (by decide) (show r326 < 3 by omega)).1))) (.one ((VS.sg_m G334.m.z.mm rfl (Yb (P := fun x => VS.movP x [127,127] []) (L := ([54,58,59] : List Int)) (by decide) (show r326 < 3 by omega))).at ok rfl (VS.push_nil _).symm) ok)
          have rr336 := Nat.le_trans rr334 (Nat.add_le_add_right hn336 R)
          have NN336 := Nat.le_trans NN334 hn336
          refine Wk [] rfl (?_)
          exact Ws.mk [] rfl ⟨_,G336,NN336,by omega⟩
      · refine Wd (Wa rfl rfl (Wa rfl rfl (Wc [(0,_),(1,_),(21,_),(103,_)] rfl (?_))))
        refine Wn rfl (fun hc => ?_) (fun hc => ?_)
        · refine Wd (Wa rfl rfl (Wa rfl rfl (Wb rfl ((H.t _).go (v2 := (v.push [127,127,127])) G6 rr6 (by omega) ok (VS.push_nil _).symm rfl) ?_)))
          rintro _ h337 ⟨s337,G337,hn337,hp337⟩
          have rr337 := Nat.le_trans rr6 (Nat.add_le_add_right hn337 R)
          have NN337 := Nat.le_trans NN6 hn337
          refine Wc [(0,_)] rfl (?_)
          refine Wl (Wa rfl rfl (Wj (l := Yw .i64 [64522,64523,64523]) rfl rfl fun h338 n338 x338 g338 => ?_))
          have G338 := G337.ext0 x338
          refine Wa rfl rfl (Wa rfl rfl (Wa rfl rfl (We (v := ptr K.pp) rfl G338.m.gk rfl ?_)))
          refine Wb rfl (G338.c48 (by decide)) ?_
          rintro _ h339 ⟨r339,n339,rfl,hr339,G339,hn339,hp339,hu339,hz339,x339⟩
          have g338x339 : At h339 h337.next (.cells (Yw .i64 [64522,64523,64523]) 1 false) := At.ext (S := (· = K.pp)) g338 x339 (by have := G337.m.lt; omega)
          have rr339 := Nat.le_trans rr337 (Nat.add_le_add_right hn339 R)
          have NN339 := Nat.le_trans NN337 hn339
          refine Xi rfl rfl ⟨by omega,by omega⟩ (We (v := .int .i64 (([64522,64523,64523] : List Int).getD r339 0)) rfl g338x339 (by rw [Nat.zero_add,Nat.mul_one]; exact Yy (L := [64522,64523,64523]) (show r339 < 3 by omega)) ?_)
          refine Wb rfl (G339.c64 (op := (([64522,64523,64523] : List Int).getD r339 0)) (v2 := v) (by omega) (.inl (Yb (P := fun x => x ∈ opsC) (L := ([64522,64523,64523] : List Int)) (by decide) (show r339 < 3 by omega))) ((VS.sg_xa G339.m.z.mm (Yb (P := fun x => x = 64522 ∨ x = 64523) (L := ([64522,64523,64523] : List Int)) (by decide) (show r339 < 3 by omega))).at ok rfl (VS.push_nil _).symm) ok) ?_
          rintro _ h340 ⟨s340,G340,hn340,hp340⟩
          have rr340 := Nat.le_trans rr339 (Nat.add_le_add_right hn340 R)
          have NN340 := Nat.le_trans NN339 hn340
          refine Wk [] rfl (?_)
          exact Ws.mk [] rfl ⟨_,G340,NN340,by omega⟩
        · refine Wd (Wa rfl rfl (Wa rfl rfl (Wc [(0,_),(1,_),(21,_),(118,_)] rfl (?_))))
          refine Wn rfl (fun hc => ?_) (fun hc => ?_)
          · refine Wd (Wa rfl rfl (Wa rfl rfl (Wb rfl ((H.t _).go (v2 := (v.push [127,127,127])) G6 rr6 (by omega) ok (VS.push_nil _).symm rfl) ?_)))
            rintro _ h341 ⟨s341,G341,hn341,hp341⟩
            have rr341 := Nat.le_trans rr6 (Nat.add_le_add_right hn341 R)
            have NN341 := Nat.le_trans NN6 hn341
            refine Wc [(0,_)] rfl (?_)
            refine Wl (Wa rfl rfl (Wa rfl rfl (Wa rfl rfl (Wa rfl rfl (We (v := ptr K.pp) rfl G341.m.gk rfl ?_)))))
            refine Wb rfl (G341.c48 (by decide)) ?_
            rintro _ h342 ⟨r342,n342,rfl,hr342,G342,hn342,hp342,hu342,hz342,x342⟩
            have rr342 := Nat.le_trans rr341 (Nat.add_le_add_right hn342 R)
            have NN342 := Nat.le_trans NN341 hn342
            refine Wi (w := .int .u32 (r342 : Int)) rfl rfl (by rw [Ut (by omega)]) (Wb rfl (G342.c63 (op := 64520) (a := r342) (v2 := v) (by omega) (by omega) (.inl (by decide)) ((VS.sg_x8 G342.m.z.mm rfl (show r342 < 2 by omega)).at ok rfl (VS.push_nil _).symm) ok) ?_)
            rintro _ h343 ⟨s343,G343,hn343,hp343⟩
            have rr343 := Nat.le_trans rr342 (Nat.add_le_add_right hn343 R)
            have NN343 := Nat.le_trans NN342 hn343
            refine Wk [] rfl (?_)
            exact Ws.mk [] rfl ⟨_,G343,NN343,by omega⟩
          · refine Wd (Wa rfl rfl (Wa rfl rfl (Wc [(0,_),(1,_),(21,_),(131,_)] rfl (?_))))
            refine Wn rfl (fun hc => ?_) (fun hc => ?_)
            · refine Wd (Wa rfl rfl (Wa rfl rfl (Wb rfl ((H.t _).go (v2 := (v.push [127,127,127])) G6 rr6 (by omega) ok (VS.push_nil _).symm rfl) ?_)))
              rintro _ h344 ⟨s344,G344,hn344,hp344⟩
              have rr344 := Nat.le_trans rr6 (Nat.add_le_add_right hn344 R)
              have NN344 := Nat.le_trans NN6 hn344
              refine Wc [(0,_)] rfl (?_)
              refine Wl (Wa rfl rfl (Wa rfl rfl (Wa rfl rfl (Wa rfl rfl (We (v := .slice s344.oa s344.ops.length s344.oc) rfl G344.m.gk rfl ?_)))))
              refine Wj (l := Yw .i64 [64524,64526]) rfl rfl fun h345 n345 x345 g345 => ?_
              have G345 := G344.ext0 x345
              refine Wa rfl rfl (Wa rfl rfl (Wa rfl rfl (We (v := ptr K.pp) rfl G345.m.gk rfl ?_)))
              refine Wb rfl (G345.c48 (by decide)) ?_
              rintro _ h346 ⟨r346,n346,rfl,hr346,G346,hn346,hp346,hu346,hz346,x346⟩
              have g345x346 : At h346 h344.next (.cells (Yw .i64 [64524,64526]) 1 false) := At.ext (S := (· = K.pp)) g345 x346 (by have := G344.m.lt; omega)
              have rr346 := Nat.le_trans rr344 (Nat.add_le_add_right hn346 R)
              have NN346 := Nat.le_trans NN344 hn346
              refine Yn rfl rfl G346.m.gk (v := .slice s344.oa s344.ops.length s344.oc) rfl G346.m.o.sl.same ?_
              refine Xi rfl rfl ⟨by omega,by omega⟩ (We (v := .int .i64 (([64524,64526] : List Int).getD r346 0)) rfl g345x346 (by rw [Nat.zero_add,Nat.mul_one]; exact Yy (L := [64524,64526]) (show r346 < 2 by omega)) ?_)
              refine Wa rfl rfl (?_)
              have o347 := G346.m.o
              have hops347 : s344.ops.length ≤ 100100 := Zf (K := K) (s := ({ s344 with n := n346 } : Sm)) G346.m (by omega)
              refine Wj (l := en IM.enc [⟨⟨(([64524,64526] : List Int).getD r346 0),0,0,0,[],0⟩,none,0⟩]) rfl rfl fun h347 n347 x347 g347 => ?_
              refine Xk (m := 1) rfl rfl (o347.ext x347) rfl (OwS.new (n := 1) (c := 1) g347 rfl).sl.first ⟨by omega,by omega⟩ rfl (Xz _) (by decide) fun hh347 a347 c347 xx347 oo347 b347 => ?_
              refine Wa rfl rfl (Wa rfl rfl (Wm (l := [.slice a347 (({ s344 with n := n346 } : Sm).ops.length + 1) c347]) rfl rfl rfl rfl ((G346.m.gk.ext x347).ext xx347 fun r => (G346.m.no _ r).2.1 rfl) (by simp) rfl fun h348 nn348 x348 g348 => ?_))
              obtain ⟨s348,G348,hn348,hp348⟩ := G346.push' (k := 1) (xs := [⟨⟨(([64524,64526] : List Int).getD r346 0),0,0,0,[],0⟩,none,0⟩]) (v2 := v) x347 xx347 rfl oo347 b347 x348 g348 (fun x hx => by rw [List.mem_singleton] at hx; subst hx; exact .none (ok1 (by omega) (by omega) ⟨by omega,by omega⟩) (.inl (Yb (P := fun x => x ∈ opsC) (L := ([64524,64526] : List Int)) (by decide) (show r346 < 2 by omega)))) (.one ((VS.sg_xc G346.m.z.mm (Yb (P := fun x => x = 64524 ∨ x = 64526) (L := ([64524,64526] : List Int)) (by decide) (show r346 < 2 by omega)) rfl rfl).at ok rfl (VS.push_nil _).symm) ok)
              have rr348 := Nat.le_trans rr346 (Nat.add_le_add_right hn348 R)
              have NN348 := Nat.le_trans NN346 hn348
              refine Wk [] rfl (?_)
              exact Ws.mk [] rfl ⟨_,G348,NN348,by omega⟩
            · refine Wd (Wa rfl rfl (Wa rfl rfl (Wc [(0,_),(1,_),(21,_),(154,_)] rfl (?_))))
              refine Wn rfl (fun hc => ?_) (fun hc => ?_)
              · refine Wd (Wa rfl rfl (Wa rfl rfl (Wa rfl rfl (Wa rfl rfl (We (v := ptr K.pp) rfl G6.m.gk rfl ?_)))))
                refine Wb rfl (G6.c48 (by decide)) ?_
                rintro _ h349 ⟨r349,n349,rfl,hr349,G349,hn349,hp349,hu349,hz349,x349⟩
                have rr349 := Nat.le_trans rr6 (Nat.add_le_add_right hn349 R)
                have NN349 := Nat.le_trans NN6 hn349
                refine Wi (w := .int .u64 (r349 : Int)) rfl rfl (by rw [Vu (by omega)]) (Wb rfl (G349.c60 (t := 127) (N := r349) (.inl rfl) (by omega) ok) ?_)
                rintro _ h350 ⟨s350,G350,hn350,hp350⟩
                have rr350 := Nat.le_trans rr349 (Nat.add_le_add_right hn350 R)
                have NN350 := Nat.le_trans NN349 hn350
                refine Wc [(0,_)] rfl (?_)
                refine Wd (Wa rfl rfl (Wb rfl (G350.c75 (by omega) (ok.push [127])) ?_))
                rintro _ h351 ⟨s351,G351,hn351,hp351⟩
                replace G351 := G351.cast (v2 := (v.push [127,112])) (VS.push_push _ [127] [112]).symm
                have rr351 := Nat.le_trans rr350 (Nat.add_le_add_right hn351 R)
                have NN351 := Nat.le_trans NN350 hn351
                refine Wc [(0,_)] rfl (?_)
                refine Wl (Wa rfl rfl (Wb rfl (G351.c63 (op := 38) (a := 0) (v2 := v) (by omega) (by omega) (.inl (by decide)) ((VS.sg_38 G351.m.z.mm rfl rfl).at ok rfl (VS.push_nil _).symm) ok) ?_))
                rintro _ h352 ⟨s352,G352,hn352,hp352⟩
                have rr352 := Nat.le_trans rr351 (Nat.add_le_add_right hn352 R)
                have NN352 := Nat.le_trans NN351 hn352
                refine Wk [] rfl (?_)
                exact Ws.mk [] rfl ⟨_,G352,NN352,by omega⟩
              · refine Wd (Wa rfl rfl (Wa rfl rfl (Wc [(0,_),(1,_),(21,_),(168,_)] rfl (?_))))
                refine Wn rfl (fun hc => ?_) (fun hc => ?_)
                · refine Wl (Wa rfl rfl (Wa rfl rfl (Wb rfl ((H.lo _).go (v2 := v) G6 rr6 (by omega) ok (VS.push_nil _).symm (VS.push_nil _).symm) ?_)))
                  rintro _ h353 ⟨s353,G353,hn353,hp353⟩
                  have rr353 := Nat.le_trans rr6 (Nat.add_le_add_right hn353 R)
                  have NN353 := Nat.le_trans NN6 hn353
                  refine Wk [] rfl (?_)
                  exact Ws.mk [] rfl ⟨_,G353,NN353,by omega⟩
                · refine Wd (Wa rfl rfl (Wa rfl rfl (Wc [(0,_),(1,_),(21,_),(173,_)] rfl (?_))))
                  refine Wn rfl (fun hc => ?_) (fun hc => ?_)
                  · refine Wl (Wa rfl rfl (Wj (l := Yw .i64 [64521,64525]) rfl rfl fun h354 n354 x354 g354 => ?_))
                    have G354 := G6.ext0 x354
                    refine Wa rfl rfl (Wa rfl rfl (Wa rfl rfl (We (v := ptr K.pp) rfl G354.m.gk rfl ?_)))
                    refine Wa rfl rfl (Wa rfl rfl (Wa rfl rfl (We (v := ptr K.pp) rfl G354.m.gk rfl ?_)))
                    refine Wb rfl (G354.c48 (by decide)) ?_
                    rintro _ h355 ⟨r355,n355,rfl,hr355,G355,hn355,hp355,hu355,hz355,x355⟩
                    have g354x355 : At h355 h5.next (.cells (Yw .i64 [64521,64525]) 1 false) := At.ext (S := (· = K.pp)) g354 x355 (by have := G6.m.lt; omega)
                    have rr355 := Nat.le_trans rr6 (Nat.add_le_add_right hn355 R)
                    have NN355 := Nat.le_trans NN6 hn355
                    refine Yn rfl rfl G355.m.gk (v := ptr K.pp) rfl (by simp [Yq,Ys]) ?_
                    refine Xi rfl rfl ⟨by omega,by omega⟩ (We (v := .int .i64 (([64521,64525] : List Int).getD r355 0)) rfl g354x355 (by rw [Nat.zero_add,Nat.mul_one]; exact Yy (L := [64521,64525]) (show r355 < 2 by omega)) ?_)
                    refine Wb rfl (G355.c48 (by decide)) ?_
                    rintro _ h356 ⟨r356,n356,rfl,hr356,G356,hn356,hp356,hu356,hz356,x356⟩
                    have g354x355x356 : At h356 h5.next (.cells (Yw .i64 [64521,64525]) 1 false) := At.ext (S := (· = K.pp)) g354x355 x356 (by have := G6.m.lt; omega)
                    have rr356 := Nat.le_trans rr355 (Nat.add_le_add_right hn356 R)
                    have NN356 := Nat.le_trans NN355 hn356
                    refine Yn rfl rfl g354x355x356 (v := .int .i64 (([64521,64525] : List Int).getD r355 0)) (by rw [Nat.zero_add,Nat.mul_one]; exact Yy (L := ([64521,64525] : List Int)) (show r355 < 2 by omega)) (by simp [Yq,Ys]) ?_
                    refine Wi (w := .int .u32 (r356 : Int)) rfl rfl (by rw [Ut (by omega)]) (Wb rfl (G356.c63 (op := (([64521,64525] : List Int).getD r355 0)) (a := r356) (v2 := v) (by omega) (by omega) (.inl (Yb (P := fun x => x ∈ opsC) (L := ([64521,64525] : List Int)) (by decide) (show r355 < 2 by omega))) ((VS.sg_x9d G356.m.z.mm (Yb (P := fun x => x = 64521 ∨ x = 64525) (L := ([64521,64525] : List Int)) (by decide) (show r355 < 2 by omega)) (show r356 < 2 by omega)).at ok (VS.push_nil _).symm (VS.push_nil _).symm) ok) ?_)
                    rintro _ h357 ⟨s357,G357,hn357,hp357⟩
                    have rr357 := Nat.le_trans rr356 (Nat.add_le_add_right hn357 R)
                    have NN357 := Nat.le_trans NN356 hn357
                    refine Wk [] rfl (?_)
                    exact Ws.mk [] rfl ⟨_,G357,NN357,by omega⟩
                  · refine Wd (Wa rfl rfl (Wa rfl rfl (Wc [(0,_),(1,_),(191,_)] rfl (?_))))
                    refine Wn rfl (fun hc => ?_) (fun hc => ?_)
                    · refine Wd (Wa rfl rfl (Wa rfl rfl (Wa rfl rfl (Wa rfl rfl (We (v := ptr K.pp) rfl G6.m.gk rfl ?_)))))
                      refine Wb rfl (G6.c48 (by decide)) ?_
                      rintro _ h358 ⟨r358,n358,rfl,hr358,G358,hn358,hp358,hu358,hz358,x358⟩
                      have rr358 := Nat.le_trans rr6 (Nat.add_le_add_right hn358 R)
                      have NN358 := Nat.le_trans NN6 hn358
                      refine Wi (w := .int .u64 (r358 : Int)) rfl rfl (by rw [Vu (by omega)]) (Wb rfl (G358.c60 (t := 127) (N := r358) (.inl rfl) (by omega) ok) ?_)
                      rintro _ h359 ⟨s359,G359,hn359,hp359⟩
                      have rr359 := Nat.le_trans rr358 (Nat.add_le_add_right hn359 R)
                      have NN359 := Nat.le_trans NN358 hn359
                      refine Wc [(0,_)] rfl (?_)
                      refine Wd (Wa rfl rfl (Wb rfl (G359.c75 (by omega) (ok.push [127])) ?_))
                      rintro _ h360 ⟨s360,G360,hn360,hp360⟩
                      replace G360 := G360.cast (v2 := (v.push [127,112])) (VS.push_push _ [127] [112]).symm
                      have rr360 := Nat.le_trans rr359 (Nat.add_le_add_right hn360 R)
                      have NN360 := Nat.le_trans NN359 hn360
                      refine Wc [(0,_)] rfl (?_)
                      refine Wd (Wa rfl rfl (Wa rfl rfl (Wa rfl rfl (Wa rfl rfl (We (v := ptr K.pp) rfl G360.m.gk rfl ?_)))))
                      refine Wb rfl (G360.c48 (by decide)) ?_
                      rintro _ h361 ⟨r361,n361,rfl,hr361,G361,hn361,hp361,hu361,hz361,x361⟩
                      have rr361 := Nat.le_trans rr360 (Nat.add_le_add_right hn361 R)
                      have NN361 := Nat.le_trans NN360 hn361
                      refine Wi (w := .int .u64 (r361 : Int)) rfl rfl (by rw [Vu (by omega)]) (Wb rfl (G361.c60 (t := 127) (N := r361) (.inl rfl) (by omega) (ok.push [127,112])) ?_)
                      rintro _ h362 ⟨s362,G362,hn362,hp362⟩
                      replace G362 := G362.cast (v2 := (v.push [127,112,127])) (VS.push_push _ [127,112] [127]).symm
                      have rr362 := Nat.le_trans rr361 (Nat.add_le_add_right hn362 R)
                      have NN362 := Nat.le_trans NN361 hn362
                      refine Wc [(0,_)] rfl (?_)
                      refine Wl (Wa rfl rfl (Wb rfl (G362.c63 (op := 64529) (a := 0) (v2 := v) (by omega) (by omega) (.inl (by decide)) ((VS.sg_xh G362.m.z.mm rfl rfl).at ok rfl (VS.push_nil _).symm) ok) ?_))
                      rintro _ h363 ⟨s363,G363,hn363,hp363⟩
                      have rr363 := Nat.le_trans rr362 (Nat.add_le_add_right hn363 R)
                      have NN363 := Nat.le_trans NN362 hn363
                      refine Wk [] rfl (?_)
                      exact Ws.mk [] rfl ⟨_,G363,NN363,by omega⟩
                    · refine Wl (Wa rfl rfl (Wa rfl rfl (Wb rfl ((H.j _).go (v2 := v) G6 rr6 (by omega) ok (VS.push_nil _).symm (VS.push_nil _).symm) ?_)))
                      rintro _ h364 ⟨s364,G364,hn364,hp364⟩
                      have rr364 := Nat.le_trans rr6 (Nat.add_le_add_right hn364 R)
                      have NN364 := Nat.le_trans NN6 hn364
                      refine Wk [] rfl (?_)
                      exact Ws.mk [] rfl ⟨_,G364,NN364,by omega⟩

end
end Go.Dx.SYtpkefdoleieloaa
