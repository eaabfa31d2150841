/- Texts merged: Tm5.lean, Tm6.lean, Tm7.lean. -/
import Derived.Test.YtpkefdoleieloaaCste
namespace Go.Dx.SYtpkefdoleieloaa
open Go.Proofs
set_option linter.unusedVariables false
set_option linter.unusedSimpArgs false
section
/- Made modules, with types: expr, three, stmts. -/
open VS (Okv MM)
theorem E50r {K : Kt} {R : Nat} (H : AllAt K R) {h h1 : Heap} {s s1 : Sm} {v : VS} (ok : Okv v) {t : Nat} (tv : t = 127 ∨ t = 126) {d c : Int} {kx : Nat → Kn} {kr : Kn} (G0 : Go K h s h1 s1 v v) (r0 : K.xs.length ≤ s1.n + R) (n0 : s.n ≤ s1.n) (p0 : pot K s1 ≤ 99970) (p1 : pot K s1 ≤ pot K s + (-30)) :
    W Try.prog (match F25.code with | .seq _ (.seq _ b) => b | _ => .skip) [(0,ptr K.pk),(1,.int .u8 (t : Int)),(2,.int .i64 d),(6,.int .i64 c)] h1 (K3 (Ws F25.res fun _ h' => Jr K h s s v (v.push [t]) 1 h') kx kr) := by
  refine Wd (Wa rfl rfl (Wa rfl rfl (Wa rfl rfl (Wc [(0,_),(1,_),(2,_),(6,_),(7,_)] rfl (?_)))))
  exact E50 H ok tv G0 r0 n0 p0 p1
set_option maxHeartbeats 1000000 in
theorem E50n {K : Kt} {R : Nat} (H : AllAt K R) {h : Heap} {s : Sm} {v : VS} (ok : Okv v) {t : Nat} (tv : t = 127 ∨ t = 126) {d : Int} (m : Mk K h s) (hl : s.n < K.xs.length) (r0 : K.xs.length ≤ s.n + (R + 1)) (p0 : pot K s ≤ 100000) :
    Fn Try.prog 25 [ptr K.pk,.int .u8 (t : Int),.int .i64 d] h fun _ h' => Jr K h s s v (v.push [t]) 1 h' := by
  have G0 := Go.refl m v
  refine fnK F25.fok rfl ?_
  refine Wd (Wa rfl rfl (Wa rfl rfl (Wa rfl rfl (We (v := ptr K.pp) rfl G0.m.gk rfl (Wb rfl (G0.c48 (by decide)) ?_)))))
  rintro _ h1 ⟨r1,n1,rfl,hr1,G1,hn1,hp1,hu1,hz1,x1⟩
  obtain ⟨hu,hpu⟩ := hu1 hl
  refine Wa rfl rfl (Wc [(0,_),(1,_),(2,_),(6,_)] rfl (?_))
  have rr : K.xs.length ≤ n1 + R := by omega
  have fin : ∀ {c : Int} {kx : Nat → Kn} {kr : Kn},W Try.prog (match F25.code with | .seq _ (.seq _ b) => b | _ => .skip) [(0,ptr K.pk),(1,.int .u8 (t : Int)),(2,.int .i64 d),(6,.int .i64 c)] h1 (K3 (Ws F25.res fun _ h' => Jr K h s s v (v.push [t]) 1 h') kx kr) :=
    fun {c kx kr} => E50r H ok tv G1 rr hn1 (by omega) (by omega)
  have go : ∀ {b : Bool} {kx : Nat → Kn} {kr : Kn},W Try.prog (match F25.code with | .seq _ (.seq (.seq _ c) b) => .seq c b | _ => .skip) [(0,ptr K.pk),(1,.int .u8 (t : Int)),(2,.int .i64 d),(6,.int .i64 (r1 : Int)),(37,.bool b)] h1 (K3 (Ws F25.res fun _ h' => Jr K h s s v (v.push [t]) 1 h') kx kr) := by
    intro b kx kr
    refine Wo rfl (fun _ => ?_) (fun _ => Wr fin)
    refine Wd (Wa rfl rfl (Ge rfl rfl (by decide) (Wa rfl rfl (Wc [(0,_),(1,_),(2,_),(6,_)] rfl (?_)))))
    exact fin
  refine Xc (Wd (Wa rfl rfl (Wa rfl rfl (Wa rfl rfl ?_))))
  cases hd : decide (d ≤ 0)
  case true =>
    (repeat (first | refine Wg rfl ?_ | refine Wa rfl rfl ?_))
    refine Wc [(0,_),(1,_),(2,_),(6,_),(37,_)] rfl (?_)
    exact go
  refine Wh rfl (Wa rfl rfl (Wh rfl (Wa rfl rfl (Wh rfl (Wa rfl rfl (Wh rfl (We (v := ptr K.pp) rfl G1.m.gk rfl (Wh rfl (Wb rfl G1.c58 ?_)))))))))
  rintro _ _ ⟨rfl,rfl⟩
  refine Wa rfl rfl (Wa rfl rfl ?_)
  cases ho : decide (((({ s with n := n1 } : Sm).n : Nat) : Int) ≥ (K.xs.length : Int))
  case true =>
    (repeat (first | refine Wg rfl ?_ | refine Wa rfl rfl ?_))
    refine Wc [(0,_),(1,_),(2,_),(6,_),(37,_)] rfl (?_)
    exact go
  refine Wh rfl (Wa rfl rfl (Wh rfl (Wa rfl rfl (Wh rfl (Wa rfl rfl (Wh rfl (We (v := .slice s.oa s.ops.length s.oc) rfl G1.m.gk rfl ?_)))))))
  refine Wh rfl (Wa rfl rfl (Wh rfl (Wa rfl rfl (Wa rfl rfl (Wc [(0,_),(1,_),(2,_),(6,_),(37,_)] rfl (?_))))))
  exact go
set_option maxHeartbeats 1000000 in
theorem E50z {K : Kt} {h : Heap} {s : Sm} {v : VS} (ok : Okv v) {t : Nat} (tv : t = 127 ∨ t = 126) {d : Int} (m : Mk K h s) (hl : s.n = K.xs.length) (p0 : pot K s ≤ 100000) :
    Fn Try.prog 25 [ptr K.pk,.int .u8 (t : Int),.int .i64 d] h fun _ h' => Jr K h s s v (v.push [t]) 1 h' := by
  have G0 := Go.refl m v
  refine fnK F25.fok rfl ?_
  refine Wd (Wa rfl rfl (Wa rfl rfl (Wa rfl rfl (We (v := ptr K.pp) rfl G0.m.gk rfl (Wb rfl (G0.c48 (by decide)) ?_)))))
  rintro _ h1 ⟨r1,n1,rfl,hr1,G1,hn1,hp1,hu1,hz1,x1⟩
  obtain rfl : r1 = 0 := hz1 hl
  have hn2 : n1 = K.xs.length := by have h1 : n1 ≤ K.xs.length := G1.m.hn; omega
  refine Wa rfl rfl (Wc [(0,_),(1,_),(2,_),(6,_)] rfl (?_))
  have go : ∀ {kx : Nat → Kn} {kr : Kn},W Try.prog (match F25.code with | .seq _ (.seq (.seq _ c) b) => .seq c b | _ => .skip) [(0,ptr K.pk),(1,.int .u8 (t : Int)),(2,.int .i64 d),(6,.int .i64 ((0 : Nat) : Int)),(37,.bool true)] h1 (K3 (Ws F25.res fun _ h' => Jr K h s s v (v.push [t]) 1 h') kx kr) := by
    intro kx kr
    refine Wo rfl (fun _ => ?_) (fun hc => by cases hc)
    refine Wd (Wa rfl rfl (Ge rfl rfl (by decide) (Wa rfl rfl (Wc [(0,_),(1,_),(2,_),(6,.int .i64 0)] rfl (?_)))))
    refine Wd (Wa rfl rfl (Wa rfl rfl (Wa rfl rfl (Wc [(0,_),(1,_),(2,_),(6,_),(7,_)] rfl (?_)))))
    refine Ze ?_
    refine Wd (Wa rfl rfl (Wa rfl rfl (Wa rfl rfl (Wc [(0,_),(1,_),(2,_),(6,_),(7,_),(46,.bool true)] rfl (?_)))))
    refine Wn rfl (fun _ => ?_) (fun hc => by cases hc)
    refine Wl (Wa rfl rfl (Wa rfl rfl (Wa rfl rfl (Wb rfl G1.c61 ?_))))
    rintro _ h2 ⟨N2,n2,rfl,G2,hn2,hp2⟩
    refine Wb rfl (G2.c60 (t := t) (N := N2) tv (by omega) ok) ?_
    rintro _ h3 ⟨s3,G3,hn3,hp3⟩
    refine Wk [] rfl (?_)
    exact Ws.mk [] rfl ⟨_,G3,Nat.le_trans hn1 (Nat.le_trans hn2 hn3),by omega⟩
  refine Xc (Wd (Wa rfl rfl (Wa rfl rfl (Wa rfl rfl ?_))))
  cases hd : decide (d ≤ 0)
  case true =>
    (repeat (first | refine Wg rfl ?_ | refine Wa rfl rfl ?_))
    refine Wc [(0,_),(1,_),(2,_),(6,_),(37,_)] rfl (?_)
    exact go
  refine Wh rfl (Wa rfl rfl (Wh rfl (Wa rfl rfl (Wh rfl (Wa rfl rfl (Wh rfl (We (v := ptr K.pp) rfl G1.m.gk rfl (Wh rfl (Wb rfl G1.c58 ?_)))))))))
  rintro _ _ ⟨rfl,rfl⟩
  have ho : decide (((({ s with n := n1 } : Sm).n : Nat) : Int) ≥ (K.xs.length : Int)) = true := decide_eq_true (by show (n1 : Int) ≥ _; omega)
  refine Wi (w := .bool true) rfl rfl (by rw [ho]) (Wa rfl rfl ?_)
  (repeat (first | refine Wg rfl ?_ | refine Wa rfl rfl ?_))
  refine Wc [(0,_),(1,_),(2,_),(6,_),(37,_)] rfl (?_)
  exact go
abbrev Eh (K : Kt) (R : Nat) : Prop := ∀ (t : Nat) d,t = 127 ∨ t = 126 → CF K R 25 [ptr K.pk,.int .u8 (t : Int),.int .i64 d] 1 100000 [] [t]
set_option maxHeartbeats 1000000 in
theorem E74 {K : Kt} {R : Nat} (E : Eh K R) {d : Int} : CF K R 127 [ptr K.pk,.int .i64 d] 3 99975 [] [127,127,127] := by
  intro h s v ok m r0 p0
  rw [VS.push_nil v]
  have G0 := Go.refl m v
  refine fnK F127.fok rfl ?_
  refine Wd (Wa rfl rfl (Wc [(0,_),(1,_),(4,_)] rfl (?_)))
  refine Ze ?_
  refine Xy (fun k e h' => ∃ (i : Nat) (s1 : Sm),e = [(0,ptr K.pk),(1,.int .i64 d),(4,.int .i64 (i : Int))] ∧ i ≤ 3 ∧ k = 3 - i ∧ Go K h s h' s1 v (v.push (List.replicate i 127)) ∧ s.n ≤ s1.n ∧ pot K s1 ≤ pot K s + i) ?_ (k := 3) ⟨0,s,rfl,by omega,rfl,G0.cast (VS.push_nil v).symm,Nat.le_refl _,by omega⟩
  rintro k e h' ⟨i,s1,rfl,hi,rfl,G1,n1,p1⟩
  have e1 : (v.push (List.replicate i 127)).push [127] = v.push (List.replicate (i + 1) 127) := by rw [List.replicate_succ',VS.push_push]
  have oki := ok.push (List.replicate i 127)
  have r1 := Nat.le_trans r0 (Nat.add_le_add_right n1 R)
  refine Xc (Wd (Wa rfl rfl (Wa rfl rfl (Wc [(0,_),(1,_),(4,_),(6,_)] rfl (?_)))))
  refine Wo rfl (fun hc => ?_) (fun hc => ?_)
  · have hi3 : i < 3 := by have := of_decide_eq_true hc; omega
    refine Wr (Wt ?_)
    refine Wd (Wa rfl rfl (Wa rfl rfl (Wa rfl rfl (We (v := ptr K.pp) rfl G1.m.gk rfl (Wb rfl (G1.c48 (by decide)) ?_)))))
    rintro _ h2 ⟨r2,n2,rfl,hr2,G2,hn2,hp2,hu2,hz2,x2⟩
    have rr2 : K.xs.length ≤ n2 + R := by omega
    refine Wa rfl rfl (Wc [(0,_),(1,_),(4,_),(14,_)] rfl (?_))
    refine Wn rfl (fun _ => ?_) (fun _ => ?_)
    · refine Wl (Wa rfl rfl (Wa rfl rfl (Wa rfl rfl (Wb rfl ((E 127 _ (.inl rfl)).go (v2 := v.push (List.replicate (i + 1) 127)) G2 rr2 (by omega) oki (VS.push_nil _).symm e1.symm) ?_))))
      rintro _ h3 ⟨s3,G3,hn3,hp3⟩
      refine Wk [(0,_),(1,_),(4,_)] rfl (?_)
      refine Wl (Wa rfl rfl (Wa rfl rfl (Wa rfl rfl (Wk [(0,_),(1,_),(4,_)] rfl (?_)))))
      exact ⟨3 - (i + 1),by omega,i + 1,s3,by rw [Zi (by omega)],by omega,rfl,G3,Nat.le_trans n1 (Nat.le_trans hn2 hn3),by omega⟩
    · refine Wl (Wa rfl rfl (Wa rfl rfl (Wa rfl rfl (Wa rfl rfl (We (v := ptr K.pp) rfl G2.m.gk rfl (Wb rfl (G2.c48 (by decide)) ?_))))))
      rintro _ h3 ⟨r3,n3,rfl,hr3,G3,hn3,hp3,hu3,hz3,x3⟩
      refine Wi (w := .int .u64 (r3 : Int)) rfl rfl (by rw [Vu (by omega)]) (Wb rfl (G3.c60 (t := 127) (N := r3) (.inl rfl) (by omega) oki) ?_)
      rintro _ h4 ⟨s4,G4,hn4,hp4⟩
      replace G4 := G4.cast e1
      refine Wk [(0,_),(1,_),(4,_)] rfl (?_)
      refine Wl (Wa rfl rfl (Wa rfl rfl (Wa rfl rfl (Wk [(0,_),(1,_),(4,_)] rfl (?_)))))
      exact ⟨3 - (i + 1),by omega,i + 1,s4,by rw [Zi (by omega)],by omega,rfl,G4,Nat.le_trans n1 (Nat.le_trans hn2 (Nat.le_trans hn3 hn4)),by omega⟩
  · refine Xn (Xp ?_)
    have hi3 : i = 3 := by have := of_decide_eq_false hc; omega
    subst hi3
    exact Ws.mk [] rfl ⟨s1,G1,n1,by omega⟩
set_option maxHeartbeats 1000000 in
theorem E49 {K : Kt} {R : Nat} (T : ∀ (h : Heap) (s : Sm) (v : VS) (d : Int),Okv v → Mk K h s → s.n < K.xs.length → K.xs.length ≤ s.n + R → pot K s ≤ 100000 → Fn Try.prog 72 [ptr K.pk,.int .i64 d] h fun _ h' => Jr K h s s v v 0 h') {n d : Int} (hn : n ≤ 1000) :
    CF K R 24 [ptr K.pk,.int .i64 n,.int .i64 d] 0 100000 [] [] := by
  intro h s v ok m r0 p0
  rw [VS.push_nil v]
  have G0 := Go.refl m v
  refine fnK F24.fok rfl ?_
  refine Wd (Wa rfl rfl (Wc [(0,_),(1,_),(2,_),(6,_)] rfl (?_)))
  refine Ze ?_
  refine Xy (fun k e h' => ∃ (i : Nat) (s1 : Sm),e = [(0,ptr K.pk),(1,.int .i64 n),(2,.int .i64 d),(6,.int .i64 (i : Int))] ∧ k = n.toNat - i ∧ i ≤ 1000 ∧ Go K h s h' s1 v v ∧ s.n ≤ s1.n ∧ pot K s1 ≤ pot K s + 0) ?_ (k := n.toNat) ⟨0,s,rfl,rfl,by omega,G0,Nat.le_refl _,by omega⟩
  rintro k e h' ⟨i,s1,rfl,rfl,hi,G1,n1,p1⟩
  have r1 := Nat.le_trans r0 (Nat.add_le_add_right n1 R)
  have out : ∀ {e : Env} {kn : Kn} {kr : Kn},W Try.prog (.seq (.cond (.t 25) .skip (.exit 0)) (match F24.code with | .seq _ (.block _ (.loop (.seq _ b))) => b | _ => .skip)) ((0,ptr K.pk) :: (1,.int .i64 n) :: (2,.int .i64 d) :: (6,.int .i64 (i : Int)) :: (25,.bool false) :: e) h'
      (K3 kn (bx 0 (Ws F24.res fun _ h' => Jr K h s s v v 0 h') fun _ _ _ => False) kr) := by
    intro e kn kr
    refine Wo rfl (fun hc => by cases hc) (fun _ => ?_)
    exact Xn (Xp (Ws.mk [] rfl ⟨s1,G1,n1,p1⟩))
  refine Xc (Wd (Wa rfl rfl (Wa rfl rfl ?_)))
  by_cases h1 : (i : Int) < n
  case neg =>
    refine Wi (w := .bool false) rfl rfl (by rw [decide_eq_false h1]) (Wa rfl rfl ?_)
    (repeat (first | refine Wg rfl ?_ | refine Wa rfl rfl ?_))
    refine Wc [(0,_),(1,_),(2,_),(6,_),(25,_)] rfl (?_)
    exact out
  refine Wi (w := .bool true) rfl rfl (by rw [decide_eq_true h1]) (Wa rfl rfl ?_)
  refine Wh rfl (Wa rfl rfl (Wh rfl (Wa rfl rfl (Wh rfl (Wa rfl rfl (Wh rfl (We (v := ptr K.pp) rfl G1.m.gk rfl (Wh rfl (Wb rfl G1.c58 ?_)))))))))
  rintro _ _ ⟨rfl,rfl⟩
  by_cases h2 : s1.n < K.xs.length
  case neg =>
    refine Wh rfl (Wi (w := .bool false) rfl rfl (by rw [decide_eq_true (by omega)]; rfl) (Wa rfl rfl (Wa rfl rfl ?_)))
    (repeat (first | refine Wg rfl ?_ | refine Wa rfl rfl ?_))
    refine Wc [(0,_),(1,_),(2,_),(6,_),(25,_)] rfl (?_)
    exact out
  refine Wh rfl (Wi (w := .bool true) rfl rfl (by rw [decide_eq_false (by omega)]; rfl) (Wa rfl rfl (Wa rfl rfl ?_)))
  refine Wh rfl (Wa rfl rfl (Wh rfl (Wa rfl rfl (Wh rfl (Wa rfl rfl (Wh rfl (We (v := .slice s1.oa s1.ops.length s1.oc) rfl G1.m.gk rfl ?_)))))))
  refine Wh rfl (Wa rfl rfl (Wh rfl (Wa rfl rfl (Wa rfl rfl (Wc [(0,_),(1,_),(2,_),(6,_),(25,_)] rfl (?_))))))
  refine Wo rfl (fun _ => ?_) (fun _ => ?_)
  · refine Wr (Wt ?_)
    refine Wl (Wa rfl rfl (Wa rfl rfl (Wb rfl (T _ _ _ _ ok G1.m h2 r1 (by omega)) ?_)))
    rintro _ h3 ⟨s3,Q3,hn3,hp3⟩
    have G3 := G1.trans Q3
    refine Wk [(0,_),(1,_),(2,_),(6,_)] rfl (?_)
    refine Wl (Wa rfl rfl (Wa rfl rfl (Wa rfl rfl (Wk [(0,_),(1,_),(2,_),(6,_)] rfl (?_)))))
    exact ⟨n.toNat - (i + 1),by omega,i + 1,s3,by rw [Zi (by omega)],rfl,by omega,G3,Nat.le_trans n1 hn3,by omega⟩
  · exact Xn (Xp (Ws.mk [] rfl ⟨s1,G1,n1,p1⟩))

end
section
/- Made modules, with types: called; all of a maker's functions. -/
open VS (Okv MM)
theorem VS.MM.par {M : Mo} (q : MM M) {j : Nat} {p : List Nat × List Nat} (h : M.types[j]? = some p) : p.1.length ≤ 2 ∧ ∀ y ∈ p.1,y = 127 ∨ y = 126 := by
  rw [q.ty] at h
  have h2 := List.mem_of_getElem? h
  have : ∀ p ∈ ([([],[]),([127],[127]),([127,127],[127]),([126],[126]),([],[127]),([127],[127,127])] : List (List Nat × List Nat)),p.1.length ≤ 2 ∧ ∀ y ∈ p.1,y = 127 ∨ y = 126 := by decide
  exact this p h2
set_option maxHeartbeats 4000000 in
theorem E66r {K : Kt} {R : Nat} (E : Eh K R) {h h1 : Heap} {s s1 : Sm} {v : VS} (ok : Okv v) {t : Nat} {d : Int} {f x : Nat} {pa ra : Option Addr} {pc rc : Nat} {p : List Nat × List Nat} {kx : Nat → Kn} {kn : Kn} (G1 : Go K h s h1 s1 v v) (r1 : K.xs.length ≤ s1.n + R) (n1 : s.n ≤ s1.n) (p0 : pot K s1 ≤ 99975) (p1 : pot K s1 ≤ pot K s)
    (gx : At h1 x (.cells [.slice pa p.1.length pc,.slice ra p.2.length rc] 0 false)) (hx : ¬ K.S x ∧ x ≠ K.pk ∧ x ≠ K.pp ∧ ¬ Blk s1.oa x) (sp : SlA h1 1 pa p.1.length pc (bys p.1)) (hpS : ∀ i,Blk pa i → K.S i) (hpn : p.1.length ≤ 2) (hpt : ∀ y ∈ p.1,y = 127 ∨ y = 126) (hf : f < K.M.funcs.length) (hty : K.M.types[K.M.funcs[f]]? = some p) (hrt : p.2 = [t]) :
    W Try.prog (match F79.code with | .seq (.seq _ (.block _ (.loop (.seq _ (.seq (.block _ (.seq _ (.seq _ b))) _))))) _ => b | _ => .skip) [(0,ptr K.pk),(2,.int .i64 d),(6,.int .i64 (f : Int)),(7,ptr x)] h1 (K3 kn kx (Ws F79.res fun _ h' => Jr K h s s v (v.push [t]) 4 h')) := by
  have hf3 := G1.m.z.f3
  have hfr := G1.m.z.mm.fr _ (List.getElem_mem hf)
  refine Xc (Wd (Wa rfl rfl (Wc [(0,_),(2,_),(6,_),(7,_),(8,_)] rfl (?_))))
  refine Wt ?_
  refine Xy (fun k e h' => ∃ (i : Nat) (s2 : Sm),e = [(0,ptr K.pk),(2,.int .i64 d),(6,.int .i64 (f : Int)),(7,ptr x),(8,.int .i64 (i : Int))] ∧ i ≤ p.1.length ∧ k = p.1.length - i ∧ Go K h1 s1 h' s2 v (v.push (p.1.take i)) ∧ s1.n ≤ s2.n ∧ pot K s2 ≤ pot K s1 + i) ?_ (k := p.1.length) ⟨0,s1,rfl,by omega,rfl,(Go.refl G1.m v).cast (VS.push_nil v).symm,Nat.le_refl _,by omega⟩
  rintro k e h' ⟨i,s2,rfl,hi,rfl,Q2,n2,p2⟩
  have r2 := Nat.le_trans r1 (Nat.add_le_add_right n2 R)
  have dx : ∀ i,K.S i → ¬ (i = K.pk ∨ i = K.pp ∨ Blk s1.oa i) := fun i q r => by
    rcases r with r | r | r
    · exact G1.m.nk (by rw [← r]; exact q)
    · exact G1.m.np (by rw [← r]; exact q)
    · exact (G1.m.no i r).1 q
  have gx2 := gx.ext Q2.x fun r => by
    rcases r with r | r | r
    · exact hx.2.1 r
    · exact hx.2.2.1 r
    · exact hx.2.2.2 r
  have sp2 := sp.ext Q2.x fun i r => dx i (hpS i r)
  have G2 := G1.trans Q2
  refine Xc (Wd (Wa rfl rfl (Wa rfl rfl (We (v := .slice pa p.1.length pc) rfl gx2 rfl (Wa rfl rfl (Wa rfl rfl (Wc [(0,_),(2,_),(6,_),(7,_),(8,_),(72,_)] rfl (?_))))))))
  refine Wo rfl (fun hc => ?_) (fun hc => ?_)
  · have hil : i < p.1.length := by have := of_decide_eq_true hc; omega
    have e1 : p.1.take (i + 1) = p.1.take i ++ [p.1[i]] := by rw [List.take_add_one,List.getElem?_eq_getElem hil]; rfl
    have e2 : v.push (p.1.take (i + 1)) = (v.push (p.1.take i)).push [p.1[i]] := by rw [e1,VS.push_push]
    refine Wr (Wt ?_)
    refine Wl (Wa rfl rfl (Wa rfl rfl (We (v := .slice pa p.1.length pc) rfl gx2 rfl (Wa rfl rfl (Xx (u := .int .u8 ((p.1[i] : Nat) : Int)) rfl rfl sp2 ⟨by omega,by omega⟩ (by simp [hil]) fun _ => ?_)))))
    refine Wa rfl rfl (Wa rfl rfl (Wb rfl ((E p.1[i] _ (hpt _ (List.getElem_mem hil))).go (v2 := v.push (p.1.take (i + 1))) Q2 r2 (by omega) (ok.push (p.1.take i)) (VS.push_nil _).symm e2) ?_))
    rintro _ h3 ⟨s3,Q3,hn3,hp3⟩
    refine Wk [(0,_),(2,_),(6,_),(7,_),(8,_)] rfl (?_)
    refine Wl (Wa rfl rfl (Wa rfl rfl (Wa rfl rfl (Wk [(0,_),(2,_),(6,_),(7,_),(8,_)] rfl (?_)))))
    exact ⟨p.1.length - (i + 1),by omega,i + 1,s3,by rw [Zi (by omega)],by omega,rfl,Q3,Nat.le_trans n2 hn3,by omega⟩
  · have hie : i = p.1.length := by have := of_decide_eq_false hc; omega
    subst hie
    rw [List.take_length] at Q2 G2
    refine Xn (Xp ?_)
    refine Xc (Wd (Wa rfl rfl (Wa rfl rfl (Wa rfl rfl (We (v := ptr K.pp) rfl G2.m.gk rfl (Wb rfl (G2.c48 (by decide)) ?_))))))
    rintro _ h3 ⟨r3,n3,rfl,hr3,G3,hn3,hp3,hu3,hz3,x3⟩
    refine Wa rfl rfl (Wc [(0,_),(6,_),(89,_)] rfl (?_))
    refine Wo rfl (fun _ => ?_) (fun _ => ?_)
    · refine Xc (Wd (Wa rfl rfl (Wa rfl rfl (Wa rfl rfl (Wa rfl rfl (We (v := ptr K.pp) rfl G3.m.gk rfl (Wb rfl (G3.c48 (by decide)) ?_)))))))
      rintro _ h4 ⟨r4,n4,rfl,hr4,G4,hn4,hp4,hu4,hz4,x4⟩
      refine Wi (w := .int .u64 (r4 : Int)) rfl rfl (by rw [Vu (by omega)]) (Wb rfl (G4.c60 (t := 127) (N := r4) (.inl rfl) (by omega) (ok.push p.1)) ?_)
      rintro _ h5 ⟨s5,G5,hn5,hp5⟩
      replace G5 := G5.cast (v2 := v.push (p.1 ++ [127])) (VS.push_push _ _ _).symm
      refine Wc [(0,_),(6,_)] rfl (?_)
      have o := G5.m.o
      have hops : s5.ops.length ≤ 100100 := Zf G5.m (by omega)
      refine Wd (Wa rfl rfl (Wa rfl rfl (Wa rfl rfl (Wa rfl rfl (We (v := .slice s5.oa s5.ops.length s5.oc) rfl G5.m.gk rfl ?_)))))
      refine Wa rfl rfl (Wa rfl rfl (Wa rfl rfl (We (v := ptr K.pm) rfl G5.m.gk rfl (Wa rfl rfl (Wa rfl rfl (We rfl G5.m.z.gm G5.m.z.hF ?_))))))
      refine Wa rfl rfl (Xx (u := .int .u32 (K.M.funcs[f] : Int)) rfl rfl G5.m.z.sf ⟨by omega,by omega⟩ (by simp [hf]) fun _ => ?_)
      refine Wa rfl rfl (Wj (l := en IM.enc [im 17 K.M.funcs[f] 0 0 0]) rfl rfl fun h6 n6 x6 g6 => ?_)
      refine Xk (m := 1) rfl rfl (o.ext x6) rfl (OwS.new (n := 1) (c := 1) g6 rfl).sl.first ⟨by omega,by omega⟩ rfl (Xz _) (by decide) fun h7 a7 c7 x7 o7 b7 => ?_
      refine Wa rfl rfl (Wa rfl rfl (Wm (l := [.slice a7 (s5.ops.length + 1) c7]) rfl rfl rfl rfl ((G5.m.gk.ext x6).ext x7 fun r => (G5.m.no _ r).2.1 rfl) (by simp) rfl fun h8 n8 x8 g8 => ?_))
      obtain ⟨s8,G8,hn8,hp8⟩ := G5.push' (k := 1) (xs := [im 17 K.M.funcs[f] 0 0 0]) (v2 := v.push [t]) x6 x7 rfl o7 b7 x8 g8 (fun x hx => by rw [List.mem_singleton] at hx; subst hx; exact .none (ok0 (by omega)) (.inl (by decide))) (.one ((VS.sg_calli G5.m.z.mm rfl rfl hty).at ok rfl (by rw [hrt])) (ok.push _))
      refine Wc [] rfl (?_)
      refine Xo (Ws.mk [] rfl ⟨s8,G8,Nat.le_trans n1 (Nat.le_trans n2 (Nat.le_trans hn3 (Nat.le_trans hn4 (Nat.le_trans hn5 hn8)))),by omega⟩)
    · refine Wd (Wa rfl rfl (Wa rfl rfl (Wi (w := .int .u32 (f : Int)) rfl rfl (by rw [Ut (by omega)]) (Wb rfl (G3.c63 (op := 16) (a := f) (v2 := v.push [t]) (by omega) (by omega) (.inl (by decide)) ((VS.sg_call rfl (show K.M.funcs[f]? = _ from List.getElem?_eq_getElem hf) hty).at ok rfl (by rw [hrt])) (ok.push _)) ?_))))
      rintro _ h4 ⟨s4,G4,hn4,hp4⟩
      refine Wc [] rfl (?_)
      refine Xo (Ws.mk [] rfl ⟨s4,G4,Nat.le_trans n1 (Nat.le_trans n2 (Nat.le_trans hn3 hn4)),by omega⟩)
set_option maxHeartbeats 4000000 in
theorem E66c {K : Kt} {R : Nat} (E : Eh K R) {h h1 : Heap} {s s1 : Sm} {v : VS} (ok : Okv v) {t : Nat} {d : Int} {f x : Nat} {pa ra : Option Addr} {pc rc : Nat} {p : List Nat × List Nat} {kx : Nat → Kn} {kn : Kn} (G1 : Go K h s h1 s1 v v) (r1 : K.xs.length ≤ s1.n + R) (n1 : s.n ≤ s1.n) (p0 : pot K s1 ≤ 99975) (p1 : pot K s1 ≤ pot K s)
    (gx : At h1 x (.cells [.slice pa p.1.length pc,.slice ra p.2.length rc] 0 false)) (hx : ¬ K.S x ∧ x ≠ K.pk ∧ x ≠ K.pp ∧ ¬ Blk s1.oa x) (sp : SlA h1 1 pa p.1.length pc (bys p.1)) (hpS : ∀ i,Blk pa i → K.S i) (hpn : p.1.length ≤ 2) (hpt : ∀ y ∈ p.1,y = 127 ∨ y = 126) (sr : SlA h1 1 ra p.2.length rc (bys p.2)) (hf : f < K.M.funcs.length) (hty : K.M.types[K.M.funcs[f]]? = some p)
    (hk : ∀ h4 s4,Go K h s h4 s4 v v → s1.n ≤ s4.n → pot K s4 ≤ pot K s1 → kx 1 [(0,ptr K.pk),(1,.int .u8 (t : Int)),(2,.int .i64 d),(6,.int .i64 (f : Int)),(7,ptr x),(67,.bool true)] h4) :
    W Try.prog (match F79.code with | .seq (.seq _ (.block _ (.loop (.seq _ (.seq (.block _ (.seq _ b)) _))))) _ => b | _ => .skip) [(0,ptr K.pk),(1,.int .u8 (t : Int)),(2,.int .i64 d),(6,.int .i64 (f : Int)),(7,ptr x)] h1 (K3 kn kx (Ws F79.res fun _ h' => Jr K h s s v (v.push [t]) 4 h')) := by
  have out : ∀ {h4 : Heap} {s4 : Sm} {kn : Kn} {kr : Kn} {b : SCode},Go K h s h4 s4 v v → s1.n ≤ s4.n → pot K s4 ≤ pot K s1 → W Try.prog (.seq (.cond (.t 67) (.exit 1) .skip) b) [(0,ptr K.pk),(1,.int .u8 (t : Int)),(2,.int .i64 d),(6,.int .i64 (f : Int)),(7,ptr x),(67,.bool true)] h4 (K3 kn kx kr) := by
    intro h4 s4 kn kr b g n p
    refine Wo rfl (fun _ => ?_) (fun hc => by cases hc)
    exact Xn (hk _ _ g n p)
  refine Xc (Wd (Wa rfl rfl (We (v := .slice ra p.2.length rc) rfl gx rfl (Wa rfl rfl ?_))))
  by_cases h1n : p.2.length = 1
  case neg =>
    refine Wops_neq (v := true) rfl rfl (by simp; omega) (Wa rfl rfl ?_)
    (repeat (first | refine Wg rfl ?_ | refine Wa rfl rfl ?_))
    refine Wc [(0,_),(1,_),(2,_),(6,_),(7,_),(67,_)] rfl (?_)
    exact out G1 (Nat.le_refl _) (Int.le_refl _)
  refine Wops_neq (v := false) rfl rfl (by simp; omega) (Wa rfl rfl ?_)
  refine Wh rfl (Wa rfl rfl (Wh rfl (We (v := .slice ra p.2.length rc) rfl gx rfl ?_)))
  refine Wh rfl (Wops_idxG (u := .int .u8 (((p.2[0]'(by omega)) : Nat) : Int)) rfl rfl sr ⟨by omega,by omega⟩ (show (bys p.2)[(0 : Int).toNat]? = _ by rw [show (0 : Int).toNat = 0 from rfl,List.getElem?_map,List.getElem?_eq_getElem (by omega)]; rfl) (fun _ => rfl) fun _ => ?_)
  refine Wh rfl (Wa rfl rfl (Wh rfl (Wa rfl rfl (Wa rfl rfl (Wa rfl rfl ?_)))))
  cases hq : ((((p.2[0]'(by omega)) : Nat) : Int) != (t : Int))
  case true =>
    (repeat (first | refine Wg rfl ?_ | refine Wa rfl rfl ?_))
    refine Wc [(0,_),(1,_),(2,_),(6,_),(7,_),(67,_)] rfl (?_)
    exact out G1 (Nat.le_refl _) (Int.le_refl _)
  refine Wh rfl (Wa rfl rfl (Wh rfl (Wa rfl rfl (Wh rfl (Wa rfl rfl (Wh rfl (Wa rfl rfl (Wh rfl (We (v := .int .i64 K.self) rfl G1.m.gk rfl ?_)))))))))
  refine Wh rfl (Wa rfl rfl (Wh rfl (Wa rfl rfl ?_)))
  have hrt : p.2 = [t] := by
    have e : (((p.2[0]'(by omega)) : Nat) : Int) = (t : Int) := by simpa using hq
    obtain ⟨y,hy⟩ := List.length_eq_one_iff.1 h1n
    have e2 : p.2[0]'(by omega) = y := by simp [hy]
    rw [hy]; congr 1; omega
  cases hg : decide ((f : Int) ≥ K.self)
  case false =>
    refine Wg rfl (Wg rfl (Wg rfl (Wg rfl (Wg rfl (Wg rfl (Wh rfl (Wa rfl rfl (Wa rfl rfl (Wc [(0,_),(1,_),(2,_),(6,_),(7,_),(67,_)] rfl (?_))))))))))
    refine Wo rfl (fun hc => by cases hc) (fun _ => Wr ?_)
    exact E66r E ok G1 r1 n1 p0 p1 gx hx sp hpS hpn hpt hf hty hrt
  refine Wh rfl (Wa rfl rfl (Wh rfl (Wa rfl rfl (Wh rfl (Wa rfl rfl (Wh rfl (We (v := ptr K.pp) rfl G1.m.gk rfl (Wh rfl (Wb rfl (G1.c48 (by decide)) ?_)))))))))
  rintro _ h2 ⟨r2,n2,rfl,hr2,G2,hn2,hp2,hu2,hz2,x2⟩
  refine Wh rfl (Wa rfl rfl (Wh rfl (Wa rfl rfl (Wa rfl rfl (Wc [(0,_),(1,_),(2,_),(6,_),(7,_),(67,.bool (decide ((r2 : Int) > 0)))] rfl (?_))))))
  refine Wo rfl (fun hc => ?_) (fun hc => ?_)
  · have := out (kn := kn) (kr := Ws F79.res fun _ h' => Jr K h s s v (v.push [t]) 4 h') (b := .skip) G2 hn2 hp2
    rw [hc]
    exact Xn (hk _ _ G2 hn2 hp2)
  · refine Wr ?_
    have x2' : ∀ i,K.S i → ¬ (i = K.pp) := fun i q r => G1.m.np (by rw [← r]; exact q)
    rw [hc]
    exact E66r E ok G2 (by show _ ≤ n2 + R; omega) (Nat.le_trans n1 hn2) (by omega) (by omega) (gx.ext x2 hx.2.2.1) hx (sp.ext x2 fun i r => x2' i (hpS i r)) hpS hpn hpt hf hty hrt
set_option maxHeartbeats 4000000 in
theorem E66 {K : Kt} {R : Nat} (E : Eh K R) {t : Nat} (tv : t = 127 ∨ t = 126) {d : Int} : CF K R 79 [ptr K.pk,.int .u8 (t : Int),.int .i64 d] 4 99975 [] [t] := by
  intro h s v ok m r0 p0
  rw [VS.push_nil v]
  have G0 := Go.refl m v
  refine fnK F79.fok rfl ?_
  refine Xc (Wd (Wa rfl rfl (Wc [(0,_),(1,_),(2,_),(6,_)] rfl (?_))))
  refine Wt ?_
  refine Xy (fun k e h' => ∃ (f : Nat) (s1 : Sm),e = [(0,ptr K.pk),(1,.int .u8 (t : Int)),(2,.int .i64 d),(6,.int .i64 (f : Int))] ∧ f ≤ K.M.funcs.length ∧ k = K.M.funcs.length - f ∧ Go K h s h' s1 v v ∧ s.n ≤ s1.n ∧ pot K s1 ≤ pot K s) ?_ (k := K.M.funcs.length) ⟨0,s,rfl,by omega,rfl,G0,Nat.le_refl _,by omega⟩
  rintro k e h' ⟨f,s1,rfl,hi,rfl,G1,n1,p1⟩
  have f3 := G1.m.z.f3
  refine Xc (Wd (Wa rfl rfl (Wa rfl rfl (Wa rfl rfl (Wa rfl rfl (We (v := ptr K.pm) rfl G1.m.gk rfl (Wa rfl rfl (Wa rfl rfl (We rfl G1.m.z.gm G1.m.z.hF (Wa rfl rfl (Wa rfl rfl (Wc [(0,_),(1,_),(2,_),(6,_),(18,_)] rfl (?_)))))))))))))
  refine Wo rfl (fun hc => ?_) (fun hc => ?_)
  · have hf : f < K.M.funcs.length := by have := of_decide_eq_true hc; omega
    have hj : K.M.funcs[f] < 6 := G1.m.z.mm.fr _ (List.getElem_mem hf)
    obtain ⟨p,hty⟩ : ∃ p,K.M.types[K.M.funcs[f]]? = some p := ⟨K.M.types[K.M.funcs[f]]'(by rw [G1.m.z.mm.ty]; exact hj),List.getElem?_eq_getElem _⟩
    obtain ⟨pa,pc,ra,rc,ht,sp,sr,pS,rS⟩ := G1.m.z.tys _ _ hty
    obtain ⟨hpn,hpt⟩ := VS.MM.par G1.m.z.mm hty
    obtain ⟨idt,offt,vst,ezt,rot,hta,gt,hlt,hlt2,hgt⟩ := G1.m.z.st.at (by omega)
    have wt : (vst.drop (offt + ((K.M.funcs[f] : Nat) : Int).toNat * 2)).take 2 = [.slice pa p.1.length pc,.slice ra p.2.length rc] := by
      rw [Int.toNat_natCast,← ht]
      apply List.ext_getElem?
      intro q
      by_cases hq : q < 2
      · rw [List.getElem?_take_of_lt hq,List.getElem?_drop,List.getElem?_take_of_lt hq,List.getElem?_drop,Nat.add_assoc,hgt _ (by omega)]
      · rw [List.getElem?_eq_none (by simp; omega),List.getElem?_eq_none (by simp; omega)]
    have hT := G1.m.z.hT
    rw [hta] at hT
    refine Wr (Wt ?_)
    refine Wd (Wa rfl rfl (Wa rfl rfl (Wa rfl rfl (We (v := ptr K.pm) rfl G1.m.gk rfl (Wa rfl rfl (Wa rfl rfl (We rfl G1.m.z.gm hT ?_)))))))
    refine Wa rfl rfl (Wa rfl rfl (Wa rfl rfl (We (v := ptr K.pm) rfl G1.m.gk rfl (Wa rfl rfl (Wa rfl rfl (We rfl G1.m.z.gm G1.m.z.hF ?_))))))
    refine Wa rfl rfl (Xx (u := .int .u32 (K.M.funcs[f] : Int)) rfl rfl G1.m.z.sf ⟨by omega,by omega⟩ (by simp [hf]) fun _ => ?_)
    refine Xi rfl rfl ⟨by omega,by omega⟩ (Xj rfl gt (by rw [Int.toNat_natCast]; omega) wt (Xh fun h2 n2 x2 g2 => ?_))
    refine Wm (l := [.slice pa p.1.length pc,.slice ra p.2.length rc]) rfl rfl rfl rfl g2 (by simp) rfl fun h3 n3 x3 g3 => ?_
    refine Wc [(0,_),(1,_),(2,_),(6,_),(7,_)] rfl (?_)
    replace g3 : At h3 h'.next (.cells [.slice pa p.1.length pc,.slice ra p.2.length rc] 0 false) := g3
    have x23 : Xe h' h3 := x2.then x3 fun i r => .inr (by omega)
    have G3 := G1.ext0 x23
    have hx : ¬ K.S h'.next ∧ h'.next ≠ K.pk ∧ h'.next ≠ K.pp ∧ ¬ Blk s1.oa h'.next := by
      have o := G1.m.o
      have := G1.m.lt
      exact ⟨fun q => by have := G1.m.z.lt _ q; omega,by omega,by omega,fun q => by have := o.lt q; omega⟩
    have r1 := Nat.le_trans r0 (Nat.add_le_add_right n1 R)
    have sp3 := sp.ext x23
    have sr3 := sr.ext x23
    refine E66c E ok G3 r1 n1 (by omega) p1 g3 hx sp3 pS hpn hpt sr3 hf hty fun h4 s4 G4 n4 p4 => Xp ?_
    refine Wl (Wa rfl rfl (Wa rfl rfl (Wa rfl rfl (Wk [(0,_),(1,_),(2,_),(6,_)] rfl (?_)))))
    exact ⟨K.M.funcs.length - (f + 1),by omega,f + 1,s4,by rw [Zi (by omega)],by omega,rfl,G4,Nat.le_trans n1 n4,by omega⟩
  · refine Xn (Xp ?_)
    refine Wl (Wa rfl rfl (Wa rfl rfl (Wb rfl (G1.c60 (t := t) (N := 8) tv (by omega) ok) ?_)))
    rintro _ h2 ⟨s2,G2,hn2,hp2⟩
    refine Wk [] rfl (?_)
    exact Ws.mk [] rfl ⟨s2,G2,Nat.le_trans n1 hn2,by omega⟩
theorem all_of {K : Kt} {R : Nat} (E : Eh K R) (T : ∀ (h : Heap) (s : Sm) (v : VS) (d : Int),Okv v → Mk K h s → s.n < K.xs.length → K.xs.length ≤ s.n + R → pot K s ≤ 100000 → Fn Try.prog 72 [ptr K.pk,.int .i64 d] h fun _ h' => Jr K h s s v v 0 h') : AllAt K R := by
  have S : ∀ (n d : Int),n ≤ 1000 → CF K R 24 [ptr K.pk,.int .i64 n,.int .i64 d] 0 100000 [] [] := fun n d hn => E49 T hn
  exact ⟨E,fun t d tv => E65a E S tv,fun t d tv => E65b E S tv,fun t d tv => E66 E tv,fun t d tv => E67 E tv,fun d => E74 E,S,fun d => E76 S,fun d => E77 E S⟩
theorem all_at (K : Kt) : ∀ R,AllAt K R
  | 0 => all_of (fun t d tv h s v ok m r0 p0 => by rw [VS.push_nil v]; exact E50z ok tv m (by have := m.hn; omega) p0) fun h s v d ok m hl r0 p0 => by omega
  | R + 1 => all_of (fun t d tv h s v ok m r0 p0 => by
      rw [VS.push_nil v]
      by_cases hl : s.n < K.xs.length
      · exact E50n (all_at K R) ok tv m hl r0 p0
      · exact E50z ok tv m (by have := m.hn; omega) p0) fun h s v d ok m hl r0 p0 => E59 (all_at K R) ok m hl r0 p0
theorem Go.c50 {K : Kt} {h h1 : Heap} {s s1 : Sm} {v v1 : VS} {t : Nat} {d : Int} (tv : t = 127 ∨ t = 126) (g : Go K h s h1 s1 v v1) (hp : pot K s1 ≤ 100000) (ok : Okv v1) : Fn Try.prog 25 [ptr K.pk,.int .u8 (t : Int),.int .i64 d] h1 fun _ h2 => Jr K h s s1 v (v1.push [t]) 1 h2 :=
  ((all_at K K.xs.length).e t d tv).go g (Nat.le_add_left _ _) hp ok (VS.push_nil _).symm rfl
theorem Go.c49 {K : Kt} {h h1 : Heap} {s s1 : Sm} {v v1 : VS} {n d : Int} (g : Go K h s h1 s1 v v1) (hn : n ≤ 1000) (hp : pot K s1 ≤ 100000) (ok : Okv v1) : Fn Try.prog 24 [ptr K.pk,.int .i64 n,.int .i64 d] h1 fun _ h2 => Jr K h s s1 v v1 0 h2 :=
  ((all_at K K.xs.length).s n d hn).go g (Nat.le_add_left _ _) hp ok (VS.push_nil _).symm (VS.push_nil _).symm

end
section
/- Made modules, with types: types, Made; what a module's maker has. -/
open VS (Okv MM)
abbrev TM : Mo := { types := [([],[]),([127],[127]),([127,127],[127]),([126],[126]),([],[127]),([127],[127,127])],funcs := [],tables := [],mems := 0,globals := [],elems := [],counts := false,count := 0,datas := 0,decl := [] }
abbrev mkM (fs : List Nat) : Mo := { types := [([],[]),([127],[127]),([127,127],[127]),([126],[126]),([],[127]),([127],[127,127])],funcs := fs,tables := [112],mems := 1,globals := [(127,true),(126,true)],elems := [112,112],counts := true,count := 2,datas := 2,decl := List.replicate fs.length true }
theorem mkM_mm {fs : List Nat} (h : ∀ f ∈ fs,f < 6) : MM (mkM fs) := ⟨rfl,rfl,rfl,rfl,rfl,rfl,rfl,rfl,rfl,h⟩
def Mem (h0 h : Heap) : List (Nat × List Value × Nat) → Prop
  | [] => True
  | (b,cs,e) :: r => (h0.next ≤ b ∧ At h b (.cells cs e false)) ∧ Mem h0 h r
theorem Mem.ext {h0 h h' : Heap} {T : Nat → Prop} (x : Ext T h h') (d : ∀ i,h0.next ≤ i → ¬ T i) : ∀ {L : List (Nat × List Value × Nat)},Mem h0 h L → Mem h0 h' L
  | [],_ => trivial
  | (b,cs,e) :: r,m => ⟨⟨m.1.1,m.1.2.ext x (d _ m.1.1)⟩,Mem.ext x d m.2⟩
theorem Mem.ext0 {h0 h h' : Heap} (x : Xe h h') {L : List (Nat × List Value × Nat)} (m : Mem h0 h L) : Mem h0 h' L := m.ext x fun i _ r => r
theorem Mem.put {h0 h h' : Heap} {T : Nat → Prop} (x : Ext T h h') : ∀ {L : List (Nat × List Value × Nat)},Mem h0 h L → (∀ p ∈ L,¬ T p.1) → Mem h0 h' L
  | [],_,_ => trivial
  | (b,cs,e) :: r,m,d => ⟨⟨m.1.1,m.1.2.ext x (d (b,cs,e) (by simp))⟩,Mem.put x m.2 fun p hp => d p (by simp [hp])⟩
set_option maxHeartbeats 1000000 in
theorem C22 {h : Heap} : Fn Try.prog 22 [] h fun v h' => ∃ ta tc ty,v = .slice ta 6 tc ∧ SlA h' 2 ta 6 tc ty ∧ (∀ i,Blk ta i → h.next ≤ i ∧ i < h'.next) ∧ Tys h' (fun i => h.next ≤ i ∧ i < h'.next) TM ty ∧ Xe h h' := by
  refine fnK F22.fok rfl ?_
  refine Wd (Wa rfl rfl (Wc [] rfl (?_)))
  refine Wd (Wa rfl rfl (Wa rfl rfl (Wc [(1,_),(2,_)] rfl (?_))))
  refine Wd (Wa rfl rfl (Wa rfl rfl (Wj (l := bys [127]) rfl rfl fun h1 n1 x1 g1 => ?_)))
  refine Wa rfl rfl (Wj (l := bys [127]) rfl rfl fun h2 n2 x2 g2 => ?_)
  refine Wa rfl rfl (Wa rfl rfl (Wa rfl rfl (Wj (l := bys [127,127]) rfl rfl fun h3 n3 x3 g3 => ?_)))
  refine Wa rfl rfl (Wj (l := bys [127]) rfl rfl fun h4 n4 x4 g4 => ?_)
  refine Wa rfl rfl (Wa rfl rfl (Wj (l := bys [126]) rfl rfl fun h5 n5 x5 g5 => ?_))
  refine Wa rfl rfl (Wj (l := bys [126]) rfl rfl fun h6 n6 x6 g6 => ?_)
  refine Wa rfl rfl (Wa rfl rfl (Wj (l := bys [127]) rfl rfl fun h7 n7 x7 g7 => ?_))
  refine Wa rfl rfl (Wa rfl rfl (Wj (l := bys [127]) rfl rfl fun h8 n8 x8 g8 => ?_))
  refine Wa rfl rfl (Wa rfl rfl (Wj (l := bys [127,127]) rfl rfl fun h9 n9 x9 g9 => ?_))
  refine Wa rfl rfl (Wj (l := [.slice none 0 0,.slice none 0 0,.slice (some ⟨h.next,0,none⟩) 1 1,.slice (some ⟨h1.next,0,none⟩) 1 1,.slice (some ⟨h2.next,0,none⟩) 2 1,.slice (some ⟨h3.next,0,none⟩) 1 1,.slice (some ⟨h4.next,0,none⟩) 1 1,.slice (some ⟨h5.next,0,none⟩) 1 1,.slice none 0 0,.slice (some ⟨h6.next,0,none⟩) 1 1,.slice (some ⟨h7.next,0,none⟩) 1 1,.slice (some ⟨h8.next,0,none⟩) 2 1]) rfl rfl fun h10 n10 x10 g10 => ?_)
  refine Wa rfl rfl (Wc [(0,_)] rfl (?_))
  have e9 := x10
  have e8 := x9.trans e9
  have e7 := x8.trans e8
  have e6 := x7.trans e7
  have e5 := x6.trans e6
  have e4 := x5.trans e5
  have e3 := x4.trans e4
  have e2 := x3.trans e3
  have e1 := x2.trans e2
  have s1 : SlA h10 1 (some ⟨h.next,0,none⟩) 1 1 (bys [127]) := (OwS.new (n := 1) (c := 1) g1 rfl).sl.ext e1
  have b1 : ∀ i,Blk (some ⟨h.next,0,none⟩) i → h.next ≤ i ∧ i < h10.next := fun i r => by rw [Blk.at] at r; omega
  have s2 : SlA h10 1 (some ⟨h1.next,0,none⟩) 1 1 (bys [127]) := (OwS.new (n := 1) (c := 1) g2 rfl).sl.ext e2
  have b2 : ∀ i,Blk (some ⟨h1.next,0,none⟩) i → h.next ≤ i ∧ i < h10.next := fun i r => by rw [Blk.at] at r; omega
  have s3 : SlA h10 1 (some ⟨h2.next,0,none⟩) 2 1 (bys [127,127]) := (OwS.new (n := 2) (c := 1) g3 rfl).sl.ext e3
  have b3 : ∀ i,Blk (some ⟨h2.next,0,none⟩) i → h.next ≤ i ∧ i < h10.next := fun i r => by rw [Blk.at] at r; omega
  have s4 : SlA h10 1 (some ⟨h3.next,0,none⟩) 1 1 (bys [127]) := (OwS.new (n := 1) (c := 1) g4 rfl).sl.ext e4
  have b4 : ∀ i,Blk (some ⟨h3.next,0,none⟩) i → h.next ≤ i ∧ i < h10.next := fun i r => by rw [Blk.at] at r; omega
  have s5 : SlA h10 1 (some ⟨h4.next,0,none⟩) 1 1 (bys [126]) := (OwS.new (n := 1) (c := 1) g5 rfl).sl.ext e5
  have b5 : ∀ i,Blk (some ⟨h4.next,0,none⟩) i → h.next ≤ i ∧ i < h10.next := fun i r => by rw [Blk.at] at r; omega
  have s6 : SlA h10 1 (some ⟨h5.next,0,none⟩) 1 1 (bys [126]) := (OwS.new (n := 1) (c := 1) g6 rfl).sl.ext e6
  have b6 : ∀ i,Blk (some ⟨h5.next,0,none⟩) i → h.next ≤ i ∧ i < h10.next := fun i r => by rw [Blk.at] at r; omega
  have s7 : SlA h10 1 (some ⟨h6.next,0,none⟩) 1 1 (bys [127]) := (OwS.new (n := 1) (c := 1) g7 rfl).sl.ext e7
  have b7 : ∀ i,Blk (some ⟨h6.next,0,none⟩) i → h.next ≤ i ∧ i < h10.next := fun i r => by rw [Blk.at] at r; omega
  have s8 : SlA h10 1 (some ⟨h7.next,0,none⟩) 1 1 (bys [127]) := (OwS.new (n := 1) (c := 1) g8 rfl).sl.ext e8
  have b8 : ∀ i,Blk (some ⟨h7.next,0,none⟩) i → h.next ≤ i ∧ i < h10.next := fun i r => by rw [Blk.at] at r; omega
  have s9 : SlA h10 1 (some ⟨h8.next,0,none⟩) 2 1 (bys [127,127]) := (OwS.new (n := 2) (c := 1) g9 rfl).sl.ext e9
  have b9 : ∀ i,Blk (some ⟨h8.next,0,none⟩) i → h.next ≤ i ∧ i < h10.next := fun i r => by rw [Blk.at] at r; omega
  have s10 := (OwS.new (sz := 2) (n := 6) (c := 1) g10 rfl).sl
  refine Xo (Ws.mk _ rfl ⟨_,1,_,rfl,s10,fun i r => by rw [Blk.at] at r; omega,fun j p hj => ?_,x1.trans e1⟩)
  have bn : ∀ i,Blk (none : Option Addr) i → h.next ≤ i ∧ i < h10.next := fun i r => absurd r Blk.none
  match j,hj with
  | 0,hj => obtain rfl : p = ([],[]) := (Option.some.inj hj).symm; exact ⟨none,0,none,0,rfl,SlA.none,SlA.none,bn,bn⟩
  | 1,hj => obtain rfl : p = ([127],[127]) := (Option.some.inj hj).symm; exact ⟨_,1,_,1,rfl,s1,s2,b1,b2⟩
  | 2,hj => obtain rfl : p = ([127,127],[127]) := (Option.some.inj hj).symm; exact ⟨_,1,_,1,rfl,s3,s4,b3,b4⟩
  | 3,hj => obtain rfl : p = ([126],[126]) := (Option.some.inj hj).symm; exact ⟨_,1,_,1,rfl,s5,s6,b5,b6⟩
  | 4,hj => obtain rfl : p = ([],[127]) := (Option.some.inj hj).symm; exact ⟨none,0,_,1,rfl,SlA.none,s7,bn,b7⟩
  | 5,hj => obtain rfl : p = ([127],[127,127]) := (Option.some.inj hj).symm; exact ⟨_,1,_,1,rfl,s8,s9,b8,b9⟩
  | n + 6,hj => simp at hj
theorem C10 {h : Heap} {a : Option Addr} {n c : Nat} : Fn Try.prog 10 [.slice a n c] h fun v h' => v = ptr h.next ∧ At h' h.next (.cells [.slice a n c,.int .i64 0] 0 false) ∧ Xe h h' := by
  refine fnK F10.fok rfl ?_
  refine Wd (Wa rfl rfl (Wc [(0,_)] rfl (?_)))
  refine Wd (Wa rfl rfl (Wa rfl rfl (Ye (cs := [.slice a n c,.int .i64 0]) rfl rfl fun h1 n1 x1 g1 => Wa rfl rfl (Wc [(2,_)] rfl (?_)))))
  exact Xo (Ws.mk _ rfl ⟨rfl,g1,x1⟩)
section
variable {d : Option Nat} {r : List SOp} {e : Env} {h : Heap} {Q : Env → Heap → Prop}
theorem Jf {off id ez t n : Nat} {a : Arg} {vs l : List Value} {ro : Bool} (ha : a.ev e = some (.pointer (some ⟨id,off,none⟩))) (ht : e.get t = some (.agg ⟨l⟩)) (hg : h.get id = some (.cells vs ez ro)) (hl : off + n ≤ vs.length) (hv : (vs.drop off).take n = l) (hs : Qb l l = true) (hq : Xd Try.prog r (e.put d Xl) h Q) :
    Xd Try.prog (⟨d,none,.chk n true a t⟩ :: r) e h Q := by
  refine Wa (v := Xl) (h' := h) rfl ?_ hq
  simp only [SO.run,ha,ht,ldV_agg hg hl hv,Yq,hs,cond_true]
theorem Wops_mark {x : Arg} {id off len cap ez : Nat} {cs : List Value} (hx : x.ev e = some (.slice (some ⟨id,off,none⟩) len cap)) (hl : 0 < len) (g : h.get id = some (.cells cs ez false)) (hq : Xd Try.prog r (e.put d (.slice (some ⟨id,off,none⟩) len cap)) h Q) :
    Xd Try.prog (⟨d,none,.mark x⟩ :: r) e h Q := by
  refine Wa (v := .slice (some ⟨id,off,none⟩) len cap) (h' := h) rfl ?_ hq
  have hb : len.beq 0 = false := by cases len with | zero => omega | succ k => rfl
  simp only [SO.run,hx,hb,cond_false,g]
end
structure MB (h h' : Heap) (pp : Nat) (xa : Option Addr) (xc : Nat) (xs : List Int) (n hi : Nat) (ta : Option Addr) (tc : Nat) (ty : List Value) (L : List (Nat × List Value × Nat)) : Prop where
  x : Ext (· = pp) h h'
  gp : At h' pp (.cells [.slice xa xs.length xc,.int .i64 (n : Int)] 0 false)
  hn : n ≤ xs.length
  sx : SlA h' 1 xa xs.length xc (Yw .u8 xs)
  st : SlA h' 2 ta 6 tc ty
  tS : ∀ i,Blk ta i → h.next < i ∧ i < hi
  tys : Tys h' (fun i => h.next < i ∧ i < hi) TM ty
  m : Mem h h' L
  hh : hi ≤ h'.next
  pl : pp < h.next
  xS : ∀ i,Blk xa i → i < h.next ∧ i ≠ pp
  xw : ∀ x ∈ xs,0 ≤ x ∧ x ≤ 255
  xl : xs.length ≤ 1000
section
variable {h h' h2 : Heap} {pp xc n hi tc : Nat} {xa ta : Option Addr} {xs : List Int} {ty : List Value} {L : List (Nat × List Value × Nat)}
theorem MB.ext0 (b : MB h h' pp xa xc xs n hi ta tc ty L) (x : Xe h' h2) : MB h h2 pp xa xc xs n hi ta tc ty L :=
  ⟨b.x.then0 x,b.gp.ext x,b.hn,b.sx.ext x,b.st.ext x,b.tS,b.tys.ext x fun i _ r => r,b.m.ext0 x,Nat.le_trans b.hh x.next,b.pl,b.xS,b.xw,b.xl⟩
theorem MB.set {c : Nat} {L' : List (Nat × List Value × Nat)} (b : MB h h' pp xa xc xs n hi ta tc ty L) (x : Ext (· = c) h' h2) (hc : hi ≤ c) (hc2 : h.next ≤ c) (m : Mem h h2 L') : MB h h2 pp xa xc xs n hi ta tc ty L' := by
  have pl := b.pl
  exact ⟨b.x.then x fun i r => .inr (by omega),b.gp.ext x fun r => by omega,b.hn,b.sx.ext x fun i q r => by have := (b.xS i q).1; omega,b.st.ext x fun i q r => by have := (b.tS i q).2; omega,b.tS,b.tys.ext x fun i q r => by have := q.2; omega,m,Nat.le_trans b.hh x.next,b.pl,b.xS,b.xw,b.xl⟩
theorem MB.c48 {m : Int} (b : MB h h' pp xa xc xs n hi ta tc ty L) (hm : 0 < m) : Fn Try.prog 23 [ptr pp,.int .i64 m] h' fun v h2 => ∃ (r n' : Nat),v = .int .i64 (r : Int) ∧ (r : Int) < m ∧ MB h h2 pp xa xc xs n' hi ta tc ty L ∧ Ext (· = pp) h' h2 :=
  (C23 b.gp b.hn b.sx b.xw b.xl (fun r => (b.xS _ r).2 rfl) hm).mono fun v h2 ⟨r,n',hv,hr,x,gp,h1,h2,h3,h4⟩ => ⟨r,n',hv,hr,⟨b.x.trans x,gp,h2,b.sx.ext x fun i q r => (b.xS i q).2 r,b.st.ext x fun i q r => by have := (b.tS i q).1; have := b.pl; omega,b.tS,b.tys.ext x fun i q r => by have := q.1; have := b.pl; omega,b.m.ext x fun i q r => by have := b.pl; omega,Nat.le_trans b.hh x.next,b.pl,b.xS,b.xw,b.xl⟩,x⟩
theorem MB.own {T : Nat → Prop} {L' : List (Nat × List Value × Nat)} (b : MB h h' pp xa xc xs n hi ta tc ty L) (x : Ext T h' h2) (d : ∀ i,T i → hi ≤ i) (o : h.next ≤ hi) (m : Mem h h2 L') : MB h h2 pp xa xc xs n hi ta tc ty L' := by
  have pl := b.pl
  exact ⟨b.x.then x fun i r => .inr (by have := d i r; omega),b.gp.ext x fun r => by have := d _ r; omega,b.hn,b.sx.ext x fun i q r => by have := (b.xS i q).1; have := d i r; omega,b.st.ext x fun i q r => by have := (b.tS i q).2; have := d i r; omega,b.tS,b.tys.ext x fun i q r => by have := q.2; have := d i r; omega,m,Nat.le_trans b.hh x.next,b.pl,b.xS,b.xw,b.xl⟩
end
structure MF (h h' : Heap) (pp : Nat) (xa : Option Addr) (xc : Nat) (xs : List Int) (n hi : Nat) (ta : Option Addr) (tc : Nat) (ty : List Value) (L : List (Nat × List Value × Nat)) (fa : Option Addr) (fc : Nat) (fs : List Nat) (pe q1 pm : Nat) (hB : Heap) : Prop where
  b : MB h h' pp xa xc xs n hi ta tc ty L
  sF : SlA h' 1 fa fs.length fc (Qc fs)
  fb : ∀ i,Blk fa i → pe < i ∧ i < q1
  hq : q1 ≤ h'.next
  o : h.next ≤ hi
  o2 : hi ≤ pe
  o3 : pm ≤ pe
  q0 : hB.next ≤ q1
  y : Ext (fun i => i = pp ∨ i = pm) hB h'
section
variable {h h' h2 hB : Heap} {pp xc n hi tc fc pe q1 pm : Nat} {xa ta fa : Option Addr} {xs : List Int} {ty : List Value} {L : List (Nat × List Value × Nat)} {fs : List Nat}
theorem MF.ext0 (b : MF h h' pp xa xc xs n hi ta tc ty L fa fc fs pe q1 pm hB) (x : Xe h' h2) : MF h h2 pp xa xc xs n hi ta tc ty L fa fc fs pe q1 pm hB := ⟨b.b.ext0 x,b.sF.ext x,b.fb,Nat.le_trans b.hq x.next,b.o,b.o2,b.o3,b.q0,b.y.then0 x⟩
theorem MF.c48 {m : Int} (b : MF h h' pp xa xc xs n hi ta tc ty L fa fc fs pe q1 pm hB) (hm : 0 < m) : Fn Try.prog 23 [ptr pp,.int .i64 m] h' fun v h2 => ∃ (r n' : Nat),v = .int .i64 (r : Int) ∧ (r : Int) < m ∧ MF h h2 pp xa xc xs n' hi ta tc ty L fa fc fs pe q1 pm hB ∧ Ext (· = pp) h' h2 :=
  (b.b.c48 hm).mono fun v h2 ⟨r,n',hv,hr,q,x⟩ => ⟨r,n',hv,hr,⟨q,b.sF.ext x fun i r e => by have := (b.fb i r).1; have := b.b.pl; have := b.o; have := b.o2; omega,b.fb,Nat.le_trans b.hq x.next,b.o,b.o2,b.o3,b.q0,b.y.then x fun i r => .inl (.inl r)⟩,x⟩
theorem MF.own {T : Nat → Prop} {L' : List (Nat × List Value × Nat)} (b : MF h h' pp xa xc xs n hi ta tc ty L fa fc fs pe q1 pm hB) (x : Ext T h' h2) (d : ∀ i,T i → hi ≤ i ∧ (q1 ≤ i ∨ i = pm)) (m : Mem h h2 L') : MF h h2 pp xa xc xs n hi ta tc ty L' fa fc fs pe q1 pm hB :=
  ⟨b.b.own x (fun i r => (d i r).1) b.o m,b.sF.ext x fun i q r => by have := b.fb i q; have := (d i r).2; have := b.o3; omega,b.fb,Nat.le_trans b.hq x.next,b.o,b.o2,b.o3,b.q0,b.y.then x fun i r => by have := b.q0; rcases (d i r).2 with q | q <;> omega⟩
end
abbrev Zg : List Value := [.int .i64 11,.int .u32 0,.int .u32 0,.int .u64 0,.slice none 0 0,.int .i64 0]
abbrev z13 : List Value := [.slice none 0 0,.slice none 0 0,.slice none 0 0,.slice none 0 0,.slice none 0 0,.slice none 0 0,.bool false,.int .u32 0,.slice none 0 0,.bool false,.int .u32 0,.slice none 0 0,.slice none 0 0]
abbrev mC (ta : Option Addr) (tc : Nat) (fu tb me gl ex el b9 u10 co da : Value) : List Value := [.slice ta 6 tc,fu,tb,me,gl,ex,.bool false,.int .u32 0,el,b9,u10,co,da]
abbrev meC (mv : Int) : List Value := [.int .u32 mv,.int .u32 0,.bool false]
def fnm (j : Nat) : ByteArray := { data := #[102] } ++ (⟨⟨bytesOf [IntKind.wrap .u8 (IntKind.wrap .i64 (48 + (j : Int)))]⟩⟩ : ByteArray)
def ExL (el : List Value) (f : Nat) : Prop := ∀ j,j < f → (el.drop (j * 3)).take 3 = [.string (fnm j),.int .u8 0,.int .u32 (j : Int)]
theorem ExL.snoc {el : List Value} {f : Nat} {x : Int} (e : ExL el f) (hl : el.length = f * 3) (hx : x = (f : Int)) : ExL (el ++ [.string (fnm f),.int .u8 0,.int .u32 x]) (f + 1) := fun j hj => by
  subst hx
  by_cases hji : j < f
  · rw [List.drop_append_of_le_length (by omega),List.take_append_of_le_length (by rw [List.length_drop]; omega)]; exact e j hji
  · obtain rfl : j = f := by omega
    rw [List.drop_append,List.drop_of_length_le (by omega),show j * 3 - el.length = 0 by omega]; rfl
theorem Tys.mono {h : Heap} {S T : Nat → Prop} {M : Mo} {ty : List Value} (q : Tys h S M ty) (d : ∀ i,S i → T i) : Tys h T M ty := fun j p hj => by
  obtain ⟨pa,pc,ra,rc,h1,h2,h3,h4,h5⟩ := q j p hj
  exact ⟨pa,pc,ra,rc,h1,h2,h3,fun i r => d i (h4 i r),fun i r => d i (h5 i r)⟩
def Il (h : Heap) (S : Nat → Prop) (n : Nat) (il : List Value) (i : Nat) : Prop := ∀ j,j < i → ∃ (b : Nat) (op : Int) (a : Nat),il[j]? = some (.slice (some ⟨b,0,none⟩) 2 1) ∧ At h b (.cells ([.int .i64 op,.int .u32 (a : Int),.int .u32 0,.int .u64 0,Xf,.int .i64 0] ++ Zg) 6 false) ∧ S b ∧ (op = 210 ∧ a < n ∨ op = 208 ∧ a = 112)
theorem Il.ext {h h' : Heap} {S T : Nat → Prop} {n : Nat} {il : List Value} {i : Nat} (q : Il h S n il i) (x : Ext T h h') (d : ∀ j,S j → ¬ T j) : Il h' S n il i := fun j hj => by
  obtain ⟨b,op,a,h1,h2,h3,h4⟩ := q j hj
  exact ⟨b,op,a,h1,h2.ext x (d b h3),h3,h4⟩
theorem Il.mono {h : Heap} {S T : Nat → Prop} {n : Nat} {il : List Value} {i : Nat} (q : Il h S n il i) (d : ∀ j,j < h.next → S j → T j) : Il h T n il i := fun j hj => by
  obtain ⟨b,op,a,h1,h2,h3,h4⟩ := q j hj
  exact ⟨b,op,a,h1,h2,d b h2.lt h3,h4⟩
theorem Il.snoc {h : Heap} {S : Nat → Prop} {n : Nat} {il : List Value} {i b a : Nat} {op : Int} (q : Il h S n il i) (hl : il.length = i) (g : At h b (.cells ([.int .i64 op,.int .u32 (a : Int),.int .u32 0,.int .u64 0,Xf,.int .i64 0] ++ Zg) 6 false)) (hb : S b) (ho : op = 210 ∧ a < n ∨ op = 208 ∧ a = 112) : Il h S n (il ++ [.slice (some ⟨b,0,none⟩) 2 1]) (i + 1) := fun j hj => by
  by_cases hji : j < i
  · obtain ⟨b,op,a,h1,h2,h3,h4⟩ := q j hji
    exact ⟨b,op,a,by rw [List.getElem?_append_left (by omega)]; exact h1,h2,h3,h4⟩
  · obtain rfl : j = i := by omega
    exact ⟨b,op,a,by rw [List.getElem?_append_right (by omega),hl,Nat.sub_self]; rfl,g,hb,ho⟩
abbrev Ky : IM := ⟨⟨11,0,0,0,[],0⟩,none,0⟩
structure Lw (h : Heap) (S : Nat → Prop) (x : IM) : Prop where
  s : SlA h 1 x.la x.i.l.length x.lc (Qc x.i.l)
  b : ∀ j,Blk x.la j → S j
  ok : x.i.Ok
  kn : x.i.Kn
theorem Lw.ext {h h' : Heap} {S T : Nat → Prop} {x : IM} (q : Lw h S x) (e : Ext T h h') (d : ∀ j,S j → ¬ T j) : Lw h' S x := ⟨q.s.ext e fun j r => d j (q.b j r),q.b,q.ok,q.kn⟩
theorem SlA.below {h : Heap} {sz n c : Nat} {a : Option Addr} {l : List Value} (s : SlA h sz a n c l) (hn : 0 < n) {j : Nat} (r : Blk a j) : j < h.next := by
  obtain ⟨id,off,vs,e,ro,q1,q2,_⟩ := s.at hn
  subst q1
  rw [Blk.at] at r
  have := q2.lt
  omega
def Cd1 (h : Heap) (S : Nat → Prop) (fs : List Nat) (cl : List Value) (j : Nat) : Prop :=
  ∃ (la : Option Addr) (lc : Nat) (ba : Option Addr) (bc : Nat) (w : List IM) (p : List Nat × List Nat),(cl.drop (j * 2)).take 2 = [.slice la 3 lc,.slice ba (w.length + 1) bc] ∧ SlA h 1 la 3 lc (bys [127,126,127]) ∧ (∀ q,Blk la q → S q) ∧ SlA h 6 ba (w.length + 1) bc (en IM.enc (w ++ [Ky])) ∧ (∀ q,Blk ba q → S q) ∧ (∀ x ∈ w,Lw h S x) ∧
    w.length ≤ 50000 ∧ (∃ f,fs[j]? = some f ∧ (mkM fs).types[f]? = some p) ∧ Ru (mkM fs) (p.1 ++ [127,126,127]) (VS.start p.2) w ((VS.start p.2).push p.2)
theorem Cd1.ext {h h' : Heap} {S T : Nat → Prop} {fs : List Nat} {cl : List Value} {j : Nat} (c : Cd1 h S fs cl j) (x : Ext T h h') (d : ∀ q,S q → ¬ T q) : Cd1 h' S fs cl j := by
  obtain ⟨la,lc,ba,bc,w,p,h1,h2,h3,h4,h5,h6,h7⟩ := c
  exact ⟨la,lc,ba,bc,w,p,h1,h2.ext x fun q r => d q (h3 q r),h3,h4.ext x fun q r => d q (h5 q r),h5,fun y hy => (h6 y hy).ext x d,h7⟩
theorem Cd1.mono {h : Heap} {S T : Nat → Prop} {fs : List Nat} {cl : List Value} {j : Nat} (c : Cd1 h S fs cl j) (d : ∀ q,S q → T q) : Cd1 h T fs cl j := by
  obtain ⟨la,lc,ba,bc,w,p,h1,h2,h3,h4,h5,h6,h7⟩ := c
  exact ⟨la,lc,ba,bc,w,p,h1,h2,fun q r => d q (h3 q r),h4,fun q r => d q (h5 q r),fun y hy => ⟨(h6 y hy).s,fun q r => d q ((h6 y hy).b q r),(h6 y hy).ok,(h6 y hy).kn⟩,h7⟩
def Cd (h : Heap) (S : Nat → Prop) (fs : List Nat) (cl : List Value) (i : Nat) : Prop := ∀ j,j < i → Cd1 h S fs cl j
theorem Cd.ext {h h' : Heap} {S T : Nat → Prop} {fs : List Nat} {cl : List Value} {i : Nat} (c : Cd h S fs cl i) (x : Ext T h h') (d : ∀ q,S q → ¬ T q) : Cd h' S fs cl i := fun j hj => (c j hj).ext x d
theorem Cd.mono {h : Heap} {S T : Nat → Prop} {fs : List Nat} {cl : List Value} {i : Nat} (c : Cd h S fs cl i) (d : ∀ q,S q → T q) : Cd h T fs cl i := fun j hj => (c j hj).mono d
theorem Cd.snoc {h : Heap} {S : Nat → Prop} {fs : List Nat} {cl : List Value} {i : Nat} {u v : Value} (c : Cd h S fs cl i) (hl : cl.length = i * 2) (d : Cd1 h S fs (cl ++ [u,v]) i) : Cd h S fs (cl ++ [u,v]) (i + 1) := fun j hj => by
  by_cases hji : j < i
  · obtain ⟨la,lc,ba,bc,w,p,h1,h2⟩ := c j hji
    exact ⟨la,lc,ba,bc,w,p,by rw [List.drop_append_of_le_length (by omega),List.take_append_of_le_length (by rw [List.length_drop]; omega)]; exact h1,h2⟩
  · obtain rfl : j = i := by omega
    exact d
structure LD where
  ta : Option Addr
  tc : Nat
  ty : List Value
  fa : Option Addr
  fc : Nat
  fs : List Nat
  bt : Nat
  tx : Int
  th : Bool
  bm : Nat
  mv : Int
  bg : Nat
  i0 : Nat
  i1 : Nat
  v0 : Nat
  v1 : Nat
  ea : Option Addr
  ec : Nat
  el : List Value
  be : Nat
  bo : Nat
  vo : Nat
  ia : Option Addr
  ic : Nat
  il : List Value
  bd : Nat
  ca : Option Addr
  cc : Nat
  cl : List Value
abbrev LD.mc (d : LD) : List Value := mC d.ta d.tc (.slice d.fa d.fs.length d.fc) (.slice (some ⟨d.bt,0,none⟩) 1 1) (.slice (some ⟨d.bm,0,none⟩) 1 1) (.slice (some ⟨d.bg,0,none⟩) 2 1) (.slice d.ea d.fs.length d.ec) (.slice (some ⟨d.be,0,none⟩) 2 1) (.bool true) (.int .u32 2) (.slice d.ca d.fs.length d.cc) (.slice (some ⟨d.bd,0,none⟩) 2 1)
abbrev glC (i0 i1 : Nat) : List Value := [.int .u8 127,.bool true,.slice (some ⟨i0,0,none⟩) 2 1,.int .u8 126,.bool true,.slice (some ⟨i1,0,none⟩) 2 1]
abbrev inC (op : Int) (v : Nat) : List Value := [.int .i64 op,.int .u32 0,.int .u32 0,.int .u64 (v : Int),Xf,.int .i64 0] ++ Zg
abbrev tbC (tx : Int) (th : Bool) : List Value := [.int .u8 112,.int .u32 4,.int .u32 tx,.bool th]
abbrev elC (bo : Nat) (ia : Option Addr) (ic : Nat) : List Value := [.int .u8 0,.int .u8 112,.int .u32 0,.slice (some ⟨bo,0,none⟩) 2 1,.slice ia 3 ic,.int .u8 1,.int .u8 112,.int .u32 0,Xf,.slice ia 3 ic]
def Dat (h : Heap) (S : Nat → Prop) (bd : Nat) : Prop := ∃ (e1 m2 o2 e2 : Value),At h bd (.cells [.int .u8 1,Xf,e1,m2,o2,e2] 3 false) ∧ isCell e1 = true ∧ isCell e2 = true ∧ (m2 = .int .u8 1 ∧ o2 = Xf ∨ m2 = .int .u8 0 ∧ ∃ b v,o2 = .slice (some ⟨b,0,none⟩) 2 1 ∧ S b ∧ At h b (.cells (inC 65 v) 6 false))
theorem Dat.ext {h h' : Heap} {S T : Nat → Prop} {bd : Nat} (q : Dat h S bd) (x : Ext T h h') (d : ∀ j,S j → ¬ T j) (hb : ¬ T bd) : Dat h' S bd := by
  obtain ⟨e1,m2,o2,e2,g,c1,c2,r⟩ := q
  refine ⟨e1,m2,o2,e2,g.ext x hb,c1,c2,r.elim .inl fun ⟨e,b,v,e3,sb,gb⟩ => .inr ⟨e,b,v,e3,sb,gb.ext x (d b sb)⟩⟩
theorem Dat.mono {h : Heap} {S T : Nat → Prop} {bd : Nat} (q : Dat h S bd) (d : ∀ j,j < h.next → S j → T j) : Dat h T bd := by
  obtain ⟨e1,m2,o2,e2,g,c1,c2,r⟩ := q
  refine ⟨e1,m2,o2,e2,g,c1,c2,r.elim .inl fun ⟨e,b,v,e3,sb,gb⟩ => .inr ⟨e,b,v,e3,d b gb.lt sb,gb⟩⟩
structure Lay (h : Heap) (d : LD) : Prop where
  st : SlA h 2 d.ta 6 d.tc d.ty
  tys : Tys h (fun i => i < h.next) TM d.ty
  sf : SlA h 1 d.fa d.fs.length d.fc (Qc d.fs)
  f6 : ∀ x ∈ d.fs,0 < x ∧ x < 6
  f0 : 0 < d.fs.length
  f3 : d.fs.length ≤ 3
  gt : At h d.bt (.cells (tbC d.tx d.th) 4 false)
  th : d.th = true → d.tx = 8
  gm : At h d.bm (.cells (meC d.mv) 3 false)
  mv : d.mv = 0 ∨ d.mv = 1
  gg : At h d.bg (.cells (glC d.i0 d.i1) 3 false)
  g0 : At h d.i0 (.cells (inC 65 d.v0) 6 false)
  g1 : At h d.i1 (.cells (inC 66 d.v1) 6 false)
  se : SlA h 3 d.ea d.fs.length d.ec d.el
  ex : ExL d.el d.fs.length
  ge : At h d.be (.cells (elC d.bo d.ia d.ic) 5 false)
  go : At h d.bo (.cells (inC 65 d.vo) 6 false)
  si : SlA h 1 d.ia 3 d.ic d.il
  ii : Il h (fun i => i < h.next) d.fs.length d.il 3
  gd : Dat h (fun i => i < h.next) d.bd
  sc : SlA h 2 d.ca d.fs.length d.cc d.cl
  cd : Cd h (fun i => i < h.next) d.fs d.cl d.fs.length
def ModP (h : Heap) (pp : Nat) (v : Value) (h' : Heap) : Prop := ∃ d : LD,v = .agg ⟨d.mc⟩ ∧ d.mc.all isCell = true ∧ Lay h' d ∧ Ext (· = pp) h h'
theorem VS.MM.res {M : Mo} (q : MM M) {j : Nat} {p : List Nat × List Nat} (h : M.types[j]? = some p) : p.2.length ≤ 2 ∧ ∀ y ∈ p.2,y = 127 ∨ y = 126 := by
  rw [q.ty] at h
  have h2 := List.mem_of_getElem? h
  have : ∀ p ∈ ([([],[]),([127],[127]),([127,127],[127]),([126],[126]),([],[127]),([127],[127,127])] : List (List Nat × List Nat)),p.2.length ≤ 2 ∧ ∀ y ∈ p.2,y = 127 ∨ y = 126 := by decide
  exact this p h2
theorem Tys.mk' {h : Heap} {S : Nat → Prop} {fs : List Nat} {ty : List Value} (q : Tys h S TM ty) : Tys h S (mkM fs) ty := fun j p hj => q j p hj
theorem start_okv (rs : List Nat) : Okv (VS.start rs) := ⟨by simp [VS.start],Nat.zero_le _,rfl⟩

end
end Go.Dx.SYtpkefdoleieloaa
