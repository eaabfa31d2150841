/- Texts merged: Tm8.lean, Tm9a.lean. -/
import Derived.Test.YtpkefdoleieloaaCstf
namespace Go.Dx.SYtpkefdoleieloaa
open Go.Proofs
set_option linter.unusedVariables false
set_option linter.unusedSimpArgs false
section
/- Made modules, with types: Module. -/
open VS (Okv MM)
set_option maxHeartbeats 4000000 in
theorem C11 {h : Heap} {pp xc : Nat} {xa : Option Addr} {xs : List Int} (gp : At h pp (.cells [.slice xa xs.length xc,.int .i64 0] 0 false)) (sx : SlA h 1 xa xs.length xc (Yw .u8 xs)) (xw : ∀ x ∈ xs,0 ≤ x ∧ x ≤ 255) (xl : xs.length ≤ 1000) (xS : ∀ i,Blk xa i → i < h.next ∧ i ≠ pp) :
    Fn Try.prog 11 [ptr pp] h (ModP h pp) := by
  have pl := gp.lt
  refine fnK F11.fok rfl ?_
  refine Wd (Xh fun h0 n0 x0 g0 => Wc [(0,_),(2,_)] rfl (?_))
  replace g0 : At h0 h.next (.cells z13 0 false) := g0
  refine Wd (Wb rfl C22 ?_)
  rintro _ h1 ⟨ta,tc,ty,rfl,st,tS,tys,x1⟩
  have z1 := x1.next
  have B1 : MB h h1 pp xa xc xs 0 h1.next ta tc ty [(h.next,z13,0)] :=
    ⟨(x0.trans x1).of0,(gp.ext x0).ext x1,Nat.zero_le _,(sx.ext x0).ext x1,st,fun i r => ⟨by have := (tS i r).1; omega,(tS i r).2⟩,tys.mono fun i r => ⟨by have := r.1; omega,r.2⟩,⟨⟨Nat.le_refl _,g0.ext x1⟩,trivial⟩,Nat.le_refl _,pl,xS,xw,xl⟩
  refine Wa rfl rfl (Wb rfl (B1.c48 (by decide)) ?_)
  rintro _ h2 ⟨r2,n2,rfl,hr2,B2,x2⟩
  have z2 := x2.next
  refine Wi (w := .int .i64 (IntKind.wrap .i64 ((r2 : Int).tdiv 3))) rfl rfl rfl (Wa rfl rfl (Wa rfl rfl ?_))
  refine Wj (l := meC _) rfl rfl fun h3 n3 x3 g3 => ?_
  have hmw : IntKind.wrap .u32 (IntKind.wrap .i64 ((r2 : Int).tdiv 3)) = 0 ∨ IntKind.wrap .u32 (IntKind.wrap .i64 ((r2 : Int).tdiv 3)) = 1 := by
    have hr2' : r2 < 4 := by omega
    have : r2 = 0 ∨ r2 = 1 ∨ r2 = 2 ∨ r2 = 3 := by omega
    rcases this with rfl | rfl | rfl | rfl <;> decide
  generalize hmv : IntKind.wrap .u32 (IntKind.wrap .i64 ((r2 : Int).tdiv 3)) = mv at g3 hmw
  replace g3 : At h3 h2.next (.cells (meC mv) 3 false) := g3
  refine Wa rfl rfl (Wa rfl rfl (Wj (l := [.int .u8 112,.int .u32 4,.int .u32 0,.bool false]) rfl rfl fun h4 n4 x4 g4 => ?_))
  replace g4 : At h4 h3.next (.cells [.int .u8 112,.int .u32 4,.int .u32 0,.bool false] 4 false) := g4
  refine Wa rfl rfl (Xh fun h5 n5 x5 g5 => ?_)
  refine Wm (l := mC ta tc Xf (.slice (some ⟨h3.next,0,none⟩) 1 1) (.slice (some ⟨h2.next,0,none⟩) 1 1) Xf Xf Xf (.bool false) (.int .u32 0) Xf Xf) rfl rfl rfl rfl g5 (by simp) rfl fun h6 n6 x6 g6 => ?_
  replace g6 : At h6 h4.next (.cells (mC ta tc Xf (.slice (some ⟨h3.next,0,none⟩) 1 1) (.slice (some ⟨h2.next,0,none⟩) 1 1) Xf Xf Xf (.bool false) (.int .u32 0) Xf Xf) 0 false) := g6
  have x46 : Xe h4 h6 := x5.then x6 fun i r => .inr (by omega)
  have B6 : MB h h6 pp xa xc xs n2 h1.next ta tc ty [(h.next,z13,0),(h4.next,mC ta tc Xf (.slice (some ⟨h3.next,0,none⟩) 1 1) (.slice (some ⟨h2.next,0,none⟩) 1 1) Xf Xf Xf (.bool false) (.int .u32 0) Xf Xf,0),(h2.next,meC mv,3),(h3.next,[.int .u8 112,.int .u32 4,.int .u32 0,.bool false],4)] := by
    have b := ((B2.ext0 x3).ext0 x4).ext0 x46
    exact { b with m := ⟨b.m.1,⟨by omega,g6⟩,⟨by omega,(g3.ext x4).ext x46⟩,⟨by omega,g4.ext x46⟩,trivial⟩ }
  refine Wc [(0,_),(2,_),(3,_)] rfl (?_)
  clear g6 g5 g4 g3 x46 x6 x5 x4 x3 x2 B2 B1 hmv
  generalize hbm : h2.next = bm at B6 ⊢
  generalize hbt : h3.next = bt at B6 ⊢
  generalize hpm : h4.next = pm at B6 ⊢
  generalize hhi : h1.next = hi at B6
  have o1 : h.next < hi := by omega
  have o2 : hi ≤ bm ∧ bt = bm + 1 ∧ pm = bt + 1 := by omega
  clear hbm hbt hpm hhi n6 n5 n4 n3 z2 z1 n0 g0 st tS tys x1 x0
  obtain ⟨tb,htb⟩ : ∃ v : Value,v = .slice (some ⟨bt,0,none⟩) 1 1 := ⟨_,rfl⟩
  obtain ⟨me,hme⟩ : ∃ v : Value,v = .slice (some ⟨bm,0,none⟩) 1 1 := ⟨_,rfl⟩
  rw [← htb,← hme] at B6
  refine Zo (fun e h' => ∃ (n' : Nat) (l : Env),e = [(0,ptr pp),(2,ptr h.next),(3,ptr pm)] ++ l ∧ MB h h' pp xa xc xs n' hi ta tc ty [(h.next,z13,0),(pm,mC ta tc Xf tb me Xf Xf Xf (.bool false) (.int .u32 0) Xf Xf,0),(bm,meC mv,3)] ∧ ∃ tx th,At h' bt (.cells (tbC tx th) 4 false) ∧ (th = true → tx = 8)) ?_ ?_
  · refine Wd (Wa rfl rfl (Wb rfl (B6.c48 (by decide)) ?_))
    rintro _ h7 ⟨r7,n7,rfl,hr7,B7,x7⟩
    refine Wa rfl rfl (Wc [(0,_),(2,_),(3,_),(29,_)] rfl (?_))
    have M7 := B7.m
    refine Wn rfl (fun _ => ?_) (fun _ => Ya ⟨n7,_,rfl,{ B7 with m := ⟨M7.1,M7.2.1,M7.2.2.1,trivial⟩ },0,false,M7.2.2.2.1.2,fun q => by cases q⟩)
    refine Wl (Wa rfl rfl (We (v := .slice (some ⟨bt,0,none⟩) 1 1) rfl M7.2.1.2 (by rw [htb]; rfl) (Wa rfl rfl (We (v := .slice (some ⟨bt,0,none⟩) 1 1) rfl M7.2.1.2 (by rw [htb]; rfl) ?_))))
    refine Xi rfl rfl ⟨by decide,by decide⟩ (Wa rfl rfl (Wa rfl rfl (Wm (l := [.int .u32 8]) rfl rfl rfl rfl M7.2.2.2.1.2 (by simp) rfl fun h8 n8 x8 g8 => ?_)))
    refine Xi rfl rfl ⟨by decide,by decide⟩ (Wa rfl rfl (Wa rfl rfl (Wm (l := [.bool true]) rfl rfl rfl rfl g8 (by simp [putL]) rfl fun h9 n9 x9 g9 => ?_)))
    have x79 := x8.trans x9
    refine Wk [(0,_),(2,_),(3,_)] rfl ⟨n7,[],rfl,?_,8,true,g9,fun _ => rfl⟩
    exact B7.set x79 (by omega) (by omega) ⟨⟨M7.1.1,M7.1.2.ext x79 fun r => by omega⟩,⟨M7.2.1.1,M7.2.1.2.ext x79 fun r => by omega⟩,⟨M7.2.2.1.1,M7.2.2.1.2.ext x79 fun r => by omega⟩,trivial⟩
  clear B6
  rintro e h7 ⟨n7,l7,rfl,B7,tx,th,gt7,htx⟩
  refine Zo (fun e h' => ∃ (n' : Nat) (mv : Int) (l : Env),e = [(0,ptr pp),(2,ptr h.next),(3,ptr pm)] ++ l ∧ MB h h' pp xa xc xs n' hi ta tc ty [(h.next,z13,0),(pm,mC ta tc Xf tb me Xf Xf Xf (.bool false) (.int .u32 0) Xf Xf,0),(bm,meC mv,3)] ∧ (mv = 0 ∨ mv = 1) ∧ At h' bt (.cells (tbC tx th) 4 false)) ?_ ?_
  · have M7 := B7.m
    refine Wd (Wa rfl rfl (We (v := .slice (some ⟨bm,0,none⟩) 1 1) rfl M7.2.1.2 (by rw [hme]; rfl) (Xi rfl rfl ⟨by decide,by decide⟩ (Wa rfl rfl (We (v := .int .u32 mv) rfl M7.2.2.1.2 rfl (Wa rfl rfl (Wa rfl rfl ?_)))))))
    cases hq : (mv == 0)
    case false =>
      refine Wg rfl (Wg rfl (Wg rfl (Wa rfl rfl (Wc [(0,_),(2,_),(3,_),(50,_)] rfl (?_)))))
      exact Wn rfl (fun hc => by cases hc) (fun _ => Ya ⟨n7,mv,_,rfl,B7,hmw,gt7⟩)
    refine Wh rfl (Wa rfl rfl (Wh rfl (Wb rfl (B7.c48 (by decide)) ?_)))
    rintro _ h8 ⟨r8,n8,rfl,hr8,B8,x8⟩
    refine Wh rfl (Wa rfl rfl (Wa rfl rfl (Wc [(0,_),(2,_),(3,_),(50,_)] rfl (?_))))
    have M8 := B8.m
    have gt8 := gt7.ext x8 fun r => by omega
    refine Wn rfl (fun _ => ?_) (fun _ => Ya ⟨n8,mv,_,rfl,B8,hmw,gt8⟩)
    refine Wl (Wa rfl rfl (We (v := .slice (some ⟨bm,0,none⟩) 1 1) rfl M8.2.1.2 (by rw [hme]; rfl) (Xi rfl rfl ⟨by decide,by decide⟩ (Wa rfl rfl (Wm (l := [.int .u32 1]) rfl rfl rfl rfl M8.2.2.1.2 (by simp) rfl fun h9 n9 x9 g9 => ?_)))))
    refine Wk [(0,_),(2,_),(3,_)] rfl ⟨n8,1,[],rfl,?_,.inr rfl,gt8.ext x9 fun r => by omega⟩
    exact B8.set x9 (by omega) (by omega) ⟨⟨M8.1.1,M8.1.2.ext x9 fun r => by omega⟩,⟨M8.2.1.1,M8.2.1.2.ext x9 fun r => by omega⟩,⟨M8.2.2.1.1,g9⟩,trivial⟩
  clear B7 gt7 hmw
  rintro e h8 ⟨n8,mv,l8,rfl,B8,hmw,gt8⟩
  -- end, globals, how many functions
  refine Wd (Wa rfl rfl (Xh fun h9 n9 x9 g9 => Wm (l := Zg) rfl rfl rfl rfl g9 (by simp) rfl fun h10 n10 x10 g10 => Wc [(0,_),(2,_),(3,_),(4,_)] rfl (?_)))
  replace g10 : At h10 h8.next (.cells Zg 0 false) := g10
  have x810 : Xe h8 h10 := x9.then x10 fun i r => .inr (by omega)
  have hh8 := B8.hh
  have pml := B8.m.2.1.2.lt
  have B10 : MB h h10 pp xa xc xs n8 hi ta tc ty [(h.next,z13,0),(pm,mC ta tc Xf tb me Xf Xf Xf (.bool false) (.int .u32 0) Xf Xf,0),(bm,meC mv,3),(h8.next,Zg,0)] := by
    have b := B8.ext0 x810
    exact { b with m := ⟨b.m.1,b.m.2.1,b.m.2.2.1,⟨by omega,g10⟩,trivial⟩ }
  have gt10 := gt8.ext x810
  generalize hpe : h8.next = pe at B10 ⊢
  have o3 : pm < pe := by omega
  have hpl10 : pe < h10.next := by omega
  clear g10 x810 g9 x9 x10 n9 n10 hh8 pml hpe B8 gt8
  have M10 := B10.m
  refine Wd (Wa rfl rfl (Xj (l := Zg) rfl M10.2.2.2.1.2 (by simp) rfl (Wa rfl rfl (Xj (l := Zg) rfl M10.2.2.2.1.2 (by simp) rfl (Wj (l := inC 66 18446744073709551615) rfl rfl fun h11 n11 x11 g11 => ?_)))))
  have B11 := B10.ext0 x11
  refine Wa rfl rfl (Wb rfl (B11.c48 (by decide)) ?_)
  rintro _ h12 ⟨r12,n12,rfl,hr12,B12,x12⟩
  have M12 := B12.m
  refine Jf rfl rfl M12.2.2.2.1.2 (by simp) rfl rfl (Jf rfl rfl M12.2.2.2.1.2 (by simp) rfl rfl (Wi (w := .int .u64 (r12 : Int)) rfl rfl (by rw [Vu (by omega)]) (Wa rfl rfl ?_)))
  refine Wj (l := inC 65 r12) rfl rfl fun h13 n13 x13 g13 => ?_
  refine Wa rfl rfl (Wj (l := glC h12.next h10.next) rfl rfl fun h14 n14 x14 g14 => ?_)
  have B14 := (B12.ext0 x13).ext0 x14
  have M14 := B14.m
  refine Wa rfl rfl (Wm (l := [_]) rfl rfl rfl rfl M14.2.1.2 (by simp) rfl fun h15 n15 x15 g15 => ?_)
  refine Wc [(0,_),(2,_),(3,_),(4,_)] rfl (?_)
  have z12 := x12.next
  have gt15 := ((((gt10.ext x11).ext x12 fun r => by omega).ext x13).ext x14).ext x15 fun r => by omega
  have gi1 := (((At.ext g11 x12 fun r => by omega).ext x13).ext x14).ext x15 fun r => by omega
  have gi0 := (At.ext g13 x14).ext x15 fun r => by omega
  have gg15 := At.ext g14 x15 fun r => by omega
  obtain ⟨bg,hbg⟩ : ∃ b,b = h13.next := ⟨_,rfl⟩
  obtain ⟨i0,hi0⟩ : ∃ b,b = h12.next := ⟨_,rfl⟩
  obtain ⟨i1,hi1⟩ : ∃ b,b = h10.next := ⟨_,rfl⟩
  rw [← hbg] at gg15
  rw [← hi0] at gi0 gg15
  rw [← hi1] at gi1 gg15
  obtain ⟨gl,hgl,cgl⟩ : ∃ v : Value,v = .slice (some ⟨bg,0,none⟩) 2 1 ∧ isCell v = true := ⟨_,rfl,rfl⟩
  have B15 : MB h h15 pp xa xc xs n12 hi ta tc ty [(h.next,z13,0),(pm,mC ta tc Xf tb me gl Xf Xf (.bool false) (.int .u32 0) Xf Xf,0),(bm,meC mv,3),(pe,Zg,0)] :=
    B14.set x15 (by omega) (by omega) ⟨⟨M14.1.1,M14.1.2.ext x15 fun r => by omega⟩,⟨M14.2.1.1,by rw [hgl,hbg]; exact g15⟩,⟨M14.2.2.1.1,M14.2.2.1.2.ext x15 fun r => by omega⟩,⟨M14.2.2.2.1.1,M14.2.2.2.1.2.ext x15 fun r => by omega⟩,trivial⟩
  clear g15 g14 g13 g11 B14 B12 B11 B10 M14 M12 M10 gt10
  refine Wd (Wa rfl rfl (Wb rfl (B15.c48 (by decide)) ?_))
  rintro _ h16 ⟨r16,n16,rfl,hr16,B16,x16⟩
  refine Wi (w := .int .i64 ((r16 + 1 : Nat) : Int)) rfl rfl (by rw [w64 (by omega)]; congr 1; omega) (Wa rfl rfl (Wc [(0,_),(2,_),(3,_),(4,_),(5,_)] rfl (?_)))
  obtain ⟨nn,hnn⟩ : ∃ nn : Nat,nn = r16 + 1 := ⟨_,rfl⟩
  rw [← hnn]
  have hn3 : 0 < nn ∧ nn ≤ 3 := by omega
  have obi : pe < i1 ∧ i1 < i0 ∧ i0 < bg ∧ bt < pm ∧ h.next < bt := by omega
  have gt16 := gt15.ext x16 fun r => by omega
  have gi16 := gi1.ext x16 fun r => by omega
  have gj16 := gi0.ext x16 fun r => by omega
  have gg16 := gg15.ext x16 fun r => by omega
  have hB16 := B16.m.2.2.2.1.2.lt
  clear x16 x15 x14 x13 x12 x11 n15 n14 n13 n11 B15 hbg hi0 hi1 gt15 gi1 gi0 gg15 z12 hpl10
  have o4 : hi ≤ pm := by omega
  refine Xc (Wd (Wa rfl rfl (Wc [(0,_),(2,_),(3,_),(4,_),(5,_),(6,_)] rfl (?_))))
  refine Wt ?_
  refine Xy (fun k e h' => ∃ (f n' : Nat) (fa : Option Addr) (fc : Nat) (fs : List Nat) (ea : Option Addr) (ec : Nat) (el : List Value),e = [(0,ptr pp),(2,ptr h.next),(3,ptr pm),(4,ptr pe),(5,.int .i64 (nn : Int)),(6,.int .i64 (f : Int))] ∧ f ≤ nn ∧ k = nn - f ∧
      MB h h' pp xa xc xs n' hi ta tc ty [(h.next,z13,0),(pm,mC ta tc (.slice fa f fc) tb me gl (.slice ea f ec) Xf (.bool false) (.int .u32 0) Xf Xf,0),(bm,meC mv,3),(pe,Zg,0)] ∧
      OwS h' 1 fa f fc (Qc fs) ∧ fs.length = f ∧ (∀ x ∈ fs,0 < x ∧ x < 6) ∧ OwS h' 3 ea f ec el ∧ (∀ i,Blk fa i → pe < i ∧ h16.next ≤ i) ∧ (∀ i,Blk ea i → pe < i ∧ h16.next ≤ i) ∧ (∀ i,Blk fa i → ¬ Blk ea i) ∧ ExL el f ∧ Ext (fun i => i = pp ∨ i = pm) h16 h') ?_ (k := nn)
    ⟨0,n16,none,0,[],none,0,[],rfl,Nat.zero_le _,rfl,B16,OwS.none,rfl,(fun x hx => by cases hx),OwS.none,fun i r => absurd r Blk.none,fun i r => absurd r Blk.none,fun i r => absurd r Blk.none,fun j hj => by omega,Ext.refl _ _⟩
  clear B16
  rintro k e h17 ⟨f,n17,fa,fc,fs,ea,ec,elx,rfl,hf,rfl,B17,oF,hfl,hf6,oE,fb,eb,de,hEx,Y17⟩
  have zY := Y17.next
  refine Xc (Wd (Wa rfl rfl (Wa rfl rfl (Wa rfl rfl (Wc [(0,_),(2,_),(3,_),(4,_),(5,_),(6,_),(74,_)] rfl (?_))))))
  refine Wo rfl (fun hc => ?_) (fun hc => ?_)
  · have hfn : f < nn := by have := of_decide_eq_true hc; omega
    have M17 := B17.m
    refine Wr (Wt ?_)
    refine Wd (Wa rfl rfl (We (v := .slice fa f fc) rfl M17.2.1.2 rfl (Wa rfl rfl (Wb rfl (B17.c48 (by decide)) ?_))))
    rintro _ h18 ⟨r18,n18,rfl,hr18,B18,x18⟩
    have M18 := B18.m
    have ppe : pp < pe := by omega
    refine Yn rfl rfl M18.2.1.2 (v := .slice fa f fc) rfl oF.sl.same ?_
    refine Wi (w := .int .i64 ((r18 + 1 : Nat) : Int)) rfl rfl (by rw [w64 (by omega)]; congr 1; omega) (Wi (w := .int .u32 ((r18 + 1 : Nat) : Int)) rfl rfl (by rw [Ut (by omega)]) ?_)
    refine Wj (l := Qc [r18 + 1]) rfl rfl fun h19 n19 x19 g19 => ?_
    have oF19 := (oF.ext x18 fun i r e => by have := fb i r; omega).ext x19
    have oE19 := (oE.ext x18 fun i r e => by have := eb i r; omega).ext x19
    have B19 := B18.ext0 x19
    have z18 := x18.next
    refine Xk (m := 1) rfl rfl oF19 rfl (OwS.new (n := 1) (c := 1) g19 rfl).sl.first ⟨by omega,by omega⟩ rfl rfl (by decide) fun h20 fa' fc' x20 oF20 bF20 => ?_
    have z20 := x20.next
    have M19 := B19.m
    have pel := M19.2.2.2.1.2.lt
    have oE20 := oE19.ext x20 fun i q r => de i r q
    have bF20' : ∀ i,Blk fa' i → pe < i ∧ h16.next ≤ i := fun i r => (bF20 i r).elim (fb i) fun r => ⟨by omega,by omega⟩
    have de20 : ∀ i,Blk fa' i → ¬ Blk ea i := fun i r q => (bF20 i r).elim (fun r => de i r q) fun r => by have := oE19.lt q; omega
    have M20 : Mem h h20 [(h.next,z13,0),(pm,mC ta tc (.slice fa f fc) tb me gl (.slice ea f ec) Xf (.bool false) (.int .u32 0) Xf Xf,0),(bm,meC mv,3),(pe,Zg,0)] := M19.put x20 fun p hp r => by
      have := fb _ r
      simp only [List.mem_cons,List.not_mem_nil,or_false] at hp
      rcases hp with rfl | rfl | rfl | rfl <;> simp only [] at this <;> omega
    have B20 := B19.own x20 (fun i r => by have := fb i r; omega) (by omega) M20
    refine Wa rfl rfl (Wm (l := [.slice fa' (f + 1) fc']) rfl rfl rfl rfl M20.2.1.2 (by simp) rfl fun h21 n21 x21 g21 => ?_)
    replace g21 : At h21 pm (.cells (mC ta tc (.slice fa' (f + 1) fc') tb me gl (.slice ea f ec) Xf (.bool false) (.int .u32 0) Xf Xf) 0 false) := g21
    refine Wc [(0,_),(2,_),(3,_),(4,_),(5,_),(6,_)] rfl (?_)
    have B21 : MB h h21 pp xa xc xs n18 hi ta tc ty [(h.next,z13,0),(pm,mC ta tc (.slice fa' (f + 1) fc') tb me gl (.slice ea f ec) Xf (.bool false) (.int .u32 0) Xf Xf,0),(bm,meC mv,3),(pe,Zg,0)] :=
      B20.set x21 (by omega) (by omega) ⟨⟨M20.1.1,M20.1.2.ext x21 fun r => by omega⟩,⟨M20.2.1.1,g21⟩,⟨M20.2.2.1.1,M20.2.2.1.2.ext x21 fun r => by omega⟩,⟨M20.2.2.2.1.1,M20.2.2.2.1.2.ext x21 fun r => by omega⟩,trivial⟩
    have oF21 := oF20.ext x21 fun i r e => by have := bF20' i r; omega
    have oE21 := oE20.ext x21 fun i r e => by have := eb i r; omega
    refine Wl (Wa rfl rfl (We (v := .slice ea f ec) rfl g21 rfl (Wa rfl rfl (Wa rfl rfl (Wa rfl rfl ?_)))))
    refine Wj (l := Yw .u8 [IntKind.wrap .u8 (IntKind.wrap .i64 (48 + (f : Int)))]) rfl rfl fun h22 n22 x22 g22 => ?_
    refine Wops_toStr rfl (OwS.new (n := 1) (c := 1) g22 rfl).sl (Wa rfl rfl (Wa rfl rfl (Wa rfl rfl (Wa rfl rfl ?_))))
    refine Wj (l := [.string (fnm f),.int .u8 0,.int .u32 _]) rfl rfl fun h23 n23 x23 g23 => ?_
    have x2123 := x22.trans x23
    have z2123 := x2123.next
    have oE23 := oE21.ext x2123
    refine Xk (m := 1) rfl rfl oE23 rfl (OwS.new (n := 1) (c := 1) g23 rfl).sl.first ⟨by omega,by omega⟩ rfl rfl (by decide) fun h24 ea' ec' x24 oE24 bE24 => ?_
    have B23 := B21.ext0 x2123
    have M23 := B23.m
    have pel2 := M23.2.2.2.1.2.lt
    have M24 : Mem h h24 [(h.next,z13,0),(pm,mC ta tc (.slice fa' (f + 1) fc') tb me gl (.slice ea f ec) Xf (.bool false) (.int .u32 0) Xf Xf,0),(bm,meC mv,3),(pe,Zg,0)] := M23.put x24 fun p hp r => by
      have := eb _ r
      simp only [List.mem_cons,List.not_mem_nil,or_false] at hp
      rcases hp with rfl | rfl | rfl | rfl <;> simp only [] at this <;> omega
    have B24 := B23.own x24 (fun i r => by have := eb i r; omega) (by omega) M24
    have bE24' : ∀ i,Blk ea' i → pe < i ∧ h16.next ≤ i := fun i r => (bE24 i r).elim (eb i) fun r => ⟨by omega,by have := x21.next; omega⟩
    have oF24 := (oF21.ext x2123).ext x24 de20
    refine Wa rfl rfl (Wm (l := [.slice ea' (f + 1) ec']) rfl rfl rfl rfl M24.2.1.2 (by simp) rfl fun h25 n25 x25 g25 => ?_)
    replace g25 : At h25 pm (.cells (mC ta tc (.slice fa' (f + 1) fc') tb me gl (.slice ea' (f + 1) ec') Xf (.bool false) (.int .u32 0) Xf Xf) 0 false) := g25
    refine Wk [(0,_),(2,_),(3,_),(4,_),(5,_),(6,_)] rfl (?_)
    refine Wl (Wa rfl rfl (Wa rfl rfl (Wa rfl rfl (Wk [(0,_),(2,_),(3,_),(4,_),(5,_),(6,_)] rfl (?_)))))
    refine ⟨nn - (f + 1),by omega,f + 1,n18,fa',fc',fs ++ [r18 + 1],ea',ec',_,by rw [Zi (by omega)],by omega,rfl,?_,by rw [Qc,List.map_append]; exact oF24.ext x25 (fun i r e => by have := bF20' i r; omega),by simp [hfl],fun x hx => ?_,oE24.ext x25 (fun i r e => by have := bE24' i r; omega),bF20',bE24',fun i r q => ?_,hEx.snoc oE.sl.len (Ut (by omega)),((((((Y17.then x18 fun i r => .inl (.inl r)).then0 x19).then x20 fun i r => .inr (fb i r).2).then x21 fun i r => .inl (.inr r)).then0 x2123).then x24 fun i r => .inr (eb i r).2).then x25 fun i r => .inl (.inr r)⟩
    · exact B24.set x25 (by omega) (by omega) ⟨⟨M24.1.1,M24.1.2.ext x25 fun r => by omega⟩,⟨M24.2.1.1,g25⟩,⟨M24.2.2.1.1,M24.2.2.1.2.ext x25 fun r => by omega⟩,⟨M24.2.2.2.1.1,M24.2.2.2.1.2.ext x25 fun r => by omega⟩,trivial⟩
    · rcases List.mem_append.1 hx with hx | hx
      · exact hf6 x hx
      · have : x = r18 + 1 := by simpa using hx
        omega
    · rcases bE24 i q with q | q
      · exact de20 i r q
      · have := oF20.lt r
        have := x21.next
        omega
  have hfn : f = nn := by have := of_decide_eq_false hc; omega
  subst hfn
  refine Xn (Xp ?_)
  have gt17 := gt16.ext Y17 fun r => by omega
  have gi17 := gi16.ext Y17 fun r => by omega
  have gj17 := gj16.ext Y17 fun r => by omega
  have gg17 := gg16.ext Y17 fun r => by omega
  have se17 := oE.sl
  have ebq : ∀ i,Blk ea i → pe < i := fun i r => (eb i r).1
  obtain ⟨ex,hex,cex⟩ : ∃ v : Value,v = .slice ea f ec ∧ isCell v = true := ⟨_,rfl,rfl⟩
  rw [← hex] at B17
  obtain ⟨q1,hq1⟩ : ∃ q,q = h17.next := ⟨_,rfl⟩
  have peq : pe < q1 := by rw [hq1]; exact B17.m.2.2.2.1.2.lt
  obtain ⟨hB,hhB⟩ : ∃ q : Heap,q = h17 := ⟨_,rfl⟩
  have F17 : MF h h17 pp xa xc xs n17 hi ta tc ty [(h.next,z13,0),(pm,mC ta tc (.slice fa fs.length fc) tb me gl ex Xf (.bool false) (.int .u32 0) Xf Xf,0),(bm,meC mv,3),(pe,Zg,0)] fa fc fs pe q1 pm hB := by
    rw [hfl]
    exact ⟨B17,by rw [hfl]; exact oF.sl,fun i r => ⟨(fb i r).1,by rw [hq1]; exact oF.lt r⟩,by omega,by omega,by omega,by omega,by rw [hhB,hq1]; exact Nat.le_refl _,by rw [hhB]; exact Ext.refl _ _⟩
  have q1l : ∀ i,Blk ea i → i < q1 := fun i r => by rw [hq1]; exact oE.lt r
  rw [← hhB] at gt17 gi17 gj17 gg17 se17
  have hBq : hB.next = q1 := by rw [hhB,hq1]
  clear B17 oF oE eb de gt16 gi16 gj16 gg16 Y17 zY hB16 hhB
  -- what tables begin with
  refine Wd (Wa rfl rfl (Wc [(0,_),(2,_),(3,_),(4,_),(5,_),(7,_)] rfl (?_)))
  refine Xc (Wd (Wa rfl rfl (Wc [(0,_),(2,_),(3,_),(4,_),(5,_),(7,_),(8,_)] rfl (?_))))
  refine Wt ?_
  refine Xy (fun k e h' => ∃ (i n' : Nat) (ia : Option Addr) (ic : Nat) (il : List Value),e = [(0,ptr pp),(2,ptr h.next),(3,ptr pm),(4,ptr pe),(5,.int .i64 (f : Int)),(7,.slice ia i ic),(8,.int .i64 (i : Int))] ∧ i ≤ 3 ∧ k = 3 - i ∧
      MF h h' pp xa xc xs n' hi ta tc ty [(h.next,z13,0),(pm,mC ta tc (.slice fa fs.length fc) tb me gl ex Xf (.bool false) (.int .u32 0) Xf Xf,0),(bm,meC mv,3),(pe,Zg,0)] fa fc fs pe q1 pm hB ∧ OwS h' 1 ia i ic il ∧ (∀ j,Blk ia j → q1 ≤ j) ∧ Il h' (fun b => q1 ≤ b ∧ ¬ Blk ia b) f il i) ?_ (k := 3)
    ⟨0,n17,none,0,[],rfl,Nat.zero_le _,rfl,F17,OwS.none,fun i r => absurd r Blk.none,fun j hj => by omega⟩
  clear F17 hq1
  rintro k e h17 ⟨i,n17,ia,ic,il,rfl,hi3,rfl,F17,oI,ib,iL⟩
  refine Xc (Wd (Wa rfl rfl (Wa rfl rfl (Wc [(0,_),(2,_),(3,_),(4,_),(5,_),(7,_),(8,_),(101,_)] rfl (?_)))))
  refine Wo rfl (fun hc => ?_) (fun hc => ?_)
  · have hi2 : i < 3 := by have := of_decide_eq_true hc; omega
    have M17 := F17.b.m
    have hq17 := F17.hq
    have ppe : pp < pe := by omega
    have pel := M17.2.2.2.1.2.lt
    refine Wr (Wt ?_)
    refine Wd (Wa rfl rfl (Wa rfl rfl (Xj (l := Zg) rfl M17.2.2.2.1.2 (by simp) rfl (Wb rfl (F17.c48 (m := (f : Int)) (by omega)) ?_))))
    rintro _ h18 ⟨r18,n18,rfl,hr18,F18,x18⟩
    have M18 := F18.b.m
    have z18 := x18.next
    refine Jf rfl rfl M18.2.2.2.1.2 (by simp) rfl rfl (Wi (w := .int .u32 (r18 : Int)) rfl rfl (by rw [Ut (by omega)]) (Wa rfl rfl ?_))
    refine Wj (l := [.int .i64 210,.int .u32 (r18 : Int),.int .u32 0,.int .u64 0,Xf,.int .i64 0] ++ Zg) rfl rfl fun h19 n19 x19 g19 => ?_
    refine Wa rfl rfl (Wc [(0,_),(2,_),(3,_),(4,_),(5,_),(7,_),(8,_),(9,_)] rfl (?_))
    have F19 := F18.ext0 x19
    have oI19 := (oI.ext x18 fun j r e => by have := ib j r; have := F17.fb; have := F17.o2; have := hq17; omega).ext x19
    refine Xc (Wd (Wa rfl rfl (Wb rfl (F19.c48 (by decide)) ?_)))
    rintro _ h20 ⟨r20,n20,rfl,hr20,F20,x20⟩
    have z20 := x20.next
    have oI20 := oI19.ext x20 fun j r e => by have := ib j r; omega
    have iL0 : Il h17 (fun b => q1 ≤ b ∧ ¬ Blk ia b ∧ b < h17.next) f il i := iL.mono fun j hj r => ⟨r.1,r.2,hj⟩
    have iL20 := ((iL0.ext x18 fun j r e => by have := r.1; omega).ext x19 fun j _ r => r).ext x20 fun j r e => by have := r.1; omega
    have hill : il.length = i := by have := oI.sl.len; omega
    have oIlt : ∀ j,Blk ia j → j < h17.next := fun j r => oI.lt r
    have z19 := x19.next
    have g20 := At.ext g19 x20 (by omega)
    refine Wa rfl rfl (Wc [(0,_),(2,_),(3,_),(4,_),(5,_),(7,_),(8,_),(9,_),(113,_)] rfl (?_))
    refine Wo rfl (fun _ => ?_) (fun _ => ?_)
    · refine Wd (Wa rfl rfl (Wa rfl rfl (Xi rfl rfl ⟨by decide,by decide⟩ (Wm (l := [.int .i64 208,.int .u32 112,.int .u32 0,.int .u64 0,Xf,.int .i64 0]) rfl rfl rfl rfl g20 (by simp) rfl fun h21 n21 x21 g21 => ?_))))
      refine Wc [(0,_),(2,_),(3,_),(4,_),(5,_),(7,_),(8,_),(9,_)] rfl (?_)
      have M20 := F20.b.m
      have F21 := F20.own x21 (fun j r => ⟨by omega,.inl (by omega)⟩) (M20.put x21 fun p hp r => by
        simp only [List.mem_cons,List.not_mem_nil,or_false] at hp
        rcases hp with rfl | rfl | rfl | rfl <;> simp only [] at r <;> omega)
      have oI21 := oI20.ext x21 fun j r e => by have := oI.lt r; omega
      replace g21 : At h21 h18.next (.cells ([.int .i64 208,.int .u32 ((112 : Nat) : Int),.int .u32 0,.int .u64 0,Xf,.int .i64 0] ++ Zg) 6 false) := g21
      have iL21 := iL20.ext x21 fun j r e => by have := r.2.2; omega
      refine Wl (Wa rfl rfl (Wa rfl rfl (Wj (l := [_]) rfl rfl fun h22 n22 x22 g22 => ?_)))
      have M22 := (F21.ext0 x22).b.m
      refine Xk (m := 1) rfl rfl (oI21.ext x22) rfl (OwS.new (n := 1) (c := 1) g22 rfl).sl.first ⟨by omega,by omega⟩ rfl rfl (by decide) fun h23 ia' ic' x23 oI23 bI23 => ?_
      refine Wa rfl rfl (Wk [(0,_),(2,_),(3,_),(4,_),(5,_),(7,_),(8,_)] rfl (?_))
      refine Wl (Wa rfl rfl (Wa rfl rfl (Wa rfl rfl (Wk [(0,_),(2,_),(3,_),(4,_),(5,_),(7,_),(8,_)] rfl (?_)))))
      have F23 := (F21.ext0 x22).own x23 (fun j r => ⟨by have := ib j r; have := F17.fb; omega,.inl (ib j r)⟩) (M22.put x23 fun p hp r => by
        have := ib _ r
        simp only [List.mem_cons,List.not_mem_nil,or_false] at hp
        rcases hp with rfl | rfl | rfl | rfl <;> simp only [] at this <;> omega)
      have z21 := x21.next
      have z22 := x22.next
      have iL23 : Il h23 (fun b => q1 ≤ b ∧ ¬ Blk ia' b) f il i := ((iL21.ext x22 fun j _ r => r).ext x23 fun j r e => r.2.1 e).mono fun j _ r => ⟨r.1,fun e => (bI23 j e).elim r.2.1 fun e => by have := r.2.2; omega⟩
      have iS23 := iL23.snoc (b := h18.next) hill (((show At h21 h18.next _ from g21).ext x22).ext x23 fun e => by have := oIlt _ e; omega) ⟨by omega,fun e => (bI23 _ e).elim (fun e => by have := oIlt _ e; omega) fun e => by omega⟩ (.inr ⟨rfl,rfl⟩)
      refine ⟨3 - (i + 1),by omega,i + 1,n20,ia',ic',_,by rw [Zi (by omega)],by omega,rfl,F23,oI23,fun j r => (bI23 j r).elim (ib j) fun r => by omega,iS23⟩
    · refine Wr (Wl (Wa rfl rfl (Wa rfl rfl (Wj (l := [_]) rfl rfl fun h22 n22 x22 g22 => ?_))))
      have M22 := (F20.ext0 x22).b.m
      refine Xk (m := 1) rfl rfl (oI20.ext x22) rfl (OwS.new (n := 1) (c := 1) g22 rfl).sl.first ⟨by omega,by omega⟩ rfl rfl (by decide) fun h23 ia' ic' x23 oI23 bI23 => ?_
      refine Wa rfl rfl (Wk [(0,_),(2,_),(3,_),(4,_),(5,_),(7,_),(8,_)] rfl (?_))
      refine Wl (Wa rfl rfl (Wa rfl rfl (Wa rfl rfl (Wk [(0,_),(2,_),(3,_),(4,_),(5,_),(7,_),(8,_)] rfl (?_)))))
      have F23 := (F20.ext0 x22).own x23 (fun j r => ⟨by have := ib j r; have := F17.fb; omega,.inl (ib j r)⟩) (M22.put x23 fun p hp r => by
        have := ib _ r
        simp only [List.mem_cons,List.not_mem_nil,or_false] at hp
        rcases hp with rfl | rfl | rfl | rfl <;> simp only [] at this <;> omega)
      have z22 := x22.next
      have iL23 : Il h23 (fun b => q1 ≤ b ∧ ¬ Blk ia' b) f il i := ((iL20.ext x22 fun j _ r => r).ext x23 fun j r e => r.2.1 e).mono fun j _ r => ⟨r.1,fun e => (bI23 j e).elim r.2.1 fun e => by have := r.2.2; omega⟩
      have iS23 := iL23.snoc (b := h18.next) hill ((g20.ext x22).ext x23 fun e => by have := oIlt _ e; omega) ⟨by omega,fun e => (bI23 _ e).elim (fun e => by have := oIlt _ e; omega) fun e => by omega⟩ (.inl ⟨rfl,by omega⟩)
      refine ⟨3 - (i + 1),by omega,i + 1,n20,ia',ic',_,by rw [Zi (by omega)],by omega,rfl,F23,oI23,fun j r => (bI23 j r).elim (ib j) fun r => by omega,iS23⟩
  have hi3e : i = 3 := by have := of_decide_eq_false hc; omega
  subst hi3e
  refine Xn (Xp ?_)
  clear hc hi3
  -- elements, data
  have M17 := F17.b.m
  have hq17 := F17.hq
  refine Wd (Wa rfl rfl (Xj (l := Zg) rfl M17.2.2.2.1.2 (by simp) rfl (Wb rfl (F17.c48 (by decide)) ?_)))
  rintro _ h18 ⟨r18,n18,rfl,hr18,F18,x18⟩
  have z18 := x18.next
  refine Jf rfl rfl F18.b.m.2.2.2.1.2 (by simp) rfl rfl (Wi (w := .int .u64 (r18 : Int)) rfl rfl (by rw [Vu (by omega)]) (Wa rfl rfl ?_))
  refine Wj (l := inC 65 r18) rfl rfl fun h19 n19 x19 g19 => ?_
  refine Wa rfl rfl (Wc [(0,_),(2,_),(3,_),(4,_),(5,_),(7,_),(10,_)] rfl (?_))
  refine Wd (Wa rfl rfl (Wa rfl rfl (Wa rfl rfl (Wa rfl rfl (Wa rfl rfl ?_)))))
  refine Wj (l := elC h18.next ia ic) rfl rfl fun h20 n20 x20 g20 => ?_
  have F20 := (F18.ext0 x19).ext0 x20
  have M20 := F20.b.m
  refine Wa rfl rfl (Wm (l := [_]) rfl rfl rfl rfl M20.2.1.2 (by simp) rfl fun h21 n21 x21 g21 => ?_)
  refine Wc [(0,_),(2,_),(3,_),(4,_),(5,_)] rfl (?_)
  obtain ⟨be,hbe⟩ : ∃ b,b = h19.next := ⟨_,rfl⟩
  obtain ⟨bo,hbo⟩ : ∃ b,b = h18.next := ⟨_,rfl⟩
  obtain ⟨el,hel,cel⟩ : ∃ v : Value,v = .slice (some ⟨be,0,none⟩) 2 1 ∧ isCell v = true := ⟨_,rfl,rfl⟩
  have F21 : MF h h21 pp xa xc xs n18 hi ta tc ty [(h.next,z13,0),(pm,mC ta tc (.slice fa fs.length fc) tb me gl ex el (.bool false) (.int .u32 0) Xf Xf,0),(bm,meC mv,3),(pe,Zg,0)] fa fc fs pe q1 pm hB :=
    F20.own x21 (fun j r => ⟨by omega,.inr (by omega)⟩) ⟨⟨M20.1.1,M20.1.2.ext x21 fun r => by omega⟩,⟨M20.2.1.1,by rw [hel,hbe]; exact g21⟩,⟨M20.2.2.1.1,M20.2.2.1.2.ext x21 fun r => by omega⟩,⟨M20.2.2.2.1.1,M20.2.2.2.1.2.ext x21 fun r => by omega⟩,trivial⟩
  have z19 := x19.next
  have z20 := x20.next
  have gt21 := gt17.ext F21.y fun r => by omega
  have gi21 := gi17.ext F21.y fun r => by omega
  have gj21 := gj17.ext F21.y fun r => by omega
  have gg21 := gg17.ext F21.y fun r => by omega
  have se21 := se17.ext F21.y fun q r e => by have := ebq q r; omega
  have ge21 : At h21 be (.cells (elC bo ia ic) 5 false) := by rw [hbe,hbo]; exact At.ext g20 x21 (by omega)
  have go21 : At h21 bo (.cells (inC 65 r18) 6 false) := by rw [hbo]; exact ((At.ext g19 x20 fun r => r).ext x21 (by omega))
  have si21 : SlA h21 1 ia 3 ic il := ((((oI.ext x18 fun j r e => by have := ib j r; omega).ext x19).ext x20).ext x21 fun j r e => by have := ib j r; omega).sl
  have ii21 : Il h21 (fun b => q1 ≤ b ∧ ¬ Blk ia b) f il 3 := (((iL.ext x18 fun j r e => by have := r.1; omega).ext x19 fun j _ r => r).ext x20 fun j _ r => r).ext x21 fun j r e => by have := r.1; omega
  have ial : ∀ j,Blk ia j → q1 ≤ j := ib
  have hbeq : q1 ≤ be ∧ q1 ≤ bo := by omega
  have hBq' := F21.hq
  obtain ⟨q2,hq2⟩ : ∃ q,q = h21.next := ⟨_,rfl⟩
  obtain ⟨hB2,hhB2⟩ : ∃ q : Heap,q = h21 := ⟨_,rfl⟩
  have R21 : MF h h21 pp xa xc xs n18 hi ta tc ty [(h.next,z13,0),(pm,mC ta tc (.slice fa fs.length fc) tb me gl ex el (.bool false) (.int .u32 0) Xf Xf,0),(bm,meC mv,3),(pe,Zg,0)] fa fc fs pe q2 pm hB2 :=
    ⟨F21.b,F21.sF,fun j r => ⟨(F21.fb j r).1,by have := (F21.fb j r).2; omega⟩,by omega,F21.o,F21.o2,F21.o3,by rw [hhB2,hq2]; exact Nat.le_refl _,by rw [hhB2]; exact Ext.refl _ _⟩
  have peq2 : pe < q2 := by omega
  have hq12 : q1 ≤ q2 := by omega
  rw [← hhB2] at gt21 gi21 gj21 gg21 se21 ge21 go21 si21 ii21
  have hBq2 : hB2.next = q2 := by rw [hhB2,hq2]
  have hq21 := R21.hq
  have bel : be < q2 ∧ bo < q2 := by have := ge21.lt; have := go21.lt; omega
  clear F20 M20 g21 g20 g19 F18 M17 F17 oI ib hbe hbo F21 iL gt17 gi17 gj17 gg17 se17 x21 x20 x19 x18 hBq' hhB2 n21 n20 n19
  refine Wd (Wj (l := Yw .u8 [112,97,115,115,105,118,101]) rfl rfl fun h22 n22 x22 g22 => ?_)
  refine Wops_mark rfl (by decide) g22 (Wa rfl rfl (Wj (l := Yw .u8 [1,2,255]) rfl rfl fun h23 n23 x23 g23 => ?_))
  refine Wa rfl rfl (Wj (l := [.int .u8 1,Xf,.slice (some ⟨h21.next,0,none⟩) 7 1,.int .u8 1,Xf,.slice (some ⟨h22.next,0,none⟩) 3 1]) rfl rfl fun h24 n24 x24 g24 => ?_)
  have F24 := ((R21.ext0 x22).ext0 x23).ext0 x24
  have M24 := F24.b.m
  refine Wa rfl rfl (Wm (l := [.slice (some ⟨h23.next,0,none⟩) 2 1]) rfl rfl rfl rfl M24.2.1.2 (by simp) rfl fun h25 n25 x25 g25 => ?_)
  refine Wc [(0,_),(2,_),(3,_),(4,_),(5,_)] rfl (?_)
  replace g25 : At h25 pm (.cells (mC ta tc (.slice fa fs.length fc) tb me gl ex el (.bool false) (.int .u32 0) Xf (.slice (some ⟨h23.next,0,none⟩) 2 1)) 0 false) := g25
  have F25 : MF h h25 pp xa xc xs n18 hi ta tc ty [(h.next,z13,0),(pm,mC ta tc (.slice fa fs.length fc) tb me gl ex el (.bool false) (.int .u32 0) Xf (.slice (some ⟨h23.next,0,none⟩) 2 1),0),(bm,meC mv,3),(pe,Zg,0)] fa fc fs pe q2 pm hB2 :=
    F24.own x25 (fun j r => ⟨by omega,.inr (by omega)⟩) ⟨⟨M24.1.1,M24.1.2.ext x25 fun r => by omega⟩,⟨M24.2.1.1,g25⟩,⟨M24.2.2.1.1,M24.2.2.1.2.ext x25 fun r => by omega⟩,⟨M24.2.2.2.1.1,M24.2.2.2.1.2.ext x25 fun r => by omega⟩,trivial⟩
  have gd25 := At.ext g24 x25 (fun r => by omega)
  have obd : q2 ≤ h23.next := by omega
  have hbdl := gd25.lt
  have hbdn : h23.next < h25.next := gd25.lt
  generalize h23.next = bd at F25 gd25 obd hbdl hbdn
  clear g25 M24 F24 g24 g23 g22 R21 hq21 hq17
  refine Zo (fun e h' => ∃ (n' : Nat) (l : Env),e = [(0,ptr pp),(2,ptr h.next),(3,ptr pm),(4,ptr pe),(5,.int .i64 (f : Int))] ++ l ∧ MF h h' pp xa xc xs n' hi ta tc ty [(h.next,z13,0),(pm,mC ta tc (.slice fa fs.length fc) tb me gl ex el (.bool false) (.int .u32 0) Xf (.slice (some ⟨bd,0,none⟩) 2 1),0),(bm,meC mv,3),(pe,Zg,0)] fa fc fs pe q2 pm hB2 ∧ Dat h' (fun b => q2 ≤ b) bd) ?_ ?_
  · have M25 := F25.b.m
    refine Wd (Wa rfl rfl (We (v := .slice (some ⟨bm,0,none⟩) 1 1) rfl M25.2.1.2 (by rw [hme]; rfl) (Xi rfl rfl ⟨by decide,by decide⟩ (Wa rfl rfl (We (v := .int .u32 mv) rfl M25.2.2.1.2 rfl (Wa rfl rfl (Wc [(0,_),(2,_),(3,_),(4,_),(5,_),(146,_)] rfl (?_))))))))
    refine Wn rfl (fun _ => ?_) (fun _ => Ya ⟨n18,_,rfl,F25,_,_,_,_,gd25,rfl,rfl,.inl ⟨rfl,rfl⟩⟩)
    refine Wl (Wa rfl rfl (We (v := .slice (some ⟨bd,0,none⟩) 2 1) rfl M25.2.1.2 rfl (Wa rfl rfl (We (v := .slice (some ⟨bd,0,none⟩) 2 1) rfl M25.2.1.2 rfl (Wa rfl rfl (Xj (l := Zg) rfl M25.2.2.2.1.2 (by simp) rfl (Wb rfl (F25.c48 (by decide)) ?_)))))))
    rintro _ h26 ⟨r26,n26,rfl,hr26,F26,x26⟩
    have M26 := F26.b.m
    have gd26 := gd25.ext x26 fun r => by omega
    refine Yn rfl rfl M26.2.1.2 (v := .slice (some ⟨bd,0,none⟩) 2 1) rfl (by simp [Yq,Ys]) (Yn rfl rfl M26.2.1.2 (v := .slice (some ⟨bd,0,none⟩) 2 1) rfl (by simp [Yq,Ys]) (Jf rfl rfl M26.2.2.2.1.2 (by simp) rfl rfl (Wi (w := .int .u64 (r26 : Int)) rfl rfl (by rw [Vu (by omega)]) (Wa rfl rfl ?_))))
    refine Wj (l := inC 65 r26) rfl rfl fun h27 n27 x27 g27 => ?_
    have F27 := F26.ext0 x27
    have M27 := F27.b.m
    have gd27 := gd26.ext x27
    refine Xi rfl rfl ⟨by decide,by decide⟩ (Wa rfl rfl (Wm (l := [.int .u8 0]) rfl rfl rfl rfl gd27 (by simp) rfl fun h28 n28 x28 g28 => ?_))
    refine Jf rfl rfl (M27.2.2.2.1.2.ext x28 fun r => by omega) (by simp) rfl rfl ?_
    refine Xi rfl rfl ⟨by decide,by decide⟩ (Wa rfl rfl (Wm (l := [.slice (some ⟨h26.next,0,none⟩) 2 1]) rfl rfl rfl rfl g28 (by simp [putL]) rfl fun h29 n29 x29 g29 => ?_))
    have z26 := x26.next
    replace g29 : At h29 bd (.cells [.int .u8 1,Xf,.slice (some ⟨h21.next,0,none⟩) 7 1,.int .u8 0,.slice (some ⟨h26.next,0,none⟩) 2 1,.slice (some ⟨h22.next,0,none⟩) 3 1] 3 false) := g29
    refine Wk [(0,_),(2,_),(3,_),(4,_),(5,_)] rfl ⟨n26,[],rfl,?_,_,_,_,_,g29,rfl,rfl,.inr ⟨rfl,h26.next,r26,rfl,by omega,((show At h27 h26.next _ from g27).ext x28 fun e => by omega).ext x29 fun e => by omega⟩⟩
    have x2729 := x28.trans x29
    exact F27.own x2729 (fun j r => ⟨by omega,.inl (by omega)⟩) (M27.put x2729 fun p hp r => by
      simp only [List.mem_cons,List.not_mem_nil,or_false] at hp
      rcases hp with rfl | rfl | rfl | rfl <;> simp only [] at r <;> omega)
  clear F25 gd25
  rintro e h26 ⟨n26,l26,rfl,F26',hD⟩
  have gt26 := gt21.ext F26'.y fun r => by omega
  have gi26 := gi21.ext F26'.y fun r => by omega
  have gj26 := gj21.ext F26'.y fun r => by omega
  have gg26 := gg21.ext F26'.y fun r => by omega
  have se26 := se21.ext F26'.y fun q r e => by have := ebq q r; omega
  have ge26 := ge21.ext F26'.y fun r => by omega
  have go26 := go21.ext F26'.y fun r => by omega
  have si26 := si21.ext F26'.y fun q r e => by have := ial q r; omega
  have ii26 := ii21.ext F26'.y fun q r e => by have := r.1; omega
  have hD26 : Dat h26 (fun b => q2 ≤ b ∧ b < h26.next) bd := hD.mono fun j hj r => ⟨r,hj⟩
  have hBq26 := F26'.hq
  have hbd26 : bd < h26.next := by obtain ⟨_,_,_,_,g,_⟩ := hD; exact g.lt
  obtain ⟨q3,hq3⟩ : ∃ q,q = h26.next := ⟨_,rfl⟩
  obtain ⟨hB3,hhB3⟩ : ∃ q : Heap,q = h26 := ⟨_,rfl⟩
  have F26 : MF h h26 pp xa xc xs n26 hi ta tc ty [(h.next,z13,0),(pm,mC ta tc (.slice fa fs.length fc) tb me gl ex el (.bool false) (.int .u32 0) Xf (.slice (some ⟨bd,0,none⟩) 2 1),0),(bm,meC mv,3),(pe,Zg,0)] fa fc fs pe q3 pm hB3 :=
    ⟨F26'.b,F26'.sF,fun j r => ⟨(F26'.fb j r).1,by have := (F26'.fb j r).2; omega⟩,by omega,F26'.o,F26'.o2,F26'.o3,by rw [hhB3,hq3]; exact Nat.le_refl _,by rw [hhB3]; exact Ext.refl _ _⟩
  have peq3 : pe < q3 := by omega
  have hq23 : q2 ≤ q3 := by omega
  rw [← hq3] at hD26 hbd26
  rw [← hhB3] at gt26 gi26 gj26 gg26 se26 ge26 go26 si26 ii26 hD26
  have hBq3 : hB3.next = q3 := by rw [hhB3,hq3]
  clear F26' gt21 gi21 gj21 gg21 se21 ge21 go21 si21 ii21 hBq26 hhB3 hD
  have M26 := F26.b.m
  have hq26 := F26.hq
  refine Wd (Wa rfl rfl (Wm (l := [.bool true]) rfl rfl rfl rfl M26.2.1.2 (by simp) rfl fun h27 n27 x27 g27 => Wa rfl rfl (Wm (l := [.int .u32 2]) rfl rfl rfl rfl g27 (by simp [putL]) rfl fun h28 n28 x28 g28 => ?_)))
  replace g28 : At h28 pm (.cells (mC ta tc (.slice fa fs.length fc) tb me gl ex el (.bool true) (.int .u32 2) Xf (.slice (some ⟨bd,0,none⟩) 2 1)) 0 false) := g28
  refine Wc [(0,_),(2,_),(3,_),(4,_),(5,_)] rfl (?_)
  have x2628 := x27.trans x28
  obtain ⟨da,hda,cda⟩ : ∃ v : Value,v = .slice (some ⟨bd,0,none⟩) 2 1 ∧ isCell v = true := ⟨_,rfl,rfl⟩
  have F28 : MF h h28 pp xa xc xs n26 hi ta tc ty [(h.next,z13,0),(pm,mC ta tc (.slice fa fs.length fc) tb me gl ex el (.bool true) (.int .u32 2) Xf da,0),(bm,meC mv,3),(pe,Zg,0)] fa fc fs pe q3 pm hB3 :=
    F26.own x2628 (fun j r => ⟨by omega,.inr (by omega)⟩) ⟨⟨M26.1.1,M26.1.2.ext x2628 fun r => by omega⟩,⟨M26.2.1.1,by rw [hda]; exact g28⟩,⟨M26.2.2.1.1,M26.2.2.1.2.ext x2628 fun r => by omega⟩,⟨M26.2.2.2.1.1,M26.2.2.2.1.2.ext x2628 fun r => by omega⟩,trivial⟩
  clear g28 g27 M26 F26
  -- the bodies
  have hf1 : 0 < fs.length := by omega
  have hf3 : fs.length ≤ 3 := by omega
  have hmm := mkM_mm fun x hx => (hf6 x hx).2
  refine Xc (Wd (Wa rfl rfl (Wc [(0,_),(2,_),(3,_),(4,_),(5,_),(11,_)] rfl (?_))))
  refine Wt ?_
  refine Xy (fun k e h' => ∃ (i n' : Nat) (ca : Option Addr) (cc : Nat) (cl : List Value),e = [(0,ptr pp),(2,ptr h.next),(3,ptr pm),(4,ptr pe),(5,.int .i64 (f : Int)),(11,.int .i64 (i : Int))] ∧ i ≤ f ∧ k = f - i ∧
      MF h h' pp xa xc xs n' hi ta tc ty [(h.next,z13,0),(pm,mC ta tc (.slice fa fs.length fc) tb me gl ex el (.bool true) (.int .u32 2) (.slice ca i cc) da,0),(bm,meC mv,3),(pe,Zg,0)] fa fc fs pe q3 pm hB3 ∧ OwS h' 2 ca i cc cl ∧ (∀ j,Blk ca j → q3 ≤ j) ∧ Cd h' (fun q => q3 ≤ q ∧ q < h'.next ∧ ¬ Blk ca q) fs cl i) ?_ (k := f)
    ⟨0,n26,none,0,[],rfl,Nat.zero_le _,rfl,F28,OwS.none,fun i r => absurd r Blk.none,fun j hj => by omega⟩
  clear F28 x2628 x27 x28
  rintro k e h29 ⟨i,n29,ca,cc,cl,rfl,hif,rfl,F29,oC,cb,C29⟩
  refine Xc (Wd (Wa rfl rfl (Wa rfl rfl (Wa rfl rfl (Wc [(0,_),(2,_),(3,_),(4,_),(5,_),(11,_),(165,_)] rfl (?_))))))
  refine Wo rfl (fun hc => ?_) (fun hc => ?_)
  · have hin : i < f := by have := of_decide_eq_true hc; omega
    have hil : i < fs.length := by omega
    have M29 := F29.b.m
    have hq29 := F29.hq
    have hj : fs[i] < 6 := (hf6 _ (List.getElem_mem hil)).2
    obtain ⟨p,hty⟩ : ∃ p,TM.types[fs[i]]? = some p := ⟨_,List.getElem?_eq_getElem hj⟩
    obtain ⟨pa,pc,ra,rc,ht,sp,sr,pS,rS⟩ := F29.b.tys _ _ hty
    obtain ⟨hpn,hpt⟩ := VS.MM.par hmm (show (mkM fs).types[fs[i]]? = some p from hty)
    obtain ⟨hrn,hrt⟩ := VS.MM.res hmm (show (mkM fs).types[fs[i]]? = some p from hty)
    obtain ⟨idt,offt,vst,ezt,rot,hta,gt,hlt,hlt2,hgt⟩ := F29.b.st.at (by omega)
    have wt : (vst.drop (offt + ((fs[i] : Nat) : Int).toNat * 2)).take 2 = [.slice pa p.1.length pc,.slice ra p.2.length rc] := by
      rw [Int.toNat_natCast,← ht]
      apply List.ext_getElem?
      intro q
      by_cases hq : q < 2
      · rw [List.getElem?_take_of_lt hq,List.getElem?_drop,List.getElem?_take_of_lt hq,List.getElem?_drop,Nat.add_assoc,hgt _ (by omega)]
      · rw [List.getElem?_eq_none (by simp; omega),List.getElem?_eq_none (by simp; omega)]
    refine Wr (Wt ?_)
    refine Wd (Wa rfl rfl (We (v := .slice (some ⟨idt,offt,none⟩) 6 tc) rfl M29.2.1.2 (by rw [hta]; rfl) (Wa rfl rfl (We (v := .slice fa fs.length fc) rfl M29.2.1.2 rfl (Wa rfl rfl ?_)))))
    refine Xx (u := .int .u32 (fs[i] : Int)) rfl rfl F29.sF ⟨by omega,by omega⟩ (by simp [hil]) fun _ => ?_
    refine Xi rfl rfl ⟨by omega,by omega⟩ (Xj rfl gt (by rw [Int.toNat_natCast]; omega) wt (Xh fun h30 n30 x30 g30 => ?_))
    refine Wm (l := [.slice pa p.1.length pc,.slice ra p.2.length rc]) rfl rfl rfl rfl g30 (by simp) rfl fun h31 n31 x31 g31 => ?_
    refine Wc [(0,_),(2,_),(3,_),(4,_),(5,_),(11,_),(12,_)] rfl (?_)
    replace g31 : At h31 h29.next (.cells [.slice pa p.1.length pc,.slice ra p.2.length rc] 0 false) := g31
    refine Wd (Wj (l := bys [127,126,127]) rfl rfl fun h32 n32 x32 g32 => Wa rfl rfl (Xh fun h33 n33 x33 g33 => Wm (l := [.slice (some ⟨h31.next,0,none⟩) 3 1,Xf]) rfl rfl rfl rfl g33 (by simp) rfl fun h34 n34 x34 g34 => ?_))
    refine Wc [(0,_),(2,_),(3,_),(4,_),(5,_),(11,_),(12,_),(13,_)] rfl (?_)
    replace g34 : At h34 h32.next (.cells [.slice (some ⟨h31.next,0,none⟩) 3 1,Xf] 0 false) := g34
    have x2931 : Xe h29 h31 := x30.then x31 fun j r => .inr (by omega)
    have x3234 : Xe h32 h34 := x33.then x34 fun j r => .inr (by omega)
    have x2934 : Xe h29 h34 := (x2931.trans x32).trans x3234
    have sloc : SlA h34 1 (some ⟨h31.next,0,none⟩) 3 1 (bys [127,126,127]) := (OwS.new (n := 3) (c := 1) g32 rfl).sl.ext x3234
    refine Wd (Wa rfl rfl (Wj (l := []) rfl rfl fun h35 n35 x35 g35 => ?_))
    have g12 := (((g31.ext x32).ext x3234).ext x35)
    have g13 := g34.ext x35
    refine Wa rfl rfl (We (v := .slice pa p.1.length pc) rfl g12 rfl (Wa rfl rfl (We (v := .slice (some ⟨h31.next,0,none⟩) 3 1) rfl g13 rfl (Wa rfl rfl ?_))))
    refine Xk (m := p.1.length) rfl rfl (OwS.new (n := 0) g35 rfl) rfl (sp.ext (x2934.trans x35)).first ⟨by omega,by omega⟩ (by simp) (bys_cell _) (by decide) fun h36 a36 c36 x36 o36 b36 => ?_
    have b36' : ∀ j,Blk a36 j → h34.next ≤ j := fun j r => (b36 j r).elim (fun r => by rw [Blk.at] at r; omega) fun r => by omega
    have x3436 : Xe h34 h36 := x35.then x36 fun j r => .inr (by rw [Blk.at] at r; omega)
    have z36 := x3436.next
    have g12' := ((g31.ext x32).ext x3234).ext x3436
    have g13' := g34.ext x3436
    refine Yn rfl rfl g13' (v := .slice (some ⟨h31.next,0,none⟩) 3 1) rfl (by simp [Yq,Ys]) ?_
    refine Xk (m := 3) rfl rfl o36 rfl (sloc.ext x3436).first ⟨by omega,by omega⟩ rfl rfl (by decide) fun h37 a37 c37 x37 o37 b37 => ?_
    have b37' : ∀ j,Blk a37 j → h34.next ≤ j := fun j r => (b37 j r).elim (b36' j) fun r => by omega
    have x2937 : Xe h29 h37 := (x2934.trans x3436).then x37 fun j r => .inr (by have := b36' j r; have := x2934.next; omega)
    have z37 := x37.next
    have z2937 := x2937.next
    have z2934 := x2934.next
    have z2931 := x2931.next
    have sloc37 := (sloc.ext x3436).ext x37 fun j r e => by rw [Blk.at] at r; have := b36' j e; omega
    refine Wa rfl rfl (Ye (cs := [ptr pp,ptr pm,.slice a37 (0 + p.1.length + 3) c37,Xf,.int .i64 0,.int .i64 (i : Int)]) rfl rfl fun h38 n38 x38 g38 => ?_)
    refine Wa rfl rfl (Wc [(0,_),(2,_),(3,_),(4,_),(5,_),(11,_),(12,_),(13,_),(14,_)] rfl (?_))
    have x2938 := x2937.trans x38
    have F38 := F29.ext0 x2938
    have M38 := F38.b.m
    have hlsl : (p.1 ++ [127,126,127]).length = 0 + p.1.length + 3 := by rw [List.length_append]; simp
    have ppl := F38.b.pl
    -- the maker
    have m38 : Mk ⟨h37.next,pp,pm,a37,c37,p.1 ++ [127,126,127],(i : Int),xa,xc,xs,mC ta tc (.slice fa fs.length fc) tb me gl ex el (.bool true) (.int .u32 2) (.slice ca i cc) da,fa,fc,ta,tc,ty,fun j => j < h37.next ∧ j ≠ pp,mkM fs⟩ h38 ⟨none,0,[],0,n29⟩ := by
      refine ⟨⟨fun j r => by have := r.1; omega,M38.2.1.2,(show pm < h37.next ∧ pm ≠ pp from ⟨by have := M29.2.1.2.lt; omega,by omega⟩),rfl,rfl,F38.sF,fun j r => ⟨by have := F38.fb j r; omega,by have := F38.fb j r; omega⟩,hmm,hf1,hf3,F38.b.st,fun j r => ⟨by have := F38.b.tS j r; omega,by have := F38.b.tS j r; omega⟩,
        Tys.mk' (F38.b.tys.mono fun j r => ⟨by have := r.2; omega,by have := r.1; omega⟩),F38.b.sx,fun j r => ⟨by have := (F38.b.xS j r).1; omega,(F38.b.xS j r).2⟩,xw,xl,?_,fun j r => ⟨o37.lt r,by have := b37' j r; omega⟩,?_,?_,?_⟩,?_,F38.b.gp,F38.b.hn,OwS.none,fun x hx => (by cases hx),fun r => absurd (show h37.next < h37.next from r.1) (Nat.lt_irrefl _),fun r => r.2 rfl,?_,fun j r => absurd r Blk.none⟩
      · show SlA h38 1 a37 (p.1 ++ [127,126,127]).length c37 (bys (p.1 ++ [127,126,127]))
        rw [hlsl,show bys (p.1 ++ [127,126,127]) = [] ++ bys p.1 ++ bys [127,126,127] by simp]
        exact (o37.ext x38).sl
      · show (p.1 ++ [127,126,127]).length ≤ 10
        rw [hlsl]; omega
      · show 0 < (p.1 ++ [127,126,127]).length
        rw [hlsl]; omega
      · show (p.1 ++ [127,126,127]).getD ((p.1 ++ [127,126,127]).length - 1) 0 = 127
        simp [List.getD,List.getElem?_append_right]
      · show At h38 h37.next (.cells [ptr pp,ptr pm,.slice a37 (p.1 ++ [127,126,127]).length c37,.slice none 0 0,.int .i64 0,.int .i64 (i : Int)] 0 false)
        rw [hlsl]; exact g38
      · show h37.next ≠ pp
        omega
    obtain ⟨K,hK⟩ : ∃ K : Kt,K = ⟨h37.next,pp,pm,a37,c37,p.1 ++ [127,126,127],(i : Int),xa,xc,xs,mC ta tc (.slice fa fs.length fc) tb me gl ex el (.bool true) (.int .u32 2) (.slice ca i cc) da,fa,fc,ta,tc,ty,fun j => j < h37.next ∧ j ≠ pp,mkM fs⟩ := ⟨_,rfl⟩
    rw [← hK] at m38
    have kk : K.pk = h37.next := by rw [hK]
    have kp : K.pp = pp := by rw [hK]
    have kx : K.xs = xs := by rw [hK]
    have kM : K.M = mkM fs := by rw [hK]
    have kl : K.ls = p.1 ++ [127,126,127] := by rw [hK]
    have kS : ∀ j,K.S j ↔ j < h37.next ∧ j ≠ pp := by rw [hK]; exact fun j => Iff.rfl
    have ok0 := start_okv p.2
    have G38 := Go.refl m38 (VS.start p.2)
    have p38 : pot K ⟨none,0,[],0,n29⟩ ≤ 30000 := by
      unfold pot; rw [kx]; simp only [List.length_nil]; omega
    rw [← kk,← kp]
    refine Wd (Wa rfl rfl (Wa rfl rfl (Wb rfl (G38.c48 (by decide)) ?_)))
    rintro _ h39 ⟨r39,n39,rfl,hr39,G39,hn39,hp39,hu39,hz39,x39⟩
    refine Wb rfl (G39.c49 (by omega) (by omega) ok0) ?_
    rintro v40 h40 ⟨s40,G40,hn40,hp40⟩
    refine Wc [(0,_),(2,_),(3,_),(4,_),(5,_),(11,_),(12,_),(13,_),(14,_)] rfl (?_)
    have tt : ∀ {h' : Heap} {s' : Sm} {v v' : VS},Go K h38 ⟨none,0,[],0,n29⟩ h' s' v v' → Ext (fun j => j = h37.next ∨ j = pp) h38 h' := fun g => g.x.mono fun j _ r => by
      rcases r with r | r | r
      · exact .inl (by rw [r,kk])
      · exact .inr (by rw [r,kp])
      · exact absurd r Blk.none
    have g12e := (g12'.ext x37 fun r => by have := b36' _ r; omega).ext x38
    have g13e := (g13'.ext x37 fun r => by have := b36' _ r; omega).ext x38
    have sr38 := sr.ext x2938
    refine Xc (Wd (Wa rfl rfl (Wc [(0,_),(2,_),(3,_),(4,_),(5,_),(11,_),(12,_),(13,_),(14,_),(15,_)] rfl (?_))))
    refine Wt ?_
    refine Xy (fun k e h' => ∃ (j : Nat) (s1 : Sm),e = [(0,ptr K.pp),(2,ptr h.next),(3,ptr pm),(4,ptr pe),(5,.int .i64 (f : Int)),(11,.int .i64 (i : Int)),(12,ptr h29.next),(13,ptr h32.next),(14,ptr K.pk),(15,.int .i64 (j : Int))] ∧ j ≤ p.2.length ∧ k = p.2.length - j ∧ Go K h38 ⟨none,0,[],0,n29⟩ h' s1 (VS.start p.2) ((VS.start p.2).push (p.2.take j)) ∧ pot K s1 ≤ 30000 + j) ?_ (k := p.2.length)
      ⟨0,s40,rfl,Nat.zero_le _,rfl,G40.cast (VS.push_nil _).symm,by omega⟩
    clear G40 hp40 hn40 G39 hp39 hn39 x39 hu39 hz39
    rintro k e h41 ⟨j,s41,rfl,hjr,rfl,G41,p41⟩
    have T41 := tt G41
    have z41 := T41.next
    have g12f := g12e.ext T41 fun r => by omega
    have g13f := g13e.ext T41 fun r => by omega
    refine Xc (Wd (Wa rfl rfl (Wa rfl rfl (We (v := .slice ra p.2.length rc) rfl g12f rfl (Wa rfl rfl (Wa rfl rfl (Wc [(0,_),(2,_),(3,_),(4,_),(5,_),(11,_),(12,_),(13,_),(14,_),(15,_),(198,_)] rfl (?_))))))))
    refine Wo rfl (fun hc => ?_) (fun hc => ?_)
    · have hjn : j < p.2.length := by have := of_decide_eq_true hc; omega
      have sr41 := sr38.ext T41 fun q r => by have := rS q r; omega
      have e1 : (VS.start p.2).push (p.2.take (j + 1)) = ((VS.start p.2).push (p.2.take j)).push [p.2[j]] := by rw [List.take_add_one,List.getElem?_eq_getElem hjn,← VS.push_push]; rfl
      refine Wr (Wt ?_)
      refine Wl (Wa rfl rfl (Wa rfl rfl (We (v := .slice ra p.2.length rc) rfl g12f rfl (Wa rfl rfl (Xx (u := .int .u8 ((p.2[j] : Nat) : Int)) rfl rfl sr41 ⟨by omega,by omega⟩ (by simp [hjn]) fun _ => ?_)))))
      refine Wb rfl (G41.c50 (t := p.2[j]) (hrt _ (List.getElem_mem hjn)) (by omega) (ok0.push _)) ?_
      rintro v42 h42 ⟨s42,G42,hn42,hp42⟩
      refine Wk [(0,_),(2,_),(3,_),(4,_),(5,_),(11,_),(12,_),(13,_),(14,_),(15,_)] rfl (?_)
      refine Wl (Wa rfl rfl (Wa rfl rfl (Wa rfl rfl (Wk [(0,_),(2,_),(3,_),(4,_),(5,_),(11,_),(12,_),(13,_),(14,_),(15,_)] rfl (?_)))))
      exact ⟨p.2.length - (j + 1),by omega,j + 1,s42,by rw [Zi (by omega)],by omega,rfl,G42.cast e1.symm,by omega⟩
    refine Xn (Xp ?_)
    have hje : j = p.2.length := by have := of_decide_eq_false hc; omega
    subst hje
    rw [List.take_length] at G41
    -- the body is done
    have hopl : s41.ops.length ≤ 30010 := by
      have := G41.m.hn
      unfold pot at p41
      omega
    have hops : s41.ops.length ≤ 100100 := by omega
    have o41 := G41.m.o
    obtain ⟨w41,hw41,ow41⟩ := G41.w
    have hw : s41.ops = w41 := by simpa using hw41
    rw [← hw,kM,kl] at ow41
    clear hw41 hw w41
    have oab : ∀ q,Blk s41.oa q → h38.next ≤ q := fun q r => (G41.b q r).elim (fun r => absurd r Blk.none) id
    have lab : ∀ x ∈ s41.ops,∀ q,Blk x.la q → h38.next ≤ q ∧ q < h41.next ∧ ¬ Blk s41.oa q := fun x hx q r => by
      have b := (G41.m.li x hx).b q r
      have b2 := b.2.2.2.2
      rw [kS] at b2
      rw [kk,kp] at b
      exact ⟨by omega,b.1,b.2.2.2.1⟩
    have F41 : MF h h41 pp xa xc xs s41.n hi ta tc ty [(h.next,z13,0),(pm,mC ta tc (.slice fa fs.length fc) tb me gl ex el (.bool true) (.int .u32 2) (.slice ca i cc) da,0),(bm,meC mv,3),(pe,Zg,0)] fa fc fs pe q3 pm hB3 := by
      have gp41 := G41.m.gp
      have hn41 := G41.m.hn
      have sx41 := G41.m.z.sx
      rw [hK] at gp41 hn41 sx41
      have hne : ∀ q,h.next ≤ q → q < h37.next → ¬ (q = h37.next ∨ q = pp) := fun q h1 h2 r => by omega
      refine ⟨⟨F38.b.x.then T41 fun q r => by rcases r with r | r; exact .inr (by omega); exact .inl r,gp41,hn41,sx41,F38.b.st.ext T41 fun q r => hne q (by have := F38.b.tS q r; omega) (by have := F38.b.tS q r; omega),F38.b.tS,F38.b.tys.ext T41 fun q r => hne q (Nat.le_of_lt r.1) (by have := r.2; omega),F38.b.m.put T41 fun p hp r => ?_,by omega,F38.b.pl,F38.b.xS,xw,xl⟩,F38.sF.ext T41 fun q r => hne q (by have := F38.fb q r; omega) (by have := F38.fb q r; omega),F38.fb,by omega,F38.o,F38.o2,F38.o3,F38.q0,F38.y.then T41 fun q r => by have := F38.q0; omega⟩
      simp only [List.mem_cons,List.not_mem_nil,or_false] at hp
      rcases hp with rfl | rfl | rfl | rfl <;> simp only [] at r <;> omega
    have M41 := F41.b.m
    have hne : ∀ q,q3 ≤ q → q < h37.next → ¬ (q = h37.next ∨ q = pp) := fun q h1 h2 r => by omega
    have oClt : ∀ q,Blk ca q → q < h29.next := fun q r => oC.lt r
    have oC41 := (oC.ext x2938).ext T41 fun q r => hne q (cb q r) (by have := oC.lt r; omega)
    have C41 := (C29.ext x2938 fun q _ r => r).ext T41 fun q r => hne q r.1 (by have := r.2.1; omega)
    have sl41 := (sloc37.ext x38).ext T41 fun q r => by rw [Blk.at] at r; omega
    refine Wd (Wa rfl rfl (Wa rfl rfl (Wa rfl rfl (We (v := .slice s41.oa s41.ops.length s41.oc) rfl G41.m.gk rfl (Xj (l := Zg) rfl M41.2.2.2.1.2 (by simp) rfl ?_)))))
    refine Wj (l := en IM.enc [Ky]) rfl rfl fun h42 n42 x42 g42 => ?_
    refine Xk (m := 1) rfl rfl (o41.ext x42) rfl (OwS.new (n := 1) (c := 1) g42 rfl).sl.first ⟨by omega,by omega⟩ rfl (Xz _) (by decide) fun h43 a43 c43 x43 o43 b43 => ?_
    have b43' : ∀ q,Blk a43 q → h38.next ≤ q := fun q r => (b43 q r).elim (oab q) fun r => by omega
    have F42 := F41.ext0 x42
    have M42 := F42.b.m
    have F43 := F42.own x43 (fun q r => ⟨by have := oab q r; omega,.inl (by have := oab q r; omega)⟩) (M42.put x43 fun p hp r => by
      have := oab _ r
      simp only [List.mem_cons,List.not_mem_nil,or_false] at hp
      rcases hp with rfl | rfl | rfl | rfl <;> simp only [] at this <;> omega)
    have g13g := (g13f.ext x42).ext x43 fun r => by have := oab _ r; omega
    have z42 := x42.next
    have z43 := x43.next
    refine Wa rfl rfl (Wm (l := [.slice a43 (s41.ops.length + 1) c43]) rfl rfl rfl rfl g13g (by simp) rfl fun h44 n44 x44 g44 => ?_)
    refine Wc [(0,_),(2,_),(3,_),(4,_),(5,_),(11,_),(13,_)] rfl (?_)
    replace g44 : At h44 h32.next (.cells [.slice (some ⟨h31.next,0,none⟩) 3 1,.slice a43 (s41.ops.length + 1) c43] 0 false) := g44
    have M43 := F43.b.m
    have F44 := F43.own x44 (fun q r => ⟨by omega,.inl (by omega)⟩) (M43.put x44 fun p hp r => by
      simp only [List.mem_cons,List.not_mem_nil,or_false] at hp
      rcases hp with rfl | rfl | rfl | rfl <;> simp only [] at r <;> omega)
    have o44 := o43.ext x44 fun q r e => by have := b43' q r; omega
    rw [← en_app] at o44
    have sl44 := ((sl41.ext x42).ext x43 fun q r e => by rw [Blk.at] at r; have := oab q e; omega).ext x44 fun q r e => by rw [Blk.at] at r; omega
    have li44 : ∀ x ∈ s41.ops,Lw h44 (fun q => h38.next ≤ q ∧ q < h41.next) x := fun x hx =>
      ⟨(((G41.m.li x hx).s.ext x42).ext x43 fun q r => (lab x hx q r).2.2).ext x44 fun q r e => by have := (lab x hx q r).1; omega,fun q r => ⟨(lab x hx q r).1,(lab x hx q r).2.1⟩,(G41.m.li x hx).ok,(G41.m.li x hx).kn⟩
    have oC44 := ((oC41.ext x42).ext x43 fun q r e => by have := oab q e; have := oC.lt r; omega).ext x44 fun q r e => by have := oC.lt r; omega
    have C44 := ((C41.ext x42 fun q _ r => r).ext x43 fun q r e => by have := oab q e; have := r.2.1; omega).ext x44 fun q r e => by have := r.2.1; omega
    have M44 := F44.b.m
    refine Wl (Wa rfl rfl (We (v := .slice ca i cc) rfl M44.2.1.2 rfl (Xj (l := [.slice (some ⟨h31.next,0,none⟩) 3 1,.slice a43 (s41.ops.length + 1) c43]) rfl g44 (by simp) rfl ?_)))
    refine Wj (l := [.slice (some ⟨h31.next,0,none⟩) 3 1,.slice a43 (s41.ops.length + 1) c43]) rfl rfl fun h45 n45 x45 g45 => ?_
    refine Xk (m := 1) rfl rfl (oC44.ext x45) rfl (OwS.new (n := 1) (c := 1) g45 rfl).sl.first ⟨by omega,by omega⟩ rfl rfl (by decide) fun h46 ca' cc' x46 oC46 bC46 => ?_
    have F45 := F44.ext0 x45
    have M45 := F45.b.m
    have F46 := F45.own x46 (fun q r => ⟨by have := cb q r; omega,.inl (cb q r)⟩) (M45.put x46 fun p hp r => by
      have := cb _ r
      simp only [List.mem_cons,List.not_mem_nil,or_false] at hp
      rcases hp with rfl | rfl | rfl | rfl <;> simp only [] at this <;> omega)
    have M46 := F46.b.m
    have bC46' : ∀ q,Blk ca' q → q3 ≤ q := fun q r => (bC46 q r).elim (cb q) fun r => by have := F45.hq; omega
    have z45 := x45.next
    have z46 := x46.next
    have nca : ∀ q,h29.next ≤ q → q < h45.next → ¬ Blk ca' q := fun q h1 h2 e => (bC46 q e).elim (fun e => by have := oClt q e; omega) fun e => by omega
    refine Wa rfl rfl (Wm (l := [.slice ca' (i + 1) cc']) rfl rfl rfl rfl M46.2.1.2 (by simp) rfl fun h47 n47 x47 g47 => ?_)
    replace g47 : At h47 pm (.cells (mC ta tc (.slice fa fs.length fc) tb me gl ex el (.bool true) (.int .u32 2) (.slice ca' (i + 1) cc') da) 0 false) := g47
    refine Wk [(0,_),(2,_),(3,_),(4,_),(5,_),(11,_)] rfl (?_)
    refine Wl (Wa rfl rfl (Wa rfl rfl (Wa rfl rfl (Wk [(0,_),(2,_),(3,_),(4,_),(5,_),(11,_)] rfl (?_)))))
    have z47 := x47.next
    have C47 : Cd h47 (fun q => q3 ≤ q ∧ q < h47.next ∧ ¬ Blk ca' q) fs cl i := (((C44.ext x45 fun q _ r => r).ext x46 fun q r => r.2.2).ext x47 fun q r e => by have := r.1; omega).mono fun q r => ⟨r.1,by have := r.2.1; omega,fun e => (bC46 q e).elim r.2.2 fun e => by have := r.2.1; omega⟩
    have o47 := ((o44.ext x45).ext x46 fun q r e => by have := b43' q r; have := oClt q e; omega).ext x47 fun q r e => by have := b43' q r; omega
    have o44lt : ∀ q,Blk a43 q → q < h44.next := fun q r => o44.lt r
    have sl47 := ((sl44.ext x45).ext x46 fun q r e => by rw [Blk.at] at r; have := oClt q e; omega).ext x47 fun q r e => by rw [Blk.at] at r; omega
    have cllen : cl.length = i * 2 := by have := oC.sl.len; omega
    have D47 : Cd1 h47 (fun q => q3 ≤ q ∧ q < h47.next ∧ ¬ Blk ca' q) fs (cl ++ [.slice (some ⟨h31.next,0,none⟩) 3 1,.slice a43 (s41.ops.length + 1) c43]) i := by
      refine ⟨some ⟨h31.next,0,none⟩,1,a43,c43,s41.ops,p,?_,sl47,fun q r => ?_,o47.sl,fun q r => ?_,fun x hx => ?_,by omega,⟨fs[i],List.getElem?_eq_getElem hil,hty⟩,ow41⟩
      · rw [List.drop_append,List.drop_of_length_le (by omega),show i * 2 - cl.length = 0 by omega]; rfl
      · rw [Blk.at] at r
        exact ⟨by omega,by omega,nca q (by omega) (by omega)⟩
      · have := b43' q r
        have := o44lt q r
        exact ⟨by omega,by omega,nca q (by omega) (by omega)⟩
      · have l := li44 x hx
        refine ⟨((l.s.ext x45).ext x46 fun q r e => by have := (l.b q r).1; have := oClt q e; omega).ext x47 fun q r e => by have := (l.b q r).1; omega,fun q r => ?_,l.ok,l.kn⟩
        have := l.b q r
        exact ⟨by omega,by omega,nca q (by omega) (by omega)⟩
    refine ⟨f - (i + 1),by omega,i + 1,s41.n,ca',cc',_,by rw [Zi (by omega),kp],by omega,rfl,(by rw [kp]; exact F46.own (L' := [(h.next,z13,0),(pm,mC ta tc (.slice fa fs.length fc) tb me gl ex el (.bool true) (.int .u32 2) (.slice ca' (i + 1) cc') da,0),(bm,meC mv,3),(pe,Zg,0)]) x47 (fun q r => ⟨by omega,.inr (by omega)⟩) ⟨⟨M46.1.1,M46.1.2.ext x47 fun r => by omega⟩,⟨M46.2.1.1,g47⟩,⟨M46.2.2.1.1,M46.2.2.1.2.ext x47 fun r => by omega⟩,⟨M46.2.2.2.1.1,M46.2.2.2.1.2.ext x47 fun r => by omega⟩,trivial⟩),oC46.ext x47 (fun q r e => by have := bC46' q r; omega),bC46',C47.snoc cllen D47⟩
  -- all of it
  have hie : i = f := by have := of_decide_eq_false hc; omega
  subst hie
  refine Xn (Xp ?_)
  have M29 := F29.b.m
  have hq29 := F29.hq
  refine Wd (Xj (l := mC ta tc (.slice fa fs.length fc) tb me gl ex el (.bool true) (.int .u32 2) (.slice ca i cc) da) rfl M29.2.1.2 (by simp) rfl (Wm (l := mC ta tc (.slice fa fs.length fc) tb me gl ex el (.bool true) (.int .u32 2) (.slice ca i cc) da) rfl rfl rfl rfl M29.1.2 (by simp) ?_ fun h30 n30 x30 g30 => ?_))
  · rw [htb,hme]; simp only [List.all_cons,List.all_nil,cgl,cex,cel,cda]; rfl
  refine Wc [(2,_)] rfl (?_)
  have x30' : Ext (· = pp) h h30 := F29.b.x.then x30 fun q r => .inr (by omega)
  have Y30 : Ext (fun i => i = pp ∨ i = pm ∨ i = h.next) hB3 h30 := (F29.y.mono fun i _ r => by rcases r with r | r; exact .inl r; exact .inr (.inl r)).then x30 fun i r => .inl (.inr (.inr r))
  have ppl := F29.b.pl
  have z30 := x30.next
  have hpm30 := M29.2.1.2.lt
  refine Xo (Ws.mk _ (Uf (res_c (l := mC ta tc (.slice fa fs.length fc) tb me gl ex el (.bool true) (.int .u32 2) (.slice ca i cc) da) rfl g30 (by simp [putL]) (by rfl)) rfl) ?_)
  refine ⟨⟨ta,tc,ty,fa,fc,fs,bt,tx,th,bm,mv,bg,i0,i1,r12,18446744073709551615,ea,ec,elx,be,bo,r18,ia,ic,il,bd,ca,cc,cl⟩,?_,?_,⟨F29.b.st.ext x30 fun q r e => by have := F29.b.tS q r; omega,(F29.b.tys.ext x30 fun q r e => by have := r.1; omega).mono fun q r => by have := r.2; have := F29.b.hh; omega,F29.sF.ext x30 fun q r e => by have := F29.fb q r; omega,hf6,hf1,hf3,gt26.ext Y30 fun r => by omega,htx,M29.2.2.1.2.ext x30 fun r => by omega,hmw,gg26.ext Y30 fun r => by omega,gj26.ext Y30 fun r => by omega,gi26.ext Y30 fun r => by omega,?_,?_,ge26.ext Y30 fun r => by omega,go26.ext Y30 fun r => by omega,si26.ext Y30 fun q r e => by have := ial q r; omega,?_,?_,?_,?_⟩,x30'⟩
  · show Value.agg ⟨_⟩ = Value.agg ⟨_⟩
    rw [htb,hme,hgl,hex,hel,hda,← hfl]
    try rfl
  · show List.all (mC ta tc (.slice fa fs.length fc) (.slice (some ⟨bt,0,none⟩) 1 1) (.slice (some ⟨bm,0,none⟩) 1 1) (.slice (some ⟨bg,0,none⟩) 2 1) (.slice ea fs.length ec) (.slice (some ⟨be,0,none⟩) 2 1) (.bool true) (.int .u32 2) (.slice ca fs.length cc) (.slice (some ⟨bd,0,none⟩) 2 1)) isCell = true
    rfl
  · show SlA h30 3 ea fs.length ec elx
    rw [hfl]
    exact se26.ext Y30 fun q r e => by have := ebq q r; omega
  · show ExL elx fs.length
    rw [hfl]; exact hEx
  · show Il h30 _ fs.length il 3
    rw [hfl]
    have i30 := ii26.mono (T := fun b => q1 ≤ b ∧ b < hB3.next) fun j hj r => ⟨r.1,hj⟩
    exact (i30.ext Y30 fun q r e => by have := r.1; omega).mono fun j _ r => by have := r.2; have := Y30.next; omega
  · have dd := hD26.ext Y30 (fun j r e => by have := r.1; omega) (by omega)
    exact dd.mono fun j hj _ => hj
  · show SlA h30 2 ca fs.length cc cl
    rw [hfl]
    exact oC.sl.ext x30 fun q r e => by have := cb q r; omega
  · show Cd h30 _ fs cl fs.length
    rw [hfl]
    exact (C29.ext x30 fun q r e => by have := r.1; omega).mono fun q r => by have := r.2.1; omega

end
section
/- Made modules, with types: runs. -/
open VS (Okv MM)
theorem run_ru {M : Mo} {L : List Nat} {v v' : VS} {w : List IM} (r : Ru M L v w v') : ∀ rest : List IM,VS.run M L ((w ++ rest).map IM.i) v = VS.run M L (rest.map IM.i) v' := by
  induction r with
  | nil => intro rest; rfl
  | @snoc w v1 v2 x r h ok ih =>
    intro rest
    rw [List.append_assoc,ih ([x] ++ rest)]
    show VS.run M L (x.i :: rest.map IM.i) v1 = _
    unfold VS.run
    rw [h]
    rw [if_neg (by rw [ok.bad]; simp),if_neg ok.ne]
    cases rest <;> rfl
theorem run_end {M : Mo} {L rs : List Nat} : VS.run M L [Ky.i] ((VS.start rs).push rs) = true := by
  have ok0 : Okv (VS.start rs) := start_okv rs
  have hc : ((VS.start rs).push rs).closes = (⟨2,[],rs,0,false⟩,⟨[],[],false⟩) := by
    unfold VS.closes
    have e : ((VS.start rs).push rs).top = ⟨2,[],rs,0,false⟩ := rfl
    rw [e]
    simp only [VS.take_push ok0]
    rfl
  have h1 : ((VS.start rs).push rs).one M L Ky.i = ⟨[],[],false⟩ := VS.one_c (by
    show ((VS.start rs).push rs).control M ⟨11,0,0,0,[],0⟩ = _
    simp only [VS.control]
    show some ((VS.start rs).push rs).ends = _
    unfold VS.ends
    rw [hc]
    rfl)
  unfold VS.run
  rw [h1]; rfl
theorem body_ru {M : Mo} {L rs : List Nat} {w : List IM} (r : Ru M L (VS.start rs) w ((VS.start rs).push rs)) : VS.body M L rs ((w ++ [Ky]).map IM.i) = true := by
  unfold VS.body
  rw [run_ru r [Ky]]
  exact run_end
theorem Uo {h : Heap} {id ez sz n c : Nat} {l : List Value} (g : At h id (.cells l ez false)) (hl : l.length = n * sz) (he : ez = sz) : SlA h sz (some ⟨id,0,none⟩) n c l := by
  subst he; exact (OwS.new g hl).sl
theorem Lay.ext0 {h h' : Heap} {d : LD} (q : Lay h d) (x : Xe h h') : Lay h' d :=
  ⟨q.st.ext x,(q.tys.ext x fun _ _ r => r).mono fun i r => Nat.lt_of_lt_of_le r x.next,q.sf.ext x,q.f6,q.f0,q.f3,q.gt.ext x,q.th,q.gm.ext x,q.mv,q.gg.ext x,q.g0.ext x,q.g1.ext x,q.se.ext x,q.ex,q.ge.ext x,q.go.ext x,q.si.ext x,(q.ii.ext x fun _ _ r => r).mono fun i _ r => Nat.lt_of_lt_of_le r x.next,(q.gd.ext x (fun _ _ r => r) fun r => r).mono fun i _ r => Nat.lt_of_lt_of_le r x.next,q.sc.ext x,(q.cd.ext x fun _ _ r => r).mono fun i r => Nat.lt_of_lt_of_le r x.next⟩
section
variable {h : Heap} {d : LD}
theorem Lay.mm (q : Lay h d) : MM (mkM d.fs) := mkM_mm fun x hx => (q.f6 x hx).2
end

end
end Go.Dx.SYtpkefdoleieloaa
