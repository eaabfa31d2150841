/- Texts merged: Vd1.lean, Vd2.lean. -/
import Derived.Test.YtpkefdoleieloaaSvc
import Derived.Test.YtpkefdoleieloaaDy31
namespace Go.Dx.SYtpkefdoleieloaa
open Go.Proofs
set_option linter.unusedVariables false
set_option linter.unusedSimpArgs false
section
/- val's checker: moves, one instruction. -/
namespace VS
def Ol (s s' : VS) : Prop := s'.op.length ≤ s.op.length + 1
theorem Kp.ol {s s' : VS} (k : Kp s s') : Ol s s' := by unfold Ol; rw [k.op]; omega
theorem rests_ol {s : VS} (h : s.op ≠ []) : s.rests.op.length = s.op.length := by
  have := List.length_pos_iff.2 h
  simp [rests]
  omega
theorem closes_ol (s : VS) : s.closes.2.op.length ≤ s.op.length := by
  show (s.take s.top.to).2.op.dropLast.length ≤ _
  rw [(take_kp s.top.to s).op,List.length_dropLast]; omega
theorem Kp.rests_ol {s s' : VS} (k : Kp s s') (h : s.op ≠ []) : Ol s s'.rests := by
  unfold Ol; rw [VS.rests_ol (k.ne h),k.op]; omega
theorem control_ol {M : Mo} (x : Ins) {s r : VS} (h : s.op ≠ []) (hr : s.control M x = some r) : Ol s r := by
  unfold control at hr
  by_cases c : x.op = 0
  · rw [if_pos c] at hr; cases hr; exact (Kp.refl s).rests_ol h
  rw [if_neg c] at hr
  by_cases c : x.op = 1
  · rw [if_pos c] at hr; cases hr; exact (Kp.refl _).ol
  rw [if_neg c] at hr
  by_cases c : x.op = 2 ∨ x.op = 3 ∨ x.op = 4
  · rw [if_pos c] at hr; cases hr
    unfold blk
    have k1 : Kp s (if x.op = 4 then (s.want 127).2 else s) := by
      split
      · exact want_kp _ _
      · exact Kp.refl _
    have k2 := k1.trans (signature_kp M x.t _)
    have k3 := k2.trans (take_kp ((if x.op = 4 then (s.want 127).2 else s).signature M x.t).1.1 _)
    unfold Ol
    simp only [opens,List.length_append,List.length_singleton]
    rw [k3.op]; omega
  rw [if_neg c] at hr
  by_cases c : x.op = 5
  · rw [if_pos c] at hr; cases hr
    have := closes_ol s
    unfold Ol els opens fails
    simp only [List.length_append,List.length_singleton]
    omega
  rw [if_neg c] at hr
  by_cases c : x.op = 11
  · rw [if_pos c] at hr; cases hr
    have := closes_ol s
    unfold Ol ends
    simp only
    split
    · simp only [fails]; omega
    · simp only [fails,push]; omega
  rw [if_neg c] at hr
  by_cases c : x.op = 12
  · rw [if_pos c] at hr; cases hr; exact ((label_kp _ _).trans (take_kp _ _)).rests_ol h
  rw [if_neg c] at hr
  by_cases c : x.op = 13
  · rw [if_pos c] at hr; cases hr; exact (((want_kp _ _).trans (label_kp _ _)).trans (Vl _ _ _)).ol
  rw [if_neg c] at hr
  by_cases c : x.op = 14
  · rw [if_pos c] at hr; cases hr
    unfold branches
    exact ((((want_kp 127 s).trans (label_kp _ _)).trans (branchesL_kp _ _ _)).trans (take_kp _ _)).rests_ol h
  rw [if_neg c] at hr
  by_cases c : x.op = 15
  · rw [if_pos c] at hr; cases hr; exact (take_kp _ _).rests_ol h
  rw [if_neg c] at hr
  by_cases c : x.op = 16
  · rw [if_pos c] at hr; cases hr; exact (calls_kp _ _ _).ol
  rw [if_neg c] at hr
  by_cases c : x.op = 17
  · rw [if_pos c] at hr; cases hr; exact (callI_kp _ _ _).ol
  rw [if_neg c] at hr
  cases hr
theorem one_ol {M : Mo} (L : List Nat) (x : Ins) {s : VS} (h : s.op ≠ []) : Ol s (s.one M L x) := by
  unfold one
  split
  · rename_i r hr; exact control_ol x h hr
  split
  · rename_i r hr; exact (places_kp M L x hr).ol
  split
  · rename_i r hr; exact (bulk_kp M x hr).ol
  split
  · exact (moves_kp M x s).ol
  · exact ((fails_kp _ _).trans (Vl _ _ _)).ol
end VS
theorem and31 : ∀ a : Nat,a < 32 → IntKind.wrap .u32 ((BitVec.ofInt 32 (a : Int) &&& BitVec.ofInt 32 31).toNat) = ((a % 32 : Nat) : Int) := by decide
theorem shl1 : ∀ a : Nat,a < 32 → IntKind.wrap .i64 (1 * 2 ^ (min a 64)) = ((2 ^ a : Nat) : Int) := by decide
section
variable {K : VK} {M : Mo} {mc : List Value} {h : Heap} {O : Nat → Prop} {s : VS}
set_option maxHeartbeats 1000000 in
theorem C98 {x : IM} (X : Ck K h O s) (Y : MoX h O K.pm M mc) (wf : VS.Wf s) (hne : s.op ≠ []) (hl : s.l.length ≤ 900000000) (ho : s.op.length ≤ 1000000) (ok : x.i.Ok) (hop : x.i.op ∈ Uh) :
    Fn Try.prog 98 [ptr K.p,.agg ⟨x.enc⟩] h fun v h' => Vg K h O h' (s.moves M x.i) := by
  refine fnK F98.fok rfl ?_
  refine Wi (Xp (cs := x.enc) rfl rfl fun h0 n0 x0 g0 => Wh [(0,_),(3,_)] rfl ?_)
  have R0 := Rn.start X Y wf hl ho x0 n0 g0
  refine Wi (Wa rfl rfl (Wc rfl (R0.memory hne) ?_))
  rintro _ h1 ⟨O1,R1,t1⟩
  have k1 := VS.memory_kp M s
  refine Wh [(0,_),(3,_)] rfl ?_
  unfold VS.moves
  dsimp only
  refine Ww (fun e' h' => e' = [(0,ptr K.p),(3,ptr h.next)] ∧ ∃ O',Rn K M mc h O h.next x.enc 900000000 h' O' ((s.memory M).fails (decide (x.i.a > 31 ∨ 2 ^ (x.i.a % 32) > VS.width x.i.op)))) ?_ ?_
  · refine Wk (Wa rfl rfl (Wa rfl rfl (We (v := .int .u32 (x.i.a : Int)) rfl R1.g rfl (Wg (w := .bool (decide (x.i.a > 31))) rfl rfl (by congr 1; rw [Bool.eq_iff_iff]; simp; omega) (Wa rfl rfl ?_)))))
    by_cases ca : x.i.a > 31
    · rw [decide_eq_true ca]
      refine Wb rfl (Wb rfl (Wb rfl (Wb rfl (Wb rfl (Wb rfl (Wb rfl (Wb rfl (Wb rfl ?_))))))))
      refine Wg (w := .bool (decide (x.i.a > 31 ∨ 2 ^ (x.i.a % 32) > VS.width x.i.op))) rfl rfl (by simp [ca]) (Wc rfl R1.fails ?_)
      rintro _ h2 ⟨O2,R2,t2⟩
      exact Wj [(0,_),(3,_)] rfl ⟨rfl,O2,R2⟩
    · rw [decide_eq_false ca]
      have h32 : x.i.a < 32 := by omega
      refine Wd rfl (Wa rfl rfl (Wd rfl (We (v := .int .u32 (x.i.a : Int)) rfl R1.g rfl (Wd rfl (Wg (w := .int .u32 ((x.i.a % 32 : Nat) : Int)) rfl rfl (by rw [← and31 _ h32]; rfl) (Wd rfl (Wg (w := .int .i64 ((2 ^ (x.i.a % 32) : Nat) : Int)) rfl rfl ?_ ?_)))))))
      · rw [← shl1 (x.i.a % 32) (by omega)]; rfl
      refine Wd rfl (Wa rfl rfl (Wd rfl (We (v := .int .i64 x.i.op) rfl R1.g rfl (Wd rfl (Wc rfl (C97 (.inl hop)) ?_)))))
      rintro _ _ ⟨rfl,rfl⟩
      refine Wd rfl (Vi (v := .int .u32 (x.i.a : Int)) rfl rfl R1.g rfl (by simp [Yh,Yx]) ?_)
      refine Wd rfl (Wa rfl rfl (Wg (w := .bool (decide (x.i.a > 31 ∨ 2 ^ (x.i.a % 32) > VS.width x.i.op))) rfl rfl ?_ (Wc rfl R1.fails ?_)))
      · show Value.bool (decide (((2 ^ (x.i.a % 32) : Nat) : Int) > ((VS.width x.i.op : Nat) : Int))) = _
        congr 1
        rw [Bool.eq_iff_iff,decide_eq_true_eq,decide_eq_true_eq]
        omega
      rintro _ h2 ⟨O2,R2,t2⟩
      exact Wj [(0,_),(3,_)] rfl ⟨rfl,O2,R2⟩
  rintro _ h2 ⟨rfl,O2,R2⟩
  have k2 := k1.trans (VS.fails_kp (decide (x.i.a > 31 ∨ 2 ^ (x.i.a % 32) > VS.width x.i.op)) (s.memory M))
  generalize hs2 : (s.memory M).fails (decide (x.i.a > 31 ∨ 2 ^ (x.i.a % 32) > VS.width x.i.op)) = s2 at R2 k2
  refine Wi (Wa rfl rfl (Wh [(0,_),(3,_),(4,_)] rfl ?_))
  refine Ww (fun e' h' => (∃ w,e' = (0,ptr K.p) :: (3,ptr h.next) :: (4,.int .u8 ((if VS.wide x.i.op = true then 126 else 127 : Nat) : Int)) :: w) ∧ h2 = h') ?_ ?_
  · refine Wi (Wa rfl rfl (We (v := .int .i64 x.i.op) rfl R2.g rfl (Wc rfl (C152 hop) ?_)))
    rintro _ _ ⟨rfl,rfl⟩
    refine Wh [(0,_),(3,_),(4,_),(24,_)] rfl ?_
    refine Wn rfl (fun hc => ?_) (fun hc => ?_)
    · refine Wk (Wa rfl rfl (Wj [(0,_),(3,_),(4,_)] rfl ?_))
      rw [if_pos hc]
      exact ⟨⟨[],rfl⟩,rfl⟩
    · refine Ye ?_
      rw [if_neg (by rw [hc]; simp)]
      exact ⟨⟨_,rfl⟩,rfl⟩
  rintro _ _ ⟨⟨w,rfl⟩,rfl⟩
  generalize ht : (if VS.wide x.i.op = true then 126 else 127 : Nat) = t
  refine Xd (Wi (Wa rfl rfl (We (v := .int .i64 x.i.op) rfl R2.g rfl (Wg (w := .bool (decide (x.i.op ≥ 54))) rfl rfl (by congr 1) (Wh [(0,_),(4,_),(27,_)] rfl ?_)))))
  refine Wp rfl (fun hc => ?_) (fun hc => ?_)
  · have c := of_decide_eq_true hc
    rw [if_pos c]
    refine Xd (Wi (Wa rfl rfl (Wa rfl rfl (Wl rfl rfl fun h3 n3 x3 g3 => ?_))))
    have sl3 : SlA h3 1 (some ⟨h2.next,0,none⟩) 2 1 (bys [127,t]) := SlA.mk' (n := 2) (c := 1) (sz := 1) (off := 0) g3 (Nat.le_refl 2) (.inr (.inr rfl))
    have f3 : Stl h3 O2 (some ⟨h2.next,0,none⟩) 2 1 [127,t] := ⟨sl3,fun i q => by rw [Blk.at] at q; subst q; exact ⟨by omega,fun q => by have := R2.olt _ q; omega⟩⟩
    obtain ⟨R3,t3⟩ := R2.ext0 x3
    refine Wc rfl (R3.take (k2.ne hne) f3 (by decide)) ?_
    rintro _ h4 ⟨ra,rc,O4,rfl,sr,R4,t4⟩
    refine Wh [] rfl ?_
    exact Xo (Wx.mk [] rfl R4.done)
  · have c : ¬ x.i.op ≥ 54 := of_decide_eq_false hc
    rw [if_neg c]
    refine Wt (Wi (Wa rfl rfl (Wc rfl (R2.want (t := 127) (k2.ne hne)) ?_)))
    rintro _ h3 ⟨rfl,O3,R3,t3⟩
    have k3 := k2.trans (VS.want_kp 127 s2)
    refine Wh [(0,_),(4,_)] rfl ?_
    refine Wk (Wa rfl rfl (Wa rfl rfl (Wa rfl rfl (Wa rfl rfl (Wl rfl rfl fun h4 n4 x4 g4 => ?_)))))
    have sl4 : SlA h4 1 (some ⟨h3.next,0,none⟩) 1 1 (bys [t]) := SlA.mk' (n := 1) (c := 1) (sz := 1) (off := 0) g4 (Nat.le_refl 1) (.inr (.inr rfl))
    obtain ⟨R4,t4⟩ := R3.ext0 x4
    refine Wc rfl (R4.push (k3.ne hne) sl4 (by decide) (by omega)) ?_
    rintro _ h5 ⟨O5,R5,t5⟩
    exact Wj [] rfl (Wx.mk [] rfl R5.done)
def opsC : List Int := [0,1,2,3,4,5,11,12,13,14,15,16,17,26,27,28,32,33,34,35,36,65,66,208,209,210,37,38,63,64,64520,64521,64522,64523,64524,64525,64526,64527,64528,64529]
def Ins.Kn (x : Ins) : Prop := x.op ∈ opsC ∨ x.op ∈ Uh ∨ x.op ∈ Ki
theorem opsM_w : ∀ op ∈ Uh,0 < VS.width op := by decide
theorem opsN_w : ∀ op ∈ Ki,¬ 0 < VS.width op := by decide
theorem Ins.Kn.of {x : Ins} (k : x.Kn) (L : List Nat) (h1 : s.control M x = none) (h2 : s.places M L x = none) (h3 : s.bulk M x = none) : x.op ∈ Uh ∨ x.op ∈ Ki := by
  refine k.elim (fun q => ?_) id
  exfalso
  unfold VS.control at h1
  unfold VS.places at h2
  unfold VS.bulk at h3
  simp only [opsC,List.mem_cons,List.mem_nil_iff,or_false] at q
  rcases q with q | q | q | q | q | q | q | q | q | q | q | q | q | q | q | q | q | q | q | q | q | q | q | q | q | q | q | q | q | q | q | q | q | q | q | q | q | q | q | q <;> simp [q] at h1 h2 h3
set_option maxHeartbeats 1000000 in
theorem C59 {x : IM} (X : Ck K h O s) (Y : MoX h O K.pm M mc) (wf : VS.Wf s) (hne : s.op ≠ []) (hl : s.l.length ≤ 900000000) (ho : s.op.length ≤ 1000000) (z : VS.LP VS.short s) (ok : x.i.Ok) (kn : x.i.Kn) (sL : SlA h 1 x.la x.i.l.length x.lc (Up x.i.l)) (bL : ∀ i,Blk x.la i → i < h.next ∧ ¬ O i) (hL : K.L.length ≤ 1000000) :
    Fn Try.prog 59 [ptr K.p,.agg ⟨x.enc⟩] h fun v h' => Vg K h O h' (s.one M K.L x.i) := by
  refine fnK F59.fok rfl ?_
  refine Wi (Xp (cs := x.enc) rfl rfl fun h0 n0 x0 g0 => Wh [(0,_),(3,_)] rfl ?_)
  have R0 := Rn.start X Y wf hl ho x0 n0 g0
  have sL0 := sL.ext x0
  have bL0 : ∀ i,Blk x.la i → i < h0.next ∧ ¬ O i := fun i q => ⟨by have := (bL i q).1; omega,(bL i q).2⟩
  unfold VS.one
  have done : ∀ {r : VS} {e' : Env} {h1 : Heap} {Q : Kn},Vg K h0 O h1 r → (∀ e2,Wx F59.res (fun v h' => Vg K h O h' r) e2 h1) := fun {r e' h1 Q} q e2 => Wx.mk [] rfl (Vg.trans R0.T q)
  refine Xd (Wi (Wa rfl rfl (Xh (l := x.enc) rfl R0.g (Nat.le_refl 6) rfl (Wc rfl (C94 R0.X R0.Y wf hne hl ho ok sL0 bL0 z) ?_))))
  rintro v1 h1 q1
  unfold Sw at q1
  cases hr1 : s.control M x.i with
  | some r =>
    rw [hr1] at q1
    obtain ⟨rfl,g1⟩ := q1
    refine Wa rfl rfl (Wb rfl (Wb rfl (Wb rfl (Wa rfl rfl (Wa rfl rfl (Wb rfl (Wb rfl (Wb rfl (Wa rfl rfl (Wh [(0,_),(3,_),(18,_)] rfl ?_))))))))))
    refine Wp rfl (fun hc => ?_) (fun hc => by cases hc)
    exact Xo (Wx.mk [] rfl (Vg.trans R0.T g1))
  | none =>
    rw [hr1] at q1
    obtain ⟨rfl,O1,X1,t1⟩ := q1
    have R1 := R0.go X1 t1 wf hl (by decide) ho
    refine Wa rfl rfl (Wd rfl (Wa rfl rfl (Wd rfl (Xh (l := x.enc) rfl R1.g (Nat.le_refl 6) rfl (Wd rfl (Wc rfl (C95 R1.X R1.Y wf hne hl ho ok (sL0.ext t1.t.ext fun i q => (bL0 i q).2) (fun i q => Ya t1.t (bL0 i q)) hL) ?_))))))
    rintro v2 h2 q2
    unfold Sw at q2
    dsimp only
    cases hr2 : s.places M K.L x.i with
    | some r =>
      rw [hr2] at q2
      obtain ⟨rfl,g2⟩ := q2
      refine Wa rfl rfl (Wa rfl rfl (Wb rfl (Wb rfl (Wb rfl (Wa rfl rfl (Wh [(0,_),(3,_),(18,_)] rfl ?_))))))
      refine Wp rfl (fun hc => ?_) (fun hc => by cases hc)
      exact Xo (Wx.mk [] rfl (Vg.trans R1.T g2))
    | none =>
      rw [hr2] at q2
      obtain ⟨rfl,O2,X2,t2⟩ := q2
      have R2 := R1.go X2 t2 wf hl (by decide) ho
      have t02 := t1.trans t2
      refine Wa rfl rfl (Wa rfl rfl (Wd rfl (Wa rfl rfl (Wd rfl (Xh (l := x.enc) rfl R2.g (Nat.le_refl 6) rfl (Wd rfl (Wc rfl (C96 R2.X R2.Y wf hne hl ho ok (sL0.ext t02.t.ext fun i q => (bL0 i q).2) (fun i q => Ya t02.t (bL0 i q))) ?_)))))))
      rintro v3 h3 q3
      unfold Sw at q3
      dsimp only
      cases hr3 : s.bulk M x.i with
      | some r =>
        rw [hr3] at q3
        obtain ⟨rfl,g3⟩ := q3
        refine Wa rfl rfl (Wh [(0,_),(3,_),(18,_)] rfl ?_)
        refine Wp rfl (fun hc => ?_) (fun hc => by cases hc)
        exact Xo (Wx.mk [] rfl (Vg.trans R2.T g3))
      | none =>
        rw [hr3] at q3
        obtain ⟨rfl,O3,X3,t3⟩ := q3
        have R3 := R2.go X3 t3 wf hl (by decide) ho
        have kk := kn.of K.L hr1 hr2 hr3
        dsimp only
        refine Wa rfl rfl (Wh [(0,_),(3,_),(18,_)] rfl ?_)
        refine Wp rfl (fun hc => by cases hc) (fun hc => Wt ?_)
        refine Xd (Wi (Wa rfl rfl (We (v := .int .i64 x.i.op) rfl R3.g rfl (Wc rfl (C97 kk) ?_))))
        rintro _ _ ⟨rfl,rfl⟩
        refine Wg (w := .bool (decide (VS.width x.i.op > 0))) rfl rfl (by congr 1; rw [Bool.eq_iff_iff]; simp) (Wh [(0,_),(3,_),(22,_)] rfl ?_)
        refine Wp rfl (fun hc => ?_) (fun hc => ?_)
        · have c := of_decide_eq_true hc
          have hM : x.i.op ∈ Uh := kk.elim id fun q => absurd c (opsN_w _ q)
          refine Xd (Wi (Wa rfl rfl (Xh (l := x.enc) rfl R3.g (Nat.le_refl 6) rfl (Wc rfl (C98 R3.X R3.Y wf hne hl ho ok hM) ?_))))
          rintro _ h4 g4
          refine Wh [] rfl ?_
          rw [if_pos c]
          exact Xo (Wx.mk [] rfl (Vg.trans R3.T g4))
        · have c : ¬ VS.width x.i.op > 0 := of_decide_eq_false hc
          have hN : x.i.op ∈ Ki := kk.elim (fun q => absurd (opsM_w _ q) c) id
          rw [if_neg c]
          refine Wt (Wi (Wa rfl rfl (We (v := .int .i64 x.i.op) rfl R3.g rfl (Wc rfl (C99 hN) ?_))))
          rintro _ h4 ⟨rfl,x4,g4⟩
          obtain ⟨R4,t4⟩ := R3.ext0 x4
          have hn2 : (VS.numbers x.i.op).1.length ≤ 2 := by
            unfold VS.numbers
            repeat' split
            all_goals decide
          have sl4 : SlA h4 1 (some ⟨h3.next,0,none⟩) (VS.numbers x.i.op).1.length 1 (bys (VS.numbers x.i.op).1) := by
            have := SlA.mk' (n := (VS.numbers x.i.op).1.length) (c := 1) (sz := 1) (off := 0) g4 (by simp) (.inr (.inr rfl))
            rw [List.drop_zero,Nat.mul_one,List.take_of_length_le (by simp)] at this
            exact this
          have f4 : Stl h4 O3 (some ⟨h3.next,0,none⟩) (VS.numbers x.i.op).1.length 1 (VS.numbers x.i.op).1 := ⟨sl4,fun i q => by rw [Blk.at] at q; subst q; exact ⟨by have := g4.lt; omega,fun q => by have := R3.olt _ q; omega⟩⟩
          refine Wa rfl rfl (Wa rfl rfl (Wa rfl rfl (Wa rfl rfl (Wa rfl rfl (Wh [(0,_),(4,_),(5,_)] rfl ?_)))))
          refine Wi (Wa rfl rfl (Wa rfl rfl (Wg (w := .bool (decide ((VS.numbers x.i.op).2 = 0))) rfl rfl (by congr 1; rw [Bool.eq_iff_iff]; simp) (Wc rfl R4.fails ?_))))
          rintro _ h5 ⟨O5,R5,t5⟩
          have k5 := VS.fails_kp (decide ((VS.numbers x.i.op).2 = 0)) s
          refine Wh [(0,_),(4,_),(5,_)] rfl ?_
          refine Wi (Wa rfl rfl (Wa rfl rfl (Wc rfl (R5.take (k5.ne hne) (f4.turn t5.t) (by omega)) ?_)))
          rintro _ h6 ⟨ra,rc,O6,rfl,sr,R6,t6⟩
          refine Wh [(0,_),(5,_)] rfl ?_
          refine Wk (Wa rfl rfl (Wa rfl rfl (Wa rfl rfl (Wa rfl rfl (Wl rfl rfl fun h7 n7 x7 g7 => ?_)))))
          have sl7 : SlA h7 1 (some ⟨h6.next,0,none⟩) 1 1 (bys [(VS.numbers x.i.op).2]) := SlA.mk' (n := 1) (c := 1) (sz := 1) (off := 0) g7 (Nat.le_refl 1) (.inr (.inr rfl))
          obtain ⟨R7,t7⟩ := R6.ext0 x7
          refine Wc rfl (R7.push ((k5.trans (VS.take_kp _ _)).ne hne) sl7 (by decide) (by omega)) ?_
          rintro _ h8 ⟨O8,R8,t8⟩
          exact Wj [] rfl (Wx.mk [] rfl R8.done)
end

end
section
/- val's checker: a body. -/
theorem C92 {h : Heap} {m : Nat} (hb : m ≤ 1073741824) : Fn Try.prog 92 [.slice none 0 0,.int .i64 m] h fun v h' => ∃ a' c',v = .slice a' 0 c' ∧ OwS h' 1 a' 0 c' [] ∧ Xk h h' ∧ ∀ i,Blk a' i → h.next ≤ i := by
  refine fnK F92.fok rfl ?_
  refine Wi (Wa rfl rfl (Wh [(0,_),(1,_)] rfl (?_)))
  refine Xd (Wi (Wa rfl rfl (Wa rfl rfl (Wh [(0,_),(1,_),(6,_)] rfl (?_)))))
  refine Wp rfl (fun hc => ?_) (fun hc => ?_)
  · have := of_decide_eq_true hc; omega
  refine Wt (Xd (Wi (Wa rfl rfl (Wa rfl rfl (Wa rfl rfl (Wa rfl rfl (Wa rfl rfl (Wa rfl rfl (Wg (w := .int .i64 m) rfl rfl (by
    have h1 : IntKind.wrap .i64 (((0 : Nat) : Int) - ((0 : Nat) : Int)) = 0 := rfl
    show Value.int .i64 (IntKind.wrap .i64 ((m : Int) - IntKind.wrap .i64 (((0 : Nat) : Int) - ((0 : Nat) : Int)))) = _
    rw [h1,w64 (by omega)]; simp) (Wa rfl rfl (Wh [(0,_),(1,_)] rfl (?_))))))))))))
  refine Xd (Wi (Wa rfl rfl (Wa rfl rfl (Wh [(0,_),(1,_),(16,_)] rfl (?_)))))
  refine Wp rfl (fun hc => ?_) (fun hc => ?_)
  · refine Wi (Wa rfl rfl (Wa rfl rfl (Wa rfl rfl (Zr rfl rfl rfl rfl (Yy (i := 0) (by omega)) ?_))))
    refine Wa rfl rfl (Wops_appZ (m := m) rfl rfl (OwS.none (sz := 1)) ⟨by omega,by omega⟩ rfl rfl (by decide) fun h1 a1 c1 x1 o1 b1 => ?_)
    refine Wa rfl rfl (Wa rfl rfl (Zr rfl rfl rfl o1.sl.ok (Yy (i := 0) (by omega)) ?_))
    refine Wa rfl rfl (Wh [(0,_)] rfl (?_))
    have o2 := o1.sub (i := 0) (j := 0) (by omega) (by omega)
    refine Wi (Wa rfl rfl (Wa rfl rfl (Wh [(4,_)] rfl (?_))))
    refine Xn (Wx.mk _ rfl ⟨shift a1 (0 * 1),c1,rfl,by simpa using o2,x1.mono fun i _ r => absurd r Blk.none,fun i r => ?_⟩)
    exact (b1 i (shift_blk.1 r)).elim (fun r => absurd r Blk.none) id
  · refine Wt (Wi (Wa rfl rfl (Wa rfl rfl (Wh [(4,_)] rfl (?_)))))
    exact Xn (Wx.mk _ rfl ⟨none,0,rfl,OwS.none,Ext.refl _ _,fun i r => absurd r Blk.none⟩)
theorem C57 {h : Heap} {a : Option Addr} {n c : Nat} {vs : List Value} {fs : List (List Nat)} (s : SlA h 1 a n c vs) (hfn : fs.length = n) (b : ∀ i (hi : i < fs.length),∃ ai ci,vs[i]? = some (.slice ai fs[i].length ci) ∧ SlA h 1 ai fs[i].length ci (bys fs[i])) (hn : n ≤ 1000) (hb : ∀ f ∈ fs,f.length ≤ 1000000) :
    Fn Try.prog 57 [.slice a n c] h fun v h' => ∃ a' c',v = .slice a' fs.flatten.length c' ∧ OwS h' 1 a' fs.flatten.length c' (bys fs.flatten) ∧ Xk h h' ∧ ∀ i,Blk a' i → h.next ≤ i := by
  have hsum : ∀ i,i ≤ n → (fs.take i).flatten.length ≤ i * 1000000 := by
    intro i
    induction i with
    | zero => intro _; simp
    | succ i ih =>
      intro hi
      rw [List.take_add_one,List.getElem?_eq_getElem (by omega),Option.toList_some,List.flatten_append,List.length_append]
      have := ih (by omega)
      have := hb fs[i] (List.getElem_mem _)
      simp only [List.flatten_cons,List.flatten_nil,List.append_nil]; omega
  refine fnK F57.fok rfl ?_
  refine Wi (Wa rfl rfl (Wh [(0,_)] rfl (?_)))
  refine Wi (Wa rfl rfl (Wh [(0,_),(3,_)] rfl (?_)))
  refine Xd (Wi (Wa rfl rfl (Wa rfl rfl (Wa rfl rfl (Wh [(0,_),(3,_),(9,_),(10,_),(11,_)] rfl (?_))))))
  refine Xa ?_
  refine Ym (fun k e h' => ∃ i : Nat,e = [(0,.slice a n c),(3,.int .i64 ((fs.take i).flatten.length : Nat)),(9,.slice a n c),(10,.int .i64 n),(11,.int .i64 i)] ∧ h = h' ∧ i ≤ n ∧ k = n - i) ?_ (k := n) ⟨0,rfl,rfl,by omega,rfl⟩
  rintro k e h' ⟨i,rfl,rfl,hi,rfl⟩
  have hsi := hsum i hi
  refine Wi (Wa rfl rfl (Wh [(0,_),(3,_),(9,_),(10,_),(11,_),(12,_)] rfl (?_)))
  refine Wp rfl (fun hc => ?_) (fun hc => ?_)
  · have hlt : i < n := by have := of_decide_eq_true hc; omega
    obtain ⟨ai,ci,hv,si⟩ := b i (by omega)
    have hbi := hb fs[i] (List.getElem_mem _)
    have hnext : ((fs.take (i + 1)).flatten.length : Nat) = (fs.take i).flatten.length + fs[i].length := by
      rw [List.take_add_one,List.getElem?_eq_getElem (by omega),Option.toList_some,List.flatten_append,List.length_append]; simp
    refine Wt (Xa ?_)
    refine Wi (Xm (u := .slice ai fs[i].length ci) rfl rfl s ⟨by omega,by omega⟩ (by simpa using hv) fun p => ?_)
    refine Wa rfl rfl (Wh [(0,_),(3,_),(5,_),(9,_),(10,_),(11,_)] rfl (?_))
    refine Wi (Wa rfl rfl (Wa rfl rfl (Wa rfl rfl (Wg (w := .int .i64 ((fs.take (i + 1)).flatten.length : Nat)) rfl rfl (by rw [w64 (by omega),hnext]; simp) (Wa rfl rfl (Wh [(0,_),(3,_),(9,_),(10,_),(11,_)] rfl (?_)))))))
    refine Wi (Wa rfl rfl (Wa rfl rfl (Wh [(0,_),(3,_),(9,_),(10,_),(11,_),(20,_)] rfl (?_))))
    refine Wn rfl (fun hc => by have := of_decide_eq_true hc; omega) (fun _ => ?_)
    refine Ye (Wk (Wa rfl rfl (Wa rfl rfl (Wj [(0,_),(3,_),(9,_),(10,_),(11,_)] rfl (?_)))))
    exact ⟨n - (i + 1),by omega,i + 1,by rw [Ju (by omega)],rfl,by omega,rfl⟩
  · have hin : i = n := by have := of_decide_eq_false hc; omega
    have htk : fs.take i = fs := List.take_of_length_le (by omega)
    rw [htk] at hsi ⊢
    refine Xv (Xu ?_)
    refine Wi (Wa rfl rfl (Wc rfl (C92 (m := fs.flatten.length) (by omega)) ?_))
    rintro _ h1 ⟨a1,c1,rfl,o1,x1,b1⟩
    refine Wa rfl rfl (Wh [(0,_),(6,_)] rfl (?_))
    refine Xd (Wi (Wa rfl rfl (Wa rfl rfl (Wa rfl rfl (Wh [(6,_),(25,_),(26,_),(27,_)] rfl (?_))))))
    refine Xa ?_
    refine Ym (fun k e h' => ∃ (i : Nat) (a6 : Option Addr) (c6 : Nat),e = [(6,.slice a6 (fs.take i).flatten.length c6),(25,.slice a n c),(26,.int .i64 n),(27,.int .i64 i)] ∧ i ≤ n ∧ k = n - i ∧ OwS h' 1 a6 (fs.take i).flatten.length c6 (bys (fs.take i).flatten) ∧ Xk h h' ∧ ∀ i,Blk a6 i → h.next ≤ i) ?_ (k := n) ⟨0,a1,c1,rfl,by omega,rfl,o1,x1,b1⟩
    clear o1 x1 b1
    rintro k e h2 ⟨i,a6,c6,rfl,hi,rfl,o6,x6,b6⟩
    have hsi := hsum i hi
    refine Wi (Wa rfl rfl (Wh [(6,_),(25,_),(26,_),(27,_),(28,_)] rfl (?_)))
    refine Wp rfl (fun hc => ?_) (fun hc => ?_)
    · have hlt : i < n := by have := of_decide_eq_true hc; omega
      obtain ⟨ai,ci,hv,si⟩ := b i (by omega)
      have hbi := hb fs[i] (List.getElem_mem _)
      have htk1 : (fs.take (i + 1)).flatten = (fs.take i).flatten ++ fs[i] := by
        rw [List.take_add_one,List.getElem?_eq_getElem (by omega),Option.toList_some,List.flatten_append]; simp
      refine Wt (Xa ?_)
      refine Wi (Xm (u := .slice ai fs[i].length ci) rfl rfl (s.ext x6) ⟨by omega,by omega⟩ (by simpa using hv) fun p => ?_)
      refine Wa rfl rfl (Wh [(6,_),(8,_),(25,_),(26,_),(27,_)] rfl (?_))
      refine Wk (Wa rfl rfl (Wa rfl rfl (Zf rfl rfl o6 rfl (si.ext x6).first ⟨by omega,by omega⟩ (by simp) (Vy _) (by decide) fun h3 a3 c3 x3 o3 b3 => ?_)))
      refine Wa rfl rfl (Wj [(6,_),(25,_),(26,_),(27,_)] rfl (?_))
      refine Wk (Wa rfl rfl (Wa rfl rfl (Wj [(6,_),(25,_),(26,_),(27,_)] rfl (?_))))
      have hl : (fs.take i).flatten.length + fs[i].length = (fs.take (i + 1)).flatten.length := by rw [htk1,List.length_append]
      refine ⟨n - (i + 1),by omega,i + 1,a3,c3,by rw [Ju (by omega),hl],by omega,rfl,?_,x6.then x3 fun i r => .inr (b6 i r),fun i r => (b3 i r).elim (b6 i) fun q => Nat.le_trans x6.next q⟩
      rw [← hl,htk1,bys_app]; exact o3
    · have hin : i = n := by have := of_decide_eq_false hc; omega
      have htk : fs.take i = fs := List.take_of_length_le (by omega)
      rw [htk] at o6
      refine Xv (Xu ?_)
      refine Wi (Wa rfl rfl (Wa rfl rfl (Wh [(2,_)] rfl (?_))))
      exact Xn (Wx.mk _ rfl ⟨a6,c6,by rw [htk]; rfl,o6,x6,b6⟩)
theorem IM.enc_len (x : IM) : x.enc.length = 6 := rfl
def MoY (h : Heap) (M : Mo) (mc : List Value) : Prop := ∀ (h1 : Heap) (O : Nat → Prop) (pm : Nat),h.next ≤ h1.next → (∀ i,i < h.next → h1.get i = h.get i) → (∀ i,O i → h.next ≤ i) → At h1 pm (.cells mc 0 false) → ¬ O pm → MoX h1 O pm M mc
def IM.Lies (h : Heap) (x : IM) : Prop := SlA h 1 x.la x.i.l.length x.lc (Up x.i.l) ∧ (∀ i,Blk x.la i → i < h.next) ∧ x.i.Ok ∧ x.i.Kn
set_option maxHeartbeats 1000000 in
theorem C16 {h : Heap} {mc : List Value} {M : Mo} {ps L0 rs : List Nat} {pa ra la ba : Option Addr} {pc rc lc bc : Nat} {bl : List IM} (Y : MoY h M mc) (hM : VS.Mo.Lp VS.short M)
    (sp : SlA h 1 pa ps.length pc (bys ps)) (bp : ∀ i,Blk pa i → i < h.next) (sr : SlA h 1 ra rs.length rc (bys rs)) (br : ∀ i,Blk ra i → i < h.next) (sl : SlA h 1 la L0.length lc (bys L0)) (bl' : ∀ i,Blk la i → i < h.next) (sb : SlA h 6 ba bl.length bc (en IM.enc bl)) (bb : ∀ i,Blk ba i → i < h.next) (si : ∀ x ∈ bl,x.Lies h)
    (hp : ps.length ≤ 400000) (hl0 : L0.length ≤ 400000) (hr : rs.length ≤ 8) (hb : bl.length ≤ 100000) :
    Fn Try.prog 16 [.agg ⟨mc⟩,.agg ⟨[.slice pa ps.length pc,.slice ra rs.length rc]⟩,.agg ⟨[.slice la L0.length lc,.slice ba bl.length bc]⟩] h fun v h' => v = .int .i64 (if VS.body M (ps ++ L0) rs (bl.map IM.i) = true then 0 else 6) ∧ Xk h h' := by
  refine fnK F16.fok rfl ?_
  refine Wi (Xp (cs := mc) rfl rfl fun h1 n1 x1 g1 => Xp (cs := [.slice pa ps.length pc,.slice ra rs.length rc]) rfl rfl fun h2 n2 x2 g2 => Xp (cs := [.slice la L0.length lc,.slice ba bl.length bc]) rfl rfl fun h3 n3 x3 g3 => Wa rfl rfl (Wh [(3,_),(4,_),(5,_)] rfl ?_))
  have x02 : Xk h h2 := x1.then0 x2
  have x03 : Xk h h3 := x02.then0 x3
  have g13 : At h3 h.next (.cells mc 0 false) := At.ext (At.ext g1 x2 (fun q => q)) x3 (fun q => q)
  have g23 : At h3 h1.next (.cells [.slice pa ps.length pc,.slice ra rs.length rc] 0 false) := At.ext g2 x3 (fun q => q)
  refine Wi (Wa rfl rfl (We (v := .slice pa ps.length pc) rfl g23 rfl (Wa rfl rfl (We (v := .slice la L0.length lc) rfl g3 rfl (Wl rfl rfl fun h4 n4 x4 g4 => ?_)))))
  have x04 := x03.then0 x4
  have s4 : SlA h4 1 (some ⟨h3.next,0,none⟩) 2 1 [.slice pa ps.length pc,.slice la L0.length lc] := SlA.mk' (n := 2) (c := 1) (sz := 1) (off := 0) g4 (Nat.le_refl 2) (.inr (.inr rfl))
  refine Wc rfl (C57 (fs := [ps,L0]) s4 rfl (fun i hi => ?_) (by decide) (fun f hf => ?_)) ?_
  · match i,hi with
    | 0,_ => exact ⟨pa,pc,rfl,sp.ext x04⟩
    | 1,_ => exact ⟨la,lc,rfl,sl.ext x04⟩
  · simp only [List.mem_cons,List.mem_nil_iff,or_false] at hf
    rcases hf with rfl | rfl <;> omega
  rintro _ h5 ⟨a5,c5,rfl,o5,x5,b5⟩
  have efl : [ps,L0].flatten = ps ++ L0 := by simp
  rw [efl] at o5 ⊢
  have x35 := x4.then0 x5
  have x05 := x04.then0 x5
  refine Wa rfl rfl (Xp (cs := [.slice none 0 0,ptr h.next,.slice a5 (ps ++ L0).length c5,.slice none 0 0,.bool false]) rfl rfl fun h6 n6 x6 g6 => Wa rfl rfl (Wh [(4,_),(5,_),(7,_)] rfl ?_))
  have x56 := x05.then0 x6
  have hn3 := x35.next
  generalize hK : (⟨h5.next,h.next,a5,c5,ps ++ L0,fun j => j < h5.next⟩ : VK) = K
  have e1 : K.p = h5.next := by subst hK; rfl
  have e2 : K.pm = h.next := by subst hK; rfl
  have e3 : K.L = ps ++ L0 := by subst hK; rfl
  have e4 : ∀ j,K.R j ↔ j < h5.next := by subst hK; exact fun j => Iff.rfl
  have g16 : At h6 h.next (.cells mc 0 false) := (g13.ext x35 (fun q => q)).ext x6 (fun q => q)
  have g26 : At h6 h1.next (.cells [.slice pa ps.length pc,.slice ra rs.length rc] 0 false) := (g23.ext x35 (fun q => q)).ext x6 (fun q => q)
  have g36 : At h6 h2.next (.cells [.slice la L0.length lc,.slice ba bl.length bc] 0 false) := ((show At h3 h2.next _ from g3).ext x35 (fun q => q)).ext x6 (fun q => q)
  have X0 : Ck K h6 (fun j => j = h5.next) ⟨[],[],false⟩ := by
    refine ⟨none,0,none,0,[],rfl,?_,OwS.none,OwS.none,fun i q => ?_,fun i q => ?_,fun i q r => ?_,fun i q => ?_,Blk.none,Blk.none,fun i q => absurd q Blk.none,fun m hm => (by cases hm),?_⟩
    · subst hK; exact g6
    · rcases q with q | q | q
      · rw [e1] at q; exact q
      · exact absurd q Blk.none
      · exact absurd q Blk.none
    · have q' : i = h5.next := q
      omega
    · rw [e4] at r
      rcases q with q | q | q
      · rw [e1] at q; omega
      · exact absurd q Blk.none
      · exact absurd q Blk.none
    · rw [e4] at q; omega
    · subst hK
      refine ⟨o5.sl.ext x6,fun i q => ⟨?_,fun r => ?_⟩⟩
      · have := o5.lt q; show i < h6.next; omega
      · have := o5.lt q
        have r' : i = h5.next := r
        omega
  have Y0 : MoX h6 (fun j => j = h5.next) K.pm M mc := by
    rw [e2]
    have hnx := x05.next
    refine Y h6 _ h.next x56.next (fun i hi => x56.get i hi fun e => e) (fun i q => ?_) g16 (fun q => ?_)
    · have q' : i = h5.next := q
      omega
    · have q' : h.next = h5.next := q
      have := x03.next
      omega
  have sr6 : Stl h6 (fun j => j = h5.next) ra rs.length rc rs := ⟨sr.ext x56,fun i q => ⟨by have := br i q; have := x56.next; omega,fun r => by have r' : i = h5.next := r; have := br i q; have := x05.next; omega⟩⟩
  rw [← e1]
  refine Wi (Wa rfl rfl (Wa rfl rfl (We (v := .slice ra rs.length rc) rfl g26 rfl (Wc rfl (C58 (op := 2) X0 Stl.none sr6 ⟨by decide,by decide⟩ (by decide)) ?_))))
  rintro _ h7 ⟨O7,X7,t7⟩
  refine Wh [(5,_),(7,_)] rfl ?_
  have e5 : VS.opens 2 [] rs ⟨[],[],false⟩ = VS.start rs := rfl
  rw [e5] at X7
  have Y7 := Y0.turn t7.t
  have x57 : Xk h5 h7 := ⟨by have := x6.next; have := t7.t.ext.next; omega,fun i hi _ => by rw [t7.k i ((e4 i).2 hi),x6.get i hi fun e => e]⟩
  have o7 : ∀ i,O7 i → h5.next ≤ i := fun i q => (t7.t.own i q).elim (fun r => by have r' : i = h5.next := r; omega) fun r => by have := x6.next; omega
  have g37 : At h7 h2.next (.cells [.slice la L0.length lc,.slice ba bl.length bc] 0 false) := ((show At h3 h2.next _ from g3).ext x35 (fun q => q)).ext x57 (fun q => q)
  refine Xd (Wi (Wa rfl rfl (We (v := .slice ba bl.length bc) rfl g37 rfl (Wa rfl rfl (Wa rfl rfl (Wh [(5,_),(7,_),(23,_),(24,_),(25,_)] rfl ?_))))))
  refine Xa ?_
  have st0 := VS.start
  refine Ym (fun k e h' => ∃ (i : Nat) (O' : Nat → Prop) (s : VS),e = [(5,ptr h2.next),(7,ptr K.p),(23,.slice ba bl.length bc),(24,.int .i64 (bl.length : Int)),(25,.int .i64 (i : Int))] ∧ i ≤ bl.length ∧ k = bl.length - i ∧
    Ck K h' O' s ∧ MoX h' O' K.pm M mc ∧ VS.Wf s ∧ VS.LP VS.short s ∧ (i < bl.length → s.op ≠ []) ∧ s.l.length ≤ 8008 * i ∧ s.op.length ≤ i + 1 ∧ Xk h5 h' ∧ (∀ j,O' j → h5.next ≤ j) ∧ VS.body M (ps ++ L0) rs (bl.map IM.i) = VS.run M (ps ++ L0) ((bl.map IM.i).drop i) s) ?_ (k := bl.length) ⟨0,O7,_,rfl,by omega,rfl,X7,Y7,?_,?_,fun _ => by simp [VS.start],Nat.zero_le _,Nat.le_refl _,x57,o7,rfl⟩
  rotate_left
  · exact ⟨List.pairwise_singleton _ _,fun b hb => by
      have hb' : b ∈ [(⟨2,[],rs,0,false⟩ : VB)] := hb
      rw [List.mem_singleton] at hb'; subst hb'; exact Nat.zero_le _⟩
  · intro b hb
    have hb' : b ∈ [(⟨2,[],rs,0,false⟩ : VB)] := hb
    rw [List.mem_singleton] at hb'; subst hb'; exact ⟨by show 0 ≤ 8; omega,hr⟩
  rintro k e' h8 ⟨i,O8,s,rfl,hi,rfl,X8,Y8,w8,z8,ne8,l8,p8,x58,o8,r8⟩
  refine Wi (Wa rfl rfl (Wh [(5,_),(7,_),(23,_),(24,_),(25,_),(26,_)] rfl ?_))
  have x08 : Xk h h8 := x05.then0 x58
  have g38 : At h8 h2.next (.cells [.slice la L0.length lc,.slice ba bl.length bc] 0 false) := ((show At h3 h2.next _ from g3).ext x35 (fun q => q)).ext x58 (fun q => q)
  refine Wp rfl (fun hc => ?_) (fun hc => ?_)
  · have hil : i < bl.length := by have := of_decide_eq_true hc; omega
    have hne := ne8 hil
    obtain ⟨sLx,bLx,okx,knx⟩ := si _ (List.getElem_mem hil)
    generalize hx : bl[i] = x at sLx bLx okx knx
    refine Wt (Xa ?_)
    refine Wi (Wa rfl rfl (Kb IM.enc_len rfl rfl (sb.ext x08) rfl hil fun p => ?_))
    rw [hx]
    refine Xl fun h9 n9 x9 g9 => Wa rfl rfl (Wm (l := x.enc) rfl rfl rfl rfl g9 (by simp) rfl fun h10 n10 x10 g10 => Wh [(5,_),(7,_),(8,_),(9,_),(23,_),(24,_),(25,_)] rfl ?_)
    replace g10 : At h10 h8.next (.cells x.enc 0 false) := g10
    have x810 : Xk h8 h10 := x9.then x10 (fun j q => .inr (by omega))
    obtain ⟨a8,c8,oa8,oc8,ms8,X8⟩ := X8
    have olt8 := X8.lt
    obtain ⟨X10,t10⟩ := X8.ext0' x810
    have Y10 := Y8.turn t10.t
    have x010 := x08.then0 x810
    have ho5 : h.next ≤ h5.next := x05.next
    refine Wi (Wa rfl rfl (Xh (l := x.enc) rfl g10 (Nat.le_refl 6) rfl (Wc rfl (C59 X10 Y10 w8 hne (by omega) (by omega) z8 okx knx (sLx.ext x010) (fun j q => ⟨by have := bLx j q; have := x010.next; omega,fun r => by have := o8 j r; have := bLx j q; omega⟩) (by rw [e3,List.length_append]; omega)) ?_)))
    rintro _ h11 ⟨O11,X11,t11⟩
    rw [e3] at X11
    refine Wh [(5,_),(7,_),(8,_),(23,_),(24,_),(25,_)] rfl ?_
    have ll : x.i.l.length ≤ 1000 := okx.ll
    have gd := VS.one_gd (P := VS.short) hM (ps ++ L0) x.i s (fun _ => by show 1 ≤ 8; omega) w8 hne
    have gr := VS.one_gr hM (ps ++ L0) x.i hne z8
    have ol := VS.one_ol (M := M) (ps ++ L0) x.i hne
    have er : (bl.map IM.i).drop i = x.i :: (bl.map IM.i).drop (i + 1) := by
      rw [List.drop_eq_getElem_cons (by simpa using hil)]
      simp [hx]
    rw [er] at r8
    unfold VS.run at r8
    generalize hs1 : s.one M (ps ++ L0) x.i = s1 at *
    have x511 : Xk h5 h11 := ⟨by have := x58.next; have := x810.next; have := t11.t.ext.next; omega,fun j hj _ => by rw [t11.k j ((e4 j).2 hj),x810.get j (by have := x58.next; omega) fun e => e,x58.get j hj fun e => e]⟩
    have o11 : ∀ j,O11 j → h5.next ≤ j := fun j q => (t11.t.own j q).elim (o8 j) fun r => by have := x58.next; have := x810.next; omega
    have Y11 := Y10.turn t11.t
    have g311 : At h11 h2.next (.cells [.slice la L0.length lc,.slice ba bl.length bc] 0 false) := ((show At h3 h2.next _ from g3).ext x35 (fun q => q)).ext x511 (fun q => q)
    unfold VS.Gr at gr
    unfold VS.Ol at ol
    obtain ⟨a1,c1,oa1,oc1,ms1,XX⟩ := id X11
    have dn : (bl.map IM.i).drop (i + 1) = [] ↔ ¬ i < bl.length - 1 := by
      rw [List.drop_eq_nil_iff,List.length_map]; omega
    refine Ww (fun e' h' => ∃ d : Bool,e' = [(5,ptr h2.next),(7,ptr K.p),(23,.slice ba bl.length bc),(24,.int .i64 (bl.length : Int)),(25,.int .i64 (i : Int)),(52,.bool d)] ∧ h11 = h' ∧ (d = true ↔ s1.bad = true ∨ s1.op = [] ∧ i < bl.length - 1)) ?_ ?_
    · refine Wk (Wa rfl rfl (Wa rfl rfl (Wa rfl rfl (We (v := .bool s1.bad) rfl XX.g rfl (Wa rfl rfl ?_)))))
      cases cb : s1.bad with
      | true =>
        refine Wb rfl (Wb rfl (Wb rfl (Wb rfl (Wb rfl (Wb rfl (Wb rfl (Wb rfl (Wb rfl (Wb rfl (Wb rfl (Wb rfl (Wb rfl (Wb rfl (Wa rfl rfl (Wj [(5,_),(7,_),(23,_),(24,_),(25,_),(52,_)] rfl ?_)))))))))))))))
        exact ⟨true,rfl,rfl,by simp [cb]⟩
      | false =>
        refine Wd rfl (Wa rfl rfl (Wd rfl (Wa rfl rfl (Wd rfl (Wa rfl rfl (Wd rfl (We (v := .slice oa1 s1.op.length oc1) rfl XX.g rfl (Wd rfl (Wa rfl rfl (Wd rfl (Wg (w := .bool (decide (s1.op = []))) rfl rfl (by congr 1; rw [Bool.eq_iff_iff]; simp) (Wd rfl (Wa rfl rfl ?_)))))))))))))
        by_cases co : s1.op = []
        · rw [decide_eq_true co]
          refine Wd rfl (Wa rfl rfl (Wd rfl (Wa rfl rfl (Wd rfl (We (v := .slice ba bl.length bc) rfl g311 rfl (Wd rfl (Wa rfl rfl (Wd rfl (Wg (w := .int .i64 ((bl.length - 1 : Nat) : Int)) rfl rfl (by rw [w64 (by omega)]; congr 1; omega) (Wd rfl (Wg (w := .bool (decide (i < bl.length - 1))) rfl rfl (by congr 1; rw [Bool.eq_iff_iff]; simp) ?_)))))))))))
          refine Wd rfl (Wa rfl rfl (Wa rfl rfl (Wj [(5,_),(7,_),(23,_),(24,_),(25,_),(52,_)] rfl ?_)))
          exact ⟨decide (i < bl.length - 1),rfl,rfl,by simp [cb,co]⟩
        · rw [decide_eq_false co]
          refine Wb rfl (Wb rfl (Wb rfl (Wb rfl (Wb rfl (Wb rfl (Wd rfl (Wa rfl rfl (Wa rfl rfl (Wj [(5,_),(7,_),(23,_),(24,_),(25,_),(52,_)] rfl ?_)))))))))
          exact ⟨false,rfl,rfl,by simp [cb,co]⟩
    · rintro _ _ ⟨d,rfl,rfl,hd⟩
      refine Wn rfl (fun hc2 => ?_) (fun hc2 => ?_)
      · refine Wi (Wa rfl rfl (Wh [(6,_)] rfl ?_))
        refine Xn (Wx.mk _ rfl ⟨?_,x05.then0 x511⟩)
        have hd2 := hd.1 hc2
        have : VS.body M (ps ++ L0) rs (bl.map IM.i) = false := by
          rw [r8]
          rcases hd2 with q | ⟨q1,q2⟩
          · rw [if_pos q]
          · by_cases cb : s1.bad = true
            · rw [if_pos cb]
            · rw [if_neg cb,if_pos q1,decide_eq_false (fun q => dn.1 q q2)]
        rw [this]; rfl
      · have hd2 : ¬ (s1.bad = true ∨ s1.op = [] ∧ i < bl.length - 1) := fun q => by rw [hd.2 q] at hc2; cases hc2
        refine Ye (Wk (Wa rfl rfl (Wa rfl rfl (Wj [(5,_),(7,_),(23,_),(24,_),(25,_)] rfl ?_))))
        refine ⟨bl.length - (i + 1),by omega,i + 1,O11,s1,by rw [Ju (by omega)],by omega,rfl,X11,Y11,gd.1,gd.2 z8,fun q r => hd2 (.inr ⟨r,by omega⟩),by omega,by omega,x511,o11,?_⟩
        rw [r8,if_neg (fun q => hd2 (.inl q))]
        by_cases co : s1.op = []
        · have hnl : ¬ i < bl.length - 1 := fun q => hd2 (.inr ⟨co,q⟩)
          rw [if_pos co,dn.2 hnl]
          unfold VS.run
          rw [decide_eq_true rfl,decide_eq_true co]
        · rw [if_neg co]
  · have hil : i = bl.length := by have := of_decide_eq_false hc; omega
    subst hil
    obtain ⟨a8,c8,oa8,oc8,ms8,X8⟩ := X8
    have er : (bl.map IM.i).drop bl.length = [] := by rw [List.drop_eq_nil_iff,List.length_map]; exact Nat.le_refl _
    rw [er] at r8
    unfold VS.run at r8
    refine Xv (Xu ?_)
    refine Xd (Wi (Wa rfl rfl (Wa rfl rfl (Wa rfl rfl (We (v := .slice oa8 s.op.length oc8) rfl X8.g rfl (Wa rfl rfl (Wg (w := .bool (decide (s.op ≠ []))) rfl rfl (by congr 1; rw [Bool.eq_iff_iff]; simp [← List.length_pos_iff]) (Wh [(59,_)] rfl ?_))))))))
    refine Wp rfl (fun hc => ?_) (fun hc => ?_)
    · have q := of_decide_eq_true hc
      refine Xd (Wi (Wa rfl rfl (Wh [(6,_)] rfl ?_)))
      refine Xo (Wx.mk _ rfl ⟨?_,x08⟩)
      rw [r8,decide_eq_false q]; rfl
    · have q : s.op = [] := by simpa using hc
      refine Wt (Wi (Wa rfl rfl (Wh [(6,_)] rfl ?_)))
      refine Xn (Wx.mk _ rfl ⟨?_,x08⟩)
      rw [r8,decide_eq_true q]; rfl

end
end Go.Dx.SYtpkefdoleieloaa
