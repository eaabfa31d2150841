/- Texts merged: Vd1.lean, Vd2.lean, De2.lean, Tm0.lean, Tm1.lean. -/
import Derived.Test.YtpkefdoleieloaaCstc
import Derived.Test.YtpkefdoleieloaaCsz31
namespace Go.Dx.SYtpkefdoleieloaa
open Go.Proofs
set_option linter.unusedVariables false
set_option linter.unusedSimpArgs false
section
/- val's checker: moves, one instruction. -/
namespace VS
def Ol (s s' : VS) : Prop := s'.op.length ≤ s.op.length + 1
theorem Kp.ol {s s' : VS} (k : Kp s s') : Ol s s' := by unfold Ol; rw [k.op]; omega
theorem rests_ol {s : VS} (h : s.op ≠ []) : s.rests.op.length = s.op.length := by
  have := List.length_pos_iff.2 h
  simp [rests]
  omega
theorem closes_ol (s : VS) : s.closes.2.op.length ≤ s.op.length := by
  show (s.take s.top.to).2.op.dropLast.length ≤ _
  rw [(take_kp s.top.to s).op,List.length_dropLast]; omega
theorem Kp.rests_ol {s s' : VS} (k : Kp s s') (h : s.op ≠ []) : Ol s s'.rests := by
  unfold Ol; rw [VS.rests_ol (k.ne h),k.op]; omega
theorem control_ol {M : Mo} (x : Ins) {s r : VS} (h : s.op ≠ []) (hr : s.control M x = some r) : Ol s r := by
  unfold control at hr
  by_cases c : x.op = 0
  · rw [if_pos c] at hr; cases hr; exact (Kp.refl s).rests_ol h
  rw [if_neg c] at hr
  by_cases c : x.op = 1
  · rw [if_pos c] at hr; cases hr; exact (Kp.refl _).ol
  rw [if_neg c] at hr
  by_cases c : x.op = 2 ∨ x.op = 3 ∨ x.op = 4
  · rw [if_pos c] at hr; cases hr
    unfold blk
    have k1 : Kp s (if x.op = 4 then (s.want 127).2 else s) := by
      split
      · exact want_kp _ _
      · exact Kp.refl _
    have k2 := k1.trans (signature_kp M x.t _)
    have k3 := k2.trans (take_kp ((if x.op = 4 then (s.want 127).2 else s).signature M x.t).1.1 _)
    unfold Ol
    simp only [opens,List.length_append,List.length_singleton]
    rw [k3.op]; omega
  rw [if_neg c] at hr
  by_cases c : x.op = 5
  · rw [if_pos c] at hr; cases hr
    have := closes_ol s
    unfold Ol els opens fails
    simp only [List.length_append,List.length_singleton]
    omega
  rw [if_neg c] at hr
  by_cases c : x.op = 11
  · rw [if_pos c] at hr; cases hr
    have := closes_ol s
    unfold Ol ends
    simp only
    split
    · simp only [fails]; omega
    · simp only [fails,push]; omega
  rw [if_neg c] at hr
  by_cases c : x.op = 12
  · rw [if_pos c] at hr; cases hr; exact ((label_kp _ _).trans (take_kp _ _)).rests_ol h
  rw [if_neg c] at hr
  by_cases c : x.op = 13
  · rw [if_pos c] at hr; cases hr; exact (((want_kp _ _).trans (label_kp _ _)).trans (Jt _ _ _)).ol
  rw [if_neg c] at hr
  by_cases c : x.op = 14
  · rw [if_pos c] at hr; cases hr
    unfold branches
    exact ((((want_kp 127 s).trans (label_kp _ _)).trans (branchesL_kp _ _ _)).trans (take_kp _ _)).rests_ol h
  rw [if_neg c] at hr
  by_cases c : x.op = 15
  · rw [if_pos c] at hr; cases hr; exact (take_kp _ _).rests_ol h
  rw [if_neg c] at hr
  by_cases c : x.op = 16
  · rw [if_pos c] at hr; cases hr; exact (calls_kp _ _ _).ol
  rw [if_neg c] at hr
  by_cases c : x.op = 17
  · rw [if_pos c] at hr; cases hr; exact (callI_kp _ _ _).ol
  rw [if_neg c] at hr
  cases hr
theorem one_ol {M : Mo} (L : List Nat) (x : Ins) {s : VS} (h : s.op ≠ []) : Ol s (s.one M L x) := by
  unfold one
  split
  · rename_i r hr; exact control_ol x h hr
  split
  · rename_i r hr; exact (places_kp M L x hr).ol
  split
  · rename_i r hr; exact (bulk_kp M x hr).ol
  split
  · exact (moves_kp M x s).ol
  · exact ((fails_kp _ _).trans (Jt _ _ _)).ol
end VS
theorem and31 : ∀ a : Nat,a < 32 → IntKind.wrap .u32 ((BitVec.ofInt 32 (a : Int) &&& BitVec.ofInt 32 31).toNat) = ((a % 32 : Nat) : Int) := by decide
theorem shl1 : ∀ a : Nat,a < 32 → IntKind.wrap .i64 (1 * 2 ^ (min a 64)) = ((2 ^ a : Nat) : Int) := by decide
section
variable {K : VK} {M : Mo} {mc : List Value} {h : Heap} {O : Nat → Prop} {s : VS}
set_option maxHeartbeats 1000000 in
theorem C98 {x : IM} (X : Ck K h O s) (Y : MoX h O K.pm M mc) (wf : VS.Wf s) (hne : s.op ≠ []) (hl : s.l.length ≤ 900000000) (ho : s.op.length ≤ 1000000) (ok : x.i.Ok) (hop : x.i.op ∈ Ko) :
    Fn Try.prog 98 [ptr K.p,.agg ⟨x.enc⟩] h fun v h' => Vg K h O h' (s.moves M x.i) := by
  refine fnK F98.fok rfl ?_
  refine Wd (Ye (cs := x.enc) rfl rfl fun h0 n0 x0 g0 => Wc [(0,_),(3,_)] rfl ?_)
  have R0 := Rn.start X Y wf hl ho x0 n0 g0
  refine Wd (Wa rfl rfl (Wb rfl (R0.memory hne) ?_))
  rintro _ h1 ⟨O1,R1,t1⟩
  have k1 := VS.memory_kp M s
  refine Wc [(0,_),(3,_)] rfl ?_
  unfold VS.moves
  dsimp only
  refine Zo (fun e' h' => e' = [(0,ptr K.p),(3,ptr h.next)] ∧ ∃ O',Rn K M mc h O h.next x.enc 900000000 h' O' ((s.memory M).fails (decide (x.i.a > 31 ∨ 2 ^ (x.i.a % 32) > VS.width x.i.op)))) ?_ ?_
  · refine Wl (Wa rfl rfl (Wa rfl rfl (We (v := .int .u32 (x.i.a : Int)) rfl R1.g rfl (Wi (w := .bool (decide (x.i.a > 31))) rfl rfl (by congr 1; rw [Bool.eq_iff_iff]; simp; omega) (Wa rfl rfl ?_)))))
    by_cases ca : x.i.a > 31
    · rw [decide_eq_true ca]
      refine Wg rfl (Wg rfl (Wg rfl (Wg rfl (Wg rfl (Wg rfl (Wg rfl (Wg rfl (Wg rfl ?_))))))))
      refine Wi (w := .bool (decide (x.i.a > 31 ∨ 2 ^ (x.i.a % 32) > VS.width x.i.op))) rfl rfl (by simp [ca]) (Wb rfl R1.fails ?_)
      rintro _ h2 ⟨O2,R2,t2⟩
      exact Wk [(0,_),(3,_)] rfl ⟨rfl,O2,R2⟩
    · rw [decide_eq_false ca]
      have h32 : x.i.a < 32 := by omega
      refine Wh rfl (Wa rfl rfl (Wh rfl (We (v := .int .u32 (x.i.a : Int)) rfl R1.g rfl (Wh rfl (Wi (w := .int .u32 ((x.i.a % 32 : Nat) : Int)) rfl rfl (by rw [← and31 _ h32]; rfl) (Wh rfl (Wi (w := .int .i64 ((2 ^ (x.i.a % 32) : Nat) : Int)) rfl rfl ?_ ?_)))))))
      · rw [← shl1 (x.i.a % 32) (by omega)]; rfl
      refine Wh rfl (Wa rfl rfl (Wh rfl (We (v := .int .i64 x.i.op) rfl R1.g rfl (Wh rfl (Wb rfl (C97 (.inl hop)) ?_)))))
      rintro _ _ ⟨rfl,rfl⟩
      refine Wh rfl (Yn (v := .int .u32 (x.i.a : Int)) rfl rfl R1.g rfl (by simp [Yq,Ys]) ?_)
      refine Wh rfl (Wa rfl rfl (Wi (w := .bool (decide (x.i.a > 31 ∨ 2 ^ (x.i.a % 32) > VS.width x.i.op))) rfl rfl ?_ (Wb rfl R1.fails ?_)))
      · show Value.bool (decide (((2 ^ (x.i.a % 32) : Nat) : Int) > ((VS.width x.i.op : Nat) : Int))) = _
        congr 1
        rw [Bool.eq_iff_iff,decide_eq_true_eq,decide_eq_true_eq]
        omega
      rintro _ h2 ⟨O2,R2,t2⟩
      exact Wk [(0,_),(3,_)] rfl ⟨rfl,O2,R2⟩
  rintro _ h2 ⟨rfl,O2,R2⟩
  have k2 := k1.trans (VS.fails_kp (decide (x.i.a > 31 ∨ 2 ^ (x.i.a % 32) > VS.width x.i.op)) (s.memory M))
  generalize hs2 : (s.memory M).fails (decide (x.i.a > 31 ∨ 2 ^ (x.i.a % 32) > VS.width x.i.op)) = s2 at R2 k2
  refine Wd (Wa rfl rfl (Wc [(0,_),(3,_),(4,_)] rfl ?_))
  refine Zo (fun e' h' => (∃ w,e' = (0,ptr K.p) :: (3,ptr h.next) :: (4,.int .u8 ((if VS.wide x.i.op = true then 126 else 127 : Nat) : Int)) :: w) ∧ h2 = h') ?_ ?_
  · refine Wd (Wa rfl rfl (We (v := .int .i64 x.i.op) rfl R2.g rfl (Wb rfl (C152 hop) ?_)))
    rintro _ _ ⟨rfl,rfl⟩
    refine Wc [(0,_),(3,_),(4,_),(24,_)] rfl ?_
    refine Wn rfl (fun hc => ?_) (fun hc => ?_)
    · refine Wl (Wa rfl rfl (Wk [(0,_),(3,_),(4,_)] rfl ?_))
      rw [if_pos hc]
      exact ⟨⟨[],rfl⟩,rfl⟩
    · refine Ya ?_
      rw [if_neg (by rw [hc]; simp)]
      exact ⟨⟨_,rfl⟩,rfl⟩
  rintro _ _ ⟨⟨w,rfl⟩,rfl⟩
  generalize ht : (if VS.wide x.i.op = true then 126 else 127 : Nat) = t
  refine Xc (Wd (Wa rfl rfl (We (v := .int .i64 x.i.op) rfl R2.g rfl (Wi (w := .bool (decide (x.i.op ≥ 54))) rfl rfl (by congr 1) (Wc [(0,_),(4,_),(27,_)] rfl ?_)))))
  refine Wo rfl (fun hc => ?_) (fun hc => ?_)
  · have c := of_decide_eq_true hc
    rw [if_pos c]
    refine Xc (Wd (Wa rfl rfl (Wa rfl rfl (Wj rfl rfl fun h3 n3 x3 g3 => ?_))))
    have sl3 : SlA h3 1 (some ⟨h2.next,0,none⟩) 2 1 (bys [127,t]) := SlA.mk' (n := 2) (c := 1) (sz := 1) (off := 0) g3 (Nat.le_refl 2) (.inr (.inr rfl))
    have f3 : Stl h3 O2 (some ⟨h2.next,0,none⟩) 2 1 [127,t] := ⟨sl3,fun i q => by rw [Blk.at] at q; subst q; exact ⟨by omega,fun q => by have := R2.olt _ q; omega⟩⟩
    obtain ⟨R3,t3⟩ := R2.ext0 x3
    refine Wb rfl (R3.take (k2.ne hne) f3 (by decide)) ?_
    rintro _ h4 ⟨ra,rc,O4,rfl,sr,R4,t4⟩
    refine Wc [] rfl ?_
    exact Yo (Ws.mk [] rfl R4.done)
  · have c : ¬ x.i.op ≥ 54 := of_decide_eq_false hc
    rw [if_neg c]
    refine Wr (Wd (Wa rfl rfl (Wb rfl (R2.want (t := 127) (k2.ne hne)) ?_)))
    rintro _ h3 ⟨rfl,O3,R3,t3⟩
    have k3 := k2.trans (VS.want_kp 127 s2)
    refine Wc [(0,_),(4,_)] rfl ?_
    refine Wl (Wa rfl rfl (Wa rfl rfl (Wa rfl rfl (Wa rfl rfl (Wj rfl rfl fun h4 n4 x4 g4 => ?_)))))
    have sl4 : SlA h4 1 (some ⟨h3.next,0,none⟩) 1 1 (bys [t]) := SlA.mk' (n := 1) (c := 1) (sz := 1) (off := 0) g4 (Nat.le_refl 1) (.inr (.inr rfl))
    obtain ⟨R4,t4⟩ := R3.ext0 x4
    refine Wb rfl (R4.push (k3.ne hne) sl4 (by decide) (by omega)) ?_
    rintro _ h5 ⟨O5,R5,t5⟩
    exact Wk [] rfl (Ws.mk [] rfl R5.done)
def opsC : List Int := [0,1,2,3,4,5,11,12,13,14,15,16,17,26,27,28,32,33,34,35,36,65,66,208,209,210,37,38,63,64,64520,64521,64522,64523,64524,64525,64526,64527,64528,64529]
def Ins.Kn (x : Ins) : Prop := x.op ∈ opsC ∨ x.op ∈ Ko ∨ x.op ∈ Gi
theorem opsM_w : ∀ op ∈ Ko,0 < VS.width op := by decide
theorem opsN_w : ∀ op ∈ Gi,¬ 0 < VS.width op := by decide
theorem Ins.Kn.of {x : Ins} (k : x.Kn) (L : List Nat) (h1 : s.control M x = none) (h2 : s.places M L x = none) (h3 : s.bulk M x = none) : x.op ∈ Ko ∨ x.op ∈ Gi := by
  refine k.elim (fun q => ?_) id
  exfalso
  unfold VS.control at h1
  unfold VS.places at h2
  unfold VS.bulk at h3
  simp only [opsC,List.mem_cons,List.mem_nil_iff,or_false] at q
  rcases q with q | q | q | q | q | q | q | q | q | q | q | q | q | q | q | q | q | q | q | q | q | q | q | q | q | q | q | q | q | q | q | q | q | q | q | q | q | q | q | q <;> simp [q] at h1 h2 h3
set_option maxHeartbeats 1000000 in
theorem C59 {x : IM} (X : Ck K h O s) (Y : MoX h O K.pm M mc) (wf : VS.Wf s) (hne : s.op ≠ []) (hl : s.l.length ≤ 900000000) (ho : s.op.length ≤ 1000000) (z : VS.LP VS.short s) (ok : x.i.Ok) (kn : x.i.Kn) (sL : SlA h 1 x.la x.i.l.length x.lc (Qc x.i.l)) (bL : ∀ i,Blk x.la i → i < h.next ∧ ¬ O i) (hL : K.L.length ≤ 1000000) :
    Fn Try.prog 59 [ptr K.p,.agg ⟨x.enc⟩] h fun v h' => Vg K h O h' (s.one M K.L x.i) := by
  refine fnK F59.fok rfl ?_
  refine Wd (Ye (cs := x.enc) rfl rfl fun h0 n0 x0 g0 => Wc [(0,_),(3,_)] rfl ?_)
  have R0 := Rn.start X Y wf hl ho x0 n0 g0
  have sL0 := sL.ext x0
  have bL0 : ∀ i,Blk x.la i → i < h0.next ∧ ¬ O i := fun i q => ⟨by have := (bL i q).1; omega,(bL i q).2⟩
  unfold VS.one
  have done : ∀ {r : VS} {e' : Env} {h1 : Heap} {Q : Kn},Vg K h0 O h1 r → (∀ e2,Ws F59.res (fun v h' => Vg K h O h' r) e2 h1) := fun {r e' h1 Q} q e2 => Ws.mk [] rfl (Vg.trans R0.T q)
  refine Xc (Wd (Wa rfl rfl (Xj (l := x.enc) rfl R0.g (Nat.le_refl 6) rfl (Wb rfl (C94 R0.X R0.Y wf hne hl ho ok sL0 bL0 z) ?_))))
  rintro v1 h1 q1
  unfold Sw at q1
  cases hr1 : s.control M x.i with
  | some r =>
    rw [hr1] at q1
    obtain ⟨rfl,g1⟩ := q1
    refine Wa rfl rfl (Wg rfl (Wg rfl (Wg rfl (Wa rfl rfl (Wa rfl rfl (Wg rfl (Wg rfl (Wg rfl (Wa rfl rfl (Wc [(0,_),(3,_),(18,_)] rfl ?_))))))))))
    refine Wo rfl (fun hc => ?_) (fun hc => by cases hc)
    exact Yo (Ws.mk [] rfl (Vg.trans R0.T g1))
  | none =>
    rw [hr1] at q1
    obtain ⟨rfl,O1,X1,t1⟩ := q1
    have R1 := R0.go X1 t1 wf hl (by decide) ho
    refine Wa rfl rfl (Wh rfl (Wa rfl rfl (Wh rfl (Xj (l := x.enc) rfl R1.g (Nat.le_refl 6) rfl (Wh rfl (Wb rfl (C95 R1.X R1.Y wf hne hl ho ok (sL0.ext t1.t.ext fun i q => (bL0 i q).2) (fun i q => Yi t1.t (bL0 i q)) hL) ?_))))))
    rintro v2 h2 q2
    unfold Sw at q2
    dsimp only
    cases hr2 : s.places M K.L x.i with
    | some r =>
      rw [hr2] at q2
      obtain ⟨rfl,g2⟩ := q2
      refine Wa rfl rfl (Wa rfl rfl (Wg rfl (Wg rfl (Wg rfl (Wa rfl rfl (Wc [(0,_),(3,_),(18,_)] rfl ?_))))))
      refine Wo rfl (fun hc => ?_) (fun hc => by cases hc)
      exact Yo (Ws.mk [] rfl (Vg.trans R1.T g2))
    | none =>
      rw [hr2] at q2
      obtain ⟨rfl,O2,X2,t2⟩ := q2
      have R2 := R1.go X2 t2 wf hl (by decide) ho
      have t02 := t1.trans t2
      refine Wa rfl rfl (Wa rfl rfl (Wh rfl (Wa rfl rfl (Wh rfl (Xj (l := x.enc) rfl R2.g (Nat.le_refl 6) rfl (Wh rfl (Wb rfl (C96 R2.X R2.Y wf hne hl ho ok (sL0.ext t02.t.ext fun i q => (bL0 i q).2) (fun i q => Yi t02.t (bL0 i q))) ?_)))))))
      rintro v3 h3 q3
      unfold Sw at q3
      dsimp only
      cases hr3 : s.bulk M x.i with
      | some r =>
        rw [hr3] at q3
        obtain ⟨rfl,g3⟩ := q3
        refine Wa rfl rfl (Wc [(0,_),(3,_),(18,_)] rfl ?_)
        refine Wo rfl (fun hc => ?_) (fun hc => by cases hc)
        exact Yo (Ws.mk [] rfl (Vg.trans R2.T g3))
      | none =>
        rw [hr3] at q3
        obtain ⟨rfl,O3,X3,t3⟩ := q3
        have R3 := R2.go X3 t3 wf hl (by decide) ho
        have kk := kn.of K.L hr1 hr2 hr3
        dsimp only
        refine Wa rfl rfl (Wc [(0,_),(3,_),(18,_)] rfl ?_)
        refine Wo rfl (fun hc => by cases hc) (fun hc => Wr ?_)
        refine Xc (Wd (Wa rfl rfl (We (v := .int .i64 x.i.op) rfl R3.g rfl (Wb rfl (C97 kk) ?_))))
        rintro _ _ ⟨rfl,rfl⟩
        refine Wi (w := .bool (decide (VS.width x.i.op > 0))) rfl rfl (by congr 1; rw [Bool.eq_iff_iff]; simp) (Wc [(0,_),(3,_),(22,_)] rfl ?_)
        refine Wo rfl (fun hc => ?_) (fun hc => ?_)
        · have c := of_decide_eq_true hc
          have hM : x.i.op ∈ Ko := kk.elim id fun q => absurd c (opsN_w _ q)
          refine Xc (Wd (Wa rfl rfl (Xj (l := x.enc) rfl R3.g (Nat.le_refl 6) rfl (Wb rfl (C98 R3.X R3.Y wf hne hl ho ok hM) ?_))))
          rintro _ h4 g4
          refine Wc [] rfl ?_
          rw [if_pos c]
          exact Yo (Ws.mk [] rfl (Vg.trans R3.T g4))
        · have c : ¬ VS.width x.i.op > 0 := of_decide_eq_false hc
          have hN : x.i.op ∈ Gi := kk.elim (fun q => absurd (opsM_w _ q) c) id
          rw [if_neg c]
          refine Wr (Wd (Wa rfl rfl (We (v := .int .i64 x.i.op) rfl R3.g rfl (Wb rfl (C99 hN) ?_))))
          rintro _ h4 ⟨rfl,x4,g4⟩
          obtain ⟨R4,t4⟩ := R3.ext0 x4
          have hn2 : (VS.numbers x.i.op).1.length ≤ 2 := by
            unfold VS.numbers
            repeat' split
            all_goals decide
          have sl4 : SlA h4 1 (some ⟨h3.next,0,none⟩) (VS.numbers x.i.op).1.length 1 (bys (VS.numbers x.i.op).1) := by
            have := SlA.mk' (n := (VS.numbers x.i.op).1.length) (c := 1) (sz := 1) (off := 0) g4 (by simp) (.inr (.inr rfl))
            rw [List.drop_zero,Nat.mul_one,List.take_of_length_le (by simp)] at this
            exact this
          have f4 : Stl h4 O3 (some ⟨h3.next,0,none⟩) (VS.numbers x.i.op).1.length 1 (VS.numbers x.i.op).1 := ⟨sl4,fun i q => by rw [Blk.at] at q; subst q; exact ⟨by have := g4.lt; omega,fun q => by have := R3.olt _ q; omega⟩⟩
          refine Wa rfl rfl (Wa rfl rfl (Wa rfl rfl (Wa rfl rfl (Wa rfl rfl (Wc [(0,_),(4,_),(5,_)] rfl ?_)))))
          refine Wd (Wa rfl rfl (Wa rfl rfl (Wi (w := .bool (decide ((VS.numbers x.i.op).2 = 0))) rfl rfl (by congr 1; rw [Bool.eq_iff_iff]; simp) (Wb rfl R4.fails ?_))))
          rintro _ h5 ⟨O5,R5,t5⟩
          have k5 := VS.fails_kp (decide ((VS.numbers x.i.op).2 = 0)) s
          refine Wc [(0,_),(4,_),(5,_)] rfl ?_
          refine Wd (Wa rfl rfl (Wa rfl rfl (Wb rfl (R5.take (k5.ne hne) (f4.turn t5.t) (by omega)) ?_)))
          rintro _ h6 ⟨ra,rc,O6,rfl,sr,R6,t6⟩
          refine Wc [(0,_),(5,_)] rfl ?_
          refine Wl (Wa rfl rfl (Wa rfl rfl (Wa rfl rfl (Wa rfl rfl (Wj rfl rfl fun h7 n7 x7 g7 => ?_)))))
          have sl7 : SlA h7 1 (some ⟨h6.next,0,none⟩) 1 1 (bys [(VS.numbers x.i.op).2]) := SlA.mk' (n := 1) (c := 1) (sz := 1) (off := 0) g7 (Nat.le_refl 1) (.inr (.inr rfl))
          obtain ⟨R7,t7⟩ := R6.ext0 x7
          refine Wb rfl (R7.push ((k5.trans (VS.take_kp _ _)).ne hne) sl7 (by decide) (by omega)) ?_
          rintro _ h8 ⟨O8,R8,t8⟩
          exact Wk [] rfl (Ws.mk [] rfl R8.done)
end

end
section
/- val's checker: a body. -/
theorem C92 {h : Heap} {m : Nat} (hb : m ≤ 1073741824) : Fn Try.prog 92 [.slice none 0 0,.int .i64 m] h fun v h' => ∃ a' c',v = .slice a' 0 c' ∧ OwS h' 1 a' 0 c' [] ∧ Xe h h' ∧ ∀ i,Blk a' i → h.next ≤ i := by
  refine fnK F92.fok rfl ?_
  refine Wd (Wa rfl rfl (Wc [(0,_),(1,_)] rfl (?_)))
  refine Xc (Wd (Wa rfl rfl (Wa rfl rfl (Wc [(0,_),(1,_),(6,_)] rfl (?_)))))
  refine Wo rfl (fun hc => ?_) (fun hc => ?_)
  · have := of_decide_eq_true hc; omega
  refine Wr (Xc (Wd (Wa rfl rfl (Wa rfl rfl (Wa rfl rfl (Wa rfl rfl (Wa rfl rfl (Wa rfl rfl (Wi (w := .int .i64 m) rfl rfl (by
    have h1 : IntKind.wrap .i64 (((0 : Nat) : Int) - ((0 : Nat) : Int)) = 0 := rfl
    show Value.int .i64 (IntKind.wrap .i64 ((m : Int) - IntKind.wrap .i64 (((0 : Nat) : Int) - ((0 : Nat) : Int)))) = _
    rw [h1,w64 (by omega)]; simp) (Wa rfl rfl (Wc [(0,_),(1,_)] rfl (?_))))))))))))
  refine Xc (Wd (Wa rfl rfl (Wa rfl rfl (Wc [(0,_),(1,_),(16,_)] rfl (?_)))))
  refine Wo rfl (fun hc => ?_) (fun hc => ?_)
  · refine Wd (Wa rfl rfl (Wa rfl rfl (Wa rfl rfl (Jo rfl rfl rfl rfl (Qq (i := 0) (by omega)) ?_))))
    refine Wa rfl rfl (Wops_appZ (m := m) rfl rfl (OwS.none (sz := 1)) ⟨by omega,by omega⟩ rfl rfl (by decide) fun h1 a1 c1 x1 o1 b1 => ?_)
    refine Wa rfl rfl (Wa rfl rfl (Jo rfl rfl rfl o1.sl.ok (Qq (i := 0) (by omega)) ?_))
    refine Wa rfl rfl (Wc [(0,_)] rfl (?_))
    have o2 := o1.sub (i := 0) (j := 0) (by omega) (by omega)
    refine Wd (Wa rfl rfl (Wa rfl rfl (Wc [(4,_)] rfl (?_))))
    refine Xo (Ws.mk _ rfl ⟨shift a1 (0 * 1),c1,rfl,by simpa using o2,x1.mono fun i _ r => absurd r Blk.none,fun i r => ?_⟩)
    exact (b1 i (shift_blk.1 r)).elim (fun r => absurd r Blk.none) id
  · refine Wr (Wd (Wa rfl rfl (Wa rfl rfl (Wc [(4,_)] rfl (?_)))))
    exact Xo (Ws.mk _ rfl ⟨none,0,rfl,OwS.none,Ext.refl _ _,fun i r => absurd r Blk.none⟩)
theorem C57 {h : Heap} {a : Option Addr} {n c : Nat} {vs : List Value} {fs : List (List Nat)} (s : SlA h 1 a n c vs) (hfn : fs.length = n) (b : ∀ i (hi : i < fs.length),∃ ai ci,vs[i]? = some (.slice ai fs[i].length ci) ∧ SlA h 1 ai fs[i].length ci (bys fs[i])) (hn : n ≤ 1000) (hb : ∀ f ∈ fs,f.length ≤ 1000000) :
    Fn Try.prog 57 [.slice a n c] h fun v h' => ∃ a' c',v = .slice a' fs.flatten.length c' ∧ OwS h' 1 a' fs.flatten.length c' (bys fs.flatten) ∧ Xe h h' ∧ ∀ i,Blk a' i → h.next ≤ i := by
  have hsum : ∀ i,i ≤ n → (fs.take i).flatten.length ≤ i * 1000000 := by
    intro i
    induction i with
    | zero => intro _; simp
    | succ i ih =>
      intro hi
      rw [List.take_add_one,List.getElem?_eq_getElem (by omega),Option.toList_some,List.flatten_append,List.length_append]
      have := ih (by omega)
      have := hb fs[i] (List.getElem_mem _)
      simp only [List.flatten_cons,List.flatten_nil,List.append_nil]; omega
  refine fnK F57.fok rfl ?_
  refine Wd (Wa rfl rfl (Wc [(0,_)] rfl (?_)))
  refine Wd (Wa rfl rfl (Wc [(0,_),(3,_)] rfl (?_)))
  refine Xc (Wd (Wa rfl rfl (Wa rfl rfl (Wa rfl rfl (Wc [(0,_),(3,_),(9,_),(10,_),(11,_)] rfl (?_))))))
  refine Wt ?_
  refine Xy (fun k e h' => ∃ i : Nat,e = [(0,.slice a n c),(3,.int .i64 ((fs.take i).flatten.length : Nat)),(9,.slice a n c),(10,.int .i64 n),(11,.int .i64 i)] ∧ h = h' ∧ i ≤ n ∧ k = n - i) ?_ (k := n) ⟨0,rfl,rfl,by omega,rfl⟩
  rintro k e h' ⟨i,rfl,rfl,hi,rfl⟩
  have hsi := hsum i hi
  refine Wd (Wa rfl rfl (Wc [(0,_),(3,_),(9,_),(10,_),(11,_),(12,_)] rfl (?_)))
  refine Wo rfl (fun hc => ?_) (fun hc => ?_)
  · have hlt : i < n := by have := of_decide_eq_true hc; omega
    obtain ⟨ai,ci,hv,si⟩ := b i (by omega)
    have hbi := hb fs[i] (List.getElem_mem _)
    have hnext : ((fs.take (i + 1)).flatten.length : Nat) = (fs.take i).flatten.length + fs[i].length := by
      rw [List.take_add_one,List.getElem?_eq_getElem (by omega),Option.toList_some,List.flatten_append,List.length_append]; simp
    refine Wr (Wt ?_)
    refine Wd (Xx (u := .slice ai fs[i].length ci) rfl rfl s ⟨by omega,by omega⟩ (by simpa using hv) fun p => ?_)
    refine Wa rfl rfl (Wc [(0,_),(3,_),(5,_),(9,_),(10,_),(11,_)] rfl (?_))
    refine Wd (Wa rfl rfl (Wa rfl rfl (Wa rfl rfl (Wi (w := .int .i64 ((fs.take (i + 1)).flatten.length : Nat)) rfl rfl (by rw [w64 (by omega),hnext]; simp) (Wa rfl rfl (Wc [(0,_),(3,_),(9,_),(10,_),(11,_)] rfl (?_)))))))
    refine Wd (Wa rfl rfl (Wa rfl rfl (Wc [(0,_),(3,_),(9,_),(10,_),(11,_),(20,_)] rfl (?_))))
    refine Wn rfl (fun hc => by have := of_decide_eq_true hc; omega) (fun _ => ?_)
    refine Ya (Wl (Wa rfl rfl (Wa rfl rfl (Wk [(0,_),(3,_),(9,_),(10,_),(11,_)] rfl (?_)))))
    exact ⟨n - (i + 1),by omega,i + 1,by rw [Zi (by omega)],rfl,by omega,rfl⟩
  · have hin : i = n := by have := of_decide_eq_false hc; omega
    have htk : fs.take i = fs := List.take_of_length_le (by omega)
    rw [htk] at hsi ⊢
    refine Xn (Xp ?_)
    refine Wd (Wa rfl rfl (Wb rfl (C92 (m := fs.flatten.length) (by omega)) ?_))
    rintro _ h1 ⟨a1,c1,rfl,o1,x1,b1⟩
    refine Wa rfl rfl (Wc [(0,_),(6,_)] rfl (?_))
    refine Xc (Wd (Wa rfl rfl (Wa rfl rfl (Wa rfl rfl (Wc [(6,_),(25,_),(26,_),(27,_)] rfl (?_))))))
    refine Wt ?_
    refine Xy (fun k e h' => ∃ (i : Nat) (a6 : Option Addr) (c6 : Nat),e = [(6,.slice a6 (fs.take i).flatten.length c6),(25,.slice a n c),(26,.int .i64 n),(27,.int .i64 i)] ∧ i ≤ n ∧ k = n - i ∧ OwS h' 1 a6 (fs.take i).flatten.length c6 (bys (fs.take i).flatten) ∧ Xe h h' ∧ ∀ i,Blk a6 i → h.next ≤ i) ?_ (k := n) ⟨0,a1,c1,rfl,by omega,rfl,o1,x1,b1⟩
    clear o1 x1 b1
    rintro k e h2 ⟨i,a6,c6,rfl,hi,rfl,o6,x6,b6⟩
    have hsi := hsum i hi
    refine Wd (Wa rfl rfl (Wc [(6,_),(25,_),(26,_),(27,_),(28,_)] rfl (?_)))
    refine Wo rfl (fun hc => ?_) (fun hc => ?_)
    · have hlt : i < n := by have := of_decide_eq_true hc; omega
      obtain ⟨ai,ci,hv,si⟩ := b i (by omega)
      have hbi := hb fs[i] (List.getElem_mem _)
      have htk1 : (fs.take (i + 1)).flatten = (fs.take i).flatten ++ fs[i] := by
        rw [List.take_add_one,List.getElem?_eq_getElem (by omega),Option.toList_some,List.flatten_append]; simp
      refine Wr (Wt ?_)
      refine Wd (Xx (u := .slice ai fs[i].length ci) rfl rfl (s.ext x6) ⟨by omega,by omega⟩ (by simpa using hv) fun p => ?_)
      refine Wa rfl rfl (Wc [(6,_),(8,_),(25,_),(26,_),(27,_)] rfl (?_))
      refine Wl (Wa rfl rfl (Wa rfl rfl (Xk rfl rfl o6 rfl (si.ext x6).first ⟨by omega,by omega⟩ (by simp) (bys_cell _) (by decide) fun h3 a3 c3 x3 o3 b3 => ?_)))
      refine Wa rfl rfl (Wk [(6,_),(25,_),(26,_),(27,_)] rfl (?_))
      refine Wl (Wa rfl rfl (Wa rfl rfl (Wk [(6,_),(25,_),(26,_),(27,_)] rfl (?_))))
      have hl : (fs.take i).flatten.length + fs[i].length = (fs.take (i + 1)).flatten.length := by rw [htk1,List.length_append]
      refine ⟨n - (i + 1),by omega,i + 1,a3,c3,by rw [Zi (by omega),hl],by omega,rfl,?_,x6.then x3 fun i r => .inr (b6 i r),fun i r => (b3 i r).elim (b6 i) fun q => Nat.le_trans x6.next q⟩
      rw [← hl,htk1,bys_app]; exact o3
    · have hin : i = n := by have := of_decide_eq_false hc; omega
      have htk : fs.take i = fs := List.take_of_length_le (by omega)
      rw [htk] at o6
      refine Xn (Xp ?_)
      refine Wd (Wa rfl rfl (Wa rfl rfl (Wc [(2,_)] rfl (?_))))
      exact Xo (Ws.mk _ rfl ⟨a6,c6,by rw [htk]; rfl,o6,x6,b6⟩)
theorem IM.enc_len (x : IM) : x.enc.length = 6 := rfl
def MoY (h : Heap) (M : Mo) (mc : List Value) : Prop := ∀ (h1 : Heap) (O : Nat → Prop) (pm : Nat),h.next ≤ h1.next → (∀ i,i < h.next → h1.get i = h.get i) → (∀ i,O i → h.next ≤ i) → At h1 pm (.cells mc 0 false) → ¬ O pm → MoX h1 O pm M mc
def IM.Lies (h : Heap) (x : IM) : Prop := SlA h 1 x.la x.i.l.length x.lc (Qc x.i.l) ∧ (∀ i,Blk x.la i → i < h.next) ∧ x.i.Ok ∧ x.i.Kn
set_option maxHeartbeats 1000000 in
theorem C16 {h : Heap} {mc : List Value} {M : Mo} {ps L0 rs : List Nat} {pa ra la ba : Option Addr} {pc rc lc bc : Nat} {bl : List IM} (Y : MoY h M mc) (hM : VS.Mo.Lp VS.short M)
    (sp : SlA h 1 pa ps.length pc (bys ps)) (bp : ∀ i,Blk pa i → i < h.next) (sr : SlA h 1 ra rs.length rc (bys rs)) (br : ∀ i,Blk ra i → i < h.next) (sl : SlA h 1 la L0.length lc (bys L0)) (bl' : ∀ i,Blk la i → i < h.next) (sb : SlA h 6 ba bl.length bc (en IM.enc bl)) (bb : ∀ i,Blk ba i → i < h.next) (si : ∀ x ∈ bl,x.Lies h)
    (hp : ps.length ≤ 400000) (hl0 : L0.length ≤ 400000) (hr : rs.length ≤ 8) (hb : bl.length ≤ 100000) :
    Fn Try.prog 16 [.agg ⟨mc⟩,.agg ⟨[.slice pa ps.length pc,.slice ra rs.length rc]⟩,.agg ⟨[.slice la L0.length lc,.slice ba bl.length bc]⟩] h fun v h' => v = .int .i64 (if VS.body M (ps ++ L0) rs (bl.map IM.i) = true then 0 else 6) ∧ Xe h h' := by
  refine fnK F16.fok rfl ?_
  refine Wd (Ye (cs := mc) rfl rfl fun h1 n1 x1 g1 => Ye (cs := [.slice pa ps.length pc,.slice ra rs.length rc]) rfl rfl fun h2 n2 x2 g2 => Ye (cs := [.slice la L0.length lc,.slice ba bl.length bc]) rfl rfl fun h3 n3 x3 g3 => Wa rfl rfl (Wc [(3,_),(4,_),(5,_)] rfl ?_))
  have x02 : Xe h h2 := x1.then0 x2
  have x03 : Xe h h3 := x02.then0 x3
  have g13 : At h3 h.next (.cells mc 0 false) := At.ext (At.ext g1 x2 (fun q => q)) x3 (fun q => q)
  have g23 : At h3 h1.next (.cells [.slice pa ps.length pc,.slice ra rs.length rc] 0 false) := At.ext g2 x3 (fun q => q)
  refine Wd (Wa rfl rfl (We (v := .slice pa ps.length pc) rfl g23 rfl (Wa rfl rfl (We (v := .slice la L0.length lc) rfl g3 rfl (Wj rfl rfl fun h4 n4 x4 g4 => ?_)))))
  have x04 := x03.then0 x4
  have s4 : SlA h4 1 (some ⟨h3.next,0,none⟩) 2 1 [.slice pa ps.length pc,.slice la L0.length lc] := SlA.mk' (n := 2) (c := 1) (sz := 1) (off := 0) g4 (Nat.le_refl 2) (.inr (.inr rfl))
  refine Wb rfl (C57 (fs := [ps,L0]) s4 rfl (fun i hi => ?_) (by decide) (fun f hf => ?_)) ?_
  · match i,hi with
    | 0,_ => exact ⟨pa,pc,rfl,sp.ext x04⟩
    | 1,_ => exact ⟨la,lc,rfl,sl.ext x04⟩
  · simp only [List.mem_cons,List.mem_nil_iff,or_false] at hf
    rcases hf with rfl | rfl <;> omega
  rintro _ h5 ⟨a5,c5,rfl,o5,x5,b5⟩
  have efl : [ps,L0].flatten = ps ++ L0 := by simp
  rw [efl] at o5 ⊢
  have x35 := x4.then0 x5
  have x05 := x04.then0 x5
  refine Wa rfl rfl (Ye (cs := [.slice none 0 0,ptr h.next,.slice a5 (ps ++ L0).length c5,.slice none 0 0,.bool false]) rfl rfl fun h6 n6 x6 g6 => Wa rfl rfl (Wc [(4,_),(5,_),(7,_)] rfl ?_))
  have x56 := x05.then0 x6
  have hn3 := x35.next
  generalize hK : (⟨h5.next,h.next,a5,c5,ps ++ L0,fun j => j < h5.next⟩ : VK) = K
  have e1 : K.p = h5.next := by subst hK; rfl
  have e2 : K.pm = h.next := by subst hK; rfl
  have e3 : K.L = ps ++ L0 := by subst hK; rfl
  have e4 : ∀ j,K.R j ↔ j < h5.next := by subst hK; exact fun j => Iff.rfl
  have g16 : At h6 h.next (.cells mc 0 false) := (g13.ext x35 (fun q => q)).ext x6 (fun q => q)
  have g26 : At h6 h1.next (.cells [.slice pa ps.length pc,.slice ra rs.length rc] 0 false) := (g23.ext x35 (fun q => q)).ext x6 (fun q => q)
  have g36 : At h6 h2.next (.cells [.slice la L0.length lc,.slice ba bl.length bc] 0 false) := ((show At h3 h2.next _ from g3).ext x35 (fun q => q)).ext x6 (fun q => q)
  have X0 : Ck K h6 (fun j => j = h5.next) ⟨[],[],false⟩ := by
    refine ⟨none,0,none,0,[],rfl,?_,OwS.none,OwS.none,fun i q => ?_,fun i q => ?_,fun i q r => ?_,fun i q => ?_,Blk.none,Blk.none,fun i q => absurd q Blk.none,fun m hm => (by cases hm),?_⟩
    · subst hK; exact g6
    · rcases q with q | q | q
      · rw [e1] at q; exact q
      · exact absurd q Blk.none
      · exact absurd q Blk.none
    · have q' : i = h5.next := q
      omega
    · rw [e4] at r
      rcases q with q | q | q
      · rw [e1] at q; omega
      · exact absurd q Blk.none
      · exact absurd q Blk.none
    · rw [e4] at q; omega
    · subst hK
      refine ⟨o5.sl.ext x6,fun i q => ⟨?_,fun r => ?_⟩⟩
      · have := o5.lt q; show i < h6.next; omega
      · have := o5.lt q
        have r' : i = h5.next := r
        omega
  have Y0 : MoX h6 (fun j => j = h5.next) K.pm M mc := by
    rw [e2]
    have hnx := x05.next
    refine Y h6 _ h.next x56.next (fun i hi => x56.get i hi fun e => e) (fun i q => ?_) g16 (fun q => ?_)
    · have q' : i = h5.next := q
      omega
    · have q' : h.next = h5.next := q
      have := x03.next
      omega
  have sr6 : Stl h6 (fun j => j = h5.next) ra rs.length rc rs := ⟨sr.ext x56,fun i q => ⟨by have := br i q; have := x56.next; omega,fun r => by have r' : i = h5.next := r; have := br i q; have := x05.next; omega⟩⟩
  rw [← e1]
  refine Wd (Wa rfl rfl (Wa rfl rfl (We (v := .slice ra rs.length rc) rfl g26 rfl (Wb rfl (C58 (op := 2) X0 Stl.none sr6 ⟨by decide,by decide⟩ (by decide)) ?_))))
  rintro _ h7 ⟨O7,X7,t7⟩
  refine Wc [(5,_),(7,_)] rfl ?_
  have e5 : VS.opens 2 [] rs ⟨[],[],false⟩ = VS.start rs := rfl
  rw [e5] at X7
  have Y7 := Y0.turn t7.t
  have x57 : Xe h5 h7 := ⟨by have := x6.next; have := t7.t.ext.next; omega,fun i hi _ => by rw [t7.k i ((e4 i).2 hi),x6.get i hi fun e => e]⟩
  have o7 : ∀ i,O7 i → h5.next ≤ i := fun i q => (t7.t.own i q).elim (fun r => by have r' : i = h5.next := r; omega) fun r => by have := x6.next; omega
  have g37 : At h7 h2.next (.cells [.slice la L0.length lc,.slice ba bl.length bc] 0 false) := ((show At h3 h2.next _ from g3).ext x35 (fun q => q)).ext x57 (fun q => q)
  refine Xc (Wd (Wa rfl rfl (We (v := .slice ba bl.length bc) rfl g37 rfl (Wa rfl rfl (Wa rfl rfl (Wc [(5,_),(7,_),(23,_),(24,_),(25,_)] rfl ?_))))))
  refine Wt ?_
  have st0 := VS.start
  refine Xy (fun k e h' => ∃ (i : Nat) (O' : Nat → Prop) (s : VS),e = [(5,ptr h2.next),(7,ptr K.p),(23,.slice ba bl.length bc),(24,.int .i64 (bl.length : Int)),(25,.int .i64 (i : Int))] ∧ i ≤ bl.length ∧ k = bl.length - i ∧
    Ck K h' O' s ∧ MoX h' O' K.pm M mc ∧ VS.Wf s ∧ VS.LP VS.short s ∧ (i < bl.length → s.op ≠ []) ∧ s.l.length ≤ 8008 * i ∧ s.op.length ≤ i + 1 ∧ Xe h5 h' ∧ (∀ j,O' j → h5.next ≤ j) ∧ VS.body M (ps ++ L0) rs (bl.map IM.i) = VS.run M (ps ++ L0) ((bl.map IM.i).drop i) s) ?_ (k := bl.length) ⟨0,O7,_,rfl,by omega,rfl,X7,Y7,?_,?_,fun _ => by simp [VS.start],Nat.zero_le _,Nat.le_refl _,x57,o7,rfl⟩
  rotate_left
  · exact ⟨List.pairwise_singleton _ _,fun b hb => by
      have hb' : b ∈ [(⟨2,[],rs,0,false⟩ : VB)] := hb
      rw [List.mem_singleton] at hb'; subst hb'; exact Nat.zero_le _⟩
  · intro b hb
    have hb' : b ∈ [(⟨2,[],rs,0,false⟩ : VB)] := hb
    rw [List.mem_singleton] at hb'; subst hb'; exact ⟨by show 0 ≤ 8; omega,hr⟩
  rintro k e' h8 ⟨i,O8,s,rfl,hi,rfl,X8,Y8,w8,z8,ne8,l8,p8,x58,o8,r8⟩
  refine Wd (Wa rfl rfl (Wc [(5,_),(7,_),(23,_),(24,_),(25,_),(26,_)] rfl ?_))
  have x08 : Xe h h8 := x05.then0 x58
  have g38 : At h8 h2.next (.cells [.slice la L0.length lc,.slice ba bl.length bc] 0 false) := ((show At h3 h2.next _ from g3).ext x35 (fun q => q)).ext x58 (fun q => q)
  refine Wo rfl (fun hc => ?_) (fun hc => ?_)
  · have hil : i < bl.length := by have := of_decide_eq_true hc; omega
    have hne := ne8 hil
    obtain ⟨sLx,bLx,okx,knx⟩ := si _ (List.getElem_mem hil)
    generalize hx : bl[i] = x at sLx bLx okx knx
    refine Wr (Wt ?_)
    refine Wd (Wa rfl rfl (Wops_elA IM.enc_len rfl rfl (sb.ext x08) rfl hil fun p => ?_))
    rw [hx]
    refine Xh fun h9 n9 x9 g9 => Wa rfl rfl (Wm (l := x.enc) rfl rfl rfl rfl g9 (by simp) rfl fun h10 n10 x10 g10 => Wc [(5,_),(7,_),(8,_),(9,_),(23,_),(24,_),(25,_)] rfl ?_)
    replace g10 : At h10 h8.next (.cells x.enc 0 false) := g10
    have x810 : Xe h8 h10 := x9.then x10 (fun j q => .inr (by omega))
    obtain ⟨a8,c8,oa8,oc8,ms8,X8⟩ := X8
    have olt8 := X8.lt
    obtain ⟨X10,t10⟩ := X8.ext0' x810
    have Y10 := Y8.turn t10.t
    have x010 := x08.then0 x810
    have ho5 : h.next ≤ h5.next := x05.next
    refine Wd (Wa rfl rfl (Xj (l := x.enc) rfl g10 (Nat.le_refl 6) rfl (Wb rfl (C59 X10 Y10 w8 hne (by omega) (by omega) z8 okx knx (sLx.ext x010) (fun j q => ⟨by have := bLx j q; have := x010.next; omega,fun r => by have := o8 j r; have := bLx j q; omega⟩) (by rw [e3,List.length_append]; omega)) ?_)))
    rintro _ h11 ⟨O11,X11,t11⟩
    rw [e3] at X11
    refine Wc [(5,_),(7,_),(8,_),(23,_),(24,_),(25,_)] rfl ?_
    have ll : x.i.l.length ≤ 1000 := okx.ll
    have gd := VS.one_gd (P := VS.short) hM (ps ++ L0) x.i s (fun _ => by show 1 ≤ 8; omega) w8 hne
    have gr := VS.one_gr hM (ps ++ L0) x.i hne z8
    have ol := VS.one_ol (M := M) (ps ++ L0) x.i hne
    have er : (bl.map IM.i).drop i = x.i :: (bl.map IM.i).drop (i + 1) := by
      rw [List.drop_eq_getElem_cons (by simpa using hil)]
      simp [hx]
    rw [er] at r8
    unfold VS.run at r8
    generalize hs1 : s.one M (ps ++ L0) x.i = s1 at *
    have x511 : Xe h5 h11 := ⟨by have := x58.next; have := x810.next; have := t11.t.ext.next; omega,fun j hj _ => by rw [t11.k j ((e4 j).2 hj),x810.get j (by have := x58.next; omega) fun e => e,x58.get j hj fun e => e]⟩
    have o11 : ∀ j,O11 j → h5.next ≤ j := fun j q => (t11.t.own j q).elim (o8 j) fun r => by have := x58.next; have := x810.next; omega
    have Y11 := Y10.turn t11.t
    have g311 : At h11 h2.next (.cells [.slice la L0.length lc,.slice ba bl.length bc] 0 false) := ((show At h3 h2.next _ from g3).ext x35 (fun q => q)).ext x511 (fun q => q)
    unfold VS.Gr at gr
    unfold VS.Ol at ol
    obtain ⟨a1,c1,oa1,oc1,ms1,XX⟩ := id X11
    have dn : (bl.map IM.i).drop (i + 1) = [] ↔ ¬ i < bl.length - 1 := by
      rw [List.drop_eq_nil_iff,List.length_map]; omega
    refine Zo (fun e' h' => ∃ d : Bool,e' = [(5,ptr h2.next),(7,ptr K.p),(23,.slice ba bl.length bc),(24,.int .i64 (bl.length : Int)),(25,.int .i64 (i : Int)),(52,.bool d)] ∧ h11 = h' ∧ (d = true ↔ s1.bad = true ∨ s1.op = [] ∧ i < bl.length - 1)) ?_ ?_
    · refine Wl (Wa rfl rfl (Wa rfl rfl (Wa rfl rfl (We (v := .bool s1.bad) rfl XX.g rfl (Wa rfl rfl ?_)))))
      cases cb : s1.bad with
      | true =>
        refine Wg rfl (Wg rfl (Wg rfl (Wg rfl (Wg rfl (Wg rfl (Wg rfl (Wg rfl (Wg rfl (Wg rfl (Wg rfl (Wg rfl (Wg rfl (Wg rfl (Wa rfl rfl (Wk [(5,_),(7,_),(23,_),(24,_),(25,_),(52,_)] rfl ?_)))))))))))))))
        exact ⟨true,rfl,rfl,by simp [cb]⟩
      | false =>
        refine Wh rfl (Wa rfl rfl (Wh rfl (Wa rfl rfl (Wh rfl (Wa rfl rfl (Wh rfl (We (v := .slice oa1 s1.op.length oc1) rfl XX.g rfl (Wh rfl (Wa rfl rfl (Wh rfl (Wi (w := .bool (decide (s1.op = []))) rfl rfl (by congr 1; rw [Bool.eq_iff_iff]; simp) (Wh rfl (Wa rfl rfl ?_)))))))))))))
        by_cases co : s1.op = []
        · rw [decide_eq_true co]
          refine Wh rfl (Wa rfl rfl (Wh rfl (Wa rfl rfl (Wh rfl (We (v := .slice ba bl.length bc) rfl g311 rfl (Wh rfl (Wa rfl rfl (Wh rfl (Wi (w := .int .i64 ((bl.length - 1 : Nat) : Int)) rfl rfl (by rw [w64 (by omega)]; congr 1; omega) (Wh rfl (Wi (w := .bool (decide (i < bl.length - 1))) rfl rfl (by congr 1; rw [Bool.eq_iff_iff]; simp) ?_)))))))))))
          refine Wh rfl (Wa rfl rfl (Wa rfl rfl (Wk [(5,_),(7,_),(23,_),(24,_),(25,_),(52,_)] rfl ?_)))
          exact ⟨decide (i < bl.length - 1),rfl,rfl,by simp [cb,co]⟩
        · rw [decide_eq_false co]
          refine Wg rfl (Wg rfl (Wg rfl (Wg rfl (Wg rfl (Wg rfl (Wh rfl (Wa rfl rfl (Wa rfl rfl (Wk [(5,_),(7,_),(23,_),(24,_),(25,_),(52,_)] rfl ?_)))))))))
          exact ⟨false,rfl,rfl,by simp [cb,co]⟩
    · rintro _ _ ⟨d,rfl,rfl,hd⟩
      refine Wn rfl (fun hc2 => ?_) (fun hc2 => ?_)
      · refine Wd (Wa rfl rfl (Wc [(6,_)] rfl ?_))
        refine Xo (Ws.mk _ rfl ⟨?_,x05.then0 x511⟩)
        have hd2 := hd.1 hc2
        have : VS.body M (ps ++ L0) rs (bl.map IM.i) = false := by
          rw [r8]
          rcases hd2 with q | ⟨q1,q2⟩
          · rw [if_pos q]
          · by_cases cb : s1.bad = true
            · rw [if_pos cb]
            · rw [if_neg cb,if_pos q1,decide_eq_false (fun q => dn.1 q q2)]
        rw [this]; rfl
      · have hd2 : ¬ (s1.bad = true ∨ s1.op = [] ∧ i < bl.length - 1) := fun q => by rw [hd.2 q] at hc2; cases hc2
        refine Ya (Wl (Wa rfl rfl (Wa rfl rfl (Wk [(5,_),(7,_),(23,_),(24,_),(25,_)] rfl ?_))))
        refine ⟨bl.length - (i + 1),by omega,i + 1,O11,s1,by rw [Zi (by omega)],by omega,rfl,X11,Y11,gd.1,gd.2 z8,fun q r => hd2 (.inr ⟨r,by omega⟩),by omega,by omega,x511,o11,?_⟩
        rw [r8,if_neg (fun q => hd2 (.inl q))]
        by_cases co : s1.op = []
        · have hnl : ¬ i < bl.length - 1 := fun q => hd2 (.inr ⟨co,q⟩)
          rw [if_pos co,dn.2 hnl]
          unfold VS.run
          rw [decide_eq_true rfl,decide_eq_true co]
        · rw [if_neg co]
  · have hil : i = bl.length := by have := of_decide_eq_false hc; omega
    subst hil
    obtain ⟨a8,c8,oa8,oc8,ms8,X8⟩ := X8
    have er : (bl.map IM.i).drop bl.length = [] := by rw [List.drop_eq_nil_iff,List.length_map]; exact Nat.le_refl _
    rw [er] at r8
    unfold VS.run at r8
    refine Xn (Xp ?_)
    refine Xc (Wd (Wa rfl rfl (Wa rfl rfl (Wa rfl rfl (We (v := .slice oa8 s.op.length oc8) rfl X8.g rfl (Wa rfl rfl (Wi (w := .bool (decide (s.op ≠ []))) rfl rfl (by congr 1; rw [Bool.eq_iff_iff]; simp [← List.length_pos_iff]) (Wc [(59,_)] rfl ?_))))))))
    refine Wo rfl (fun hc => ?_) (fun hc => ?_)
    · have q := of_decide_eq_true hc
      refine Xc (Wd (Wa rfl rfl (Wc [(6,_)] rfl ?_)))
      refine Yo (Ws.mk _ rfl ⟨?_,x08⟩)
      rw [r8,decide_eq_false q]; rfl
    · have q : s.op = [] := by simpa using hc
      refine Wr (Wd (Wa rfl rfl (Wc [(6,_)] rfl ?_)))
      refine Xo (Ws.mk _ rfl ⟨?_,x08⟩)
      rw [r8,decide_eq_true q]; rfl

end
section
/- Which functions may be named (val's): those that are exported. -/
abbrev bos (xs : List Bool) : List Value := xs.map Value.bool
theorem zeros_bos : ∀ n : Nat,Xt [.bool false] n = bos (List.replicate n false)
  | 0 => rfl
  | n + 1 => by
    show Value.bool false :: Xt [.bool false] n = _
    rw [zeros_bos n]; rfl
theorem put_bos (D : List Bool) (x : Nat) : putL (bos D) (0 + (x : Int).toNat * 1) [.bool true] = bos (D.set x true) := by
  show (bos D).set (0 + (x : Int).toNat * 1) (.bool true) = _
  rw [show 0 + (x : Int).toNat * 1 = x by omega]
  simp [bos,List.map_set]
def PD (n nx : Nat) (D : List Bool) : Prop := D.length = n ∧ ∀ i,nx ≤ i → i < n → D[i]? = some false
theorem PD.set {n nx x : Nat} {D : List Bool} (p : PD n nx D) (h : x < nx ∨ n ≤ x) : PD n nx (D.set x true) := ⟨by rw [List.length_set,p.1],fun i h1 h2 => by
  rw [List.getElem?_set,if_neg (by omega)]; exact p.2 i h1 h2⟩
structure DcS (h : Heap) (S : Nat → Prop) (mc : List Value) (n nx : Nat) (es : List (Nat × Nat)) : Prop where
  fu : ∃ a c,mc[1]? = some (.slice a n c)
  gl : ∃ a m c l,mc[4]? = some (.slice a m c) ∧ SlA h 3 a m c l ∧ (∀ i,Blk a i → S i) ∧ m ≤ 1000000 ∧ ∀ i,i < m → ∃ u v ia ic,∃ x : List IM,(l.drop (i * 3)).take 3 = [u,v,.slice ia x.length ic] ∧ isCell u = true ∧ isCell v = true ∧ SlA h 6 ia x.length ic (en IM.enc x) ∧ (∀ i,Blk ia i → S i) ∧ x.length ≤ 1000000 ∧ ∀ y ∈ x,y.i.a < 4294967296 ∧ (y.i.op = 210 → y.i.a < nx)
  el : ∃ a m c l,mc[8]? = some (.slice a m c) ∧ SlA h 5 a m c l ∧ (∀ i,Blk a i → S i) ∧ m ≤ 1000000 ∧ ∀ i,i < m → ∃ t u v w qa qn qc ql,(l.drop (i * 5)).take 5 = [t,u,v,w,.slice qa qn qc] ∧ [t,u,v,w].all isCell = true ∧ SlA h 1 qa qn qc ql ∧ (∀ i,Blk qa i → S i) ∧ qn ≤ 1000000 ∧ ∀ j,j < qn → ∃ ia ic,∃ x : List IM,ql[j]? = some (.slice ia x.length ic) ∧ SlA h 6 ia x.length ic (en IM.enc x) ∧ (∀ i,Blk ia i → S i) ∧ x.length ≤ 1000000 ∧ ∀ y ∈ x,y.i.a < 4294967296 ∧ (y.i.op = 210 → y.i.a < nx)
  ex : ∃ a c l,mc[5]? = some (.slice a es.length c) ∧ SlA h 3 a es.length c l ∧ (∀ i,Blk a i → S i) ∧ ∀ j (hj : j < es.length),∃ s : ByteArray,(l.drop (j * 3)).take 3 = [.string s,.int .u8 (es[j].1 : Int),.int .u32 (es[j].2 : Int)]
  hx : nx ≤ n
  h1 : ∀ j,j < nx → es[j]? = some (0,j)
  h2 : ∀ e ∈ es,e.2 < 4294967296 ∧ (e.1 = 0 → e.2 < nx ∨ n ≤ e.2)
  h3 : es.length ≤ 1000000
  hn : n ≤ 1000000
  len : mc.length = 13
  cell : mc.all isCell = true
abbrev fnM (po : Nat) : Value := .func (.func 158) ⟨[]⟩ ⟨[ptr po]⟩
section
variable {h : Heap} {po pm o n c nx : Nat} {D : List Bool}
theorem C158 {x : Nat} (gp : At h po (.cells [.slice (some ⟨o,0,none⟩) n c] 0 false)) (go : At h o (.cells (bos D) 1 false)) (hD : D.length = n) (hx : x < 4294967296) (hn : n ≤ 1000000) :
    Fn Try.prog 158 [.int .u32 (x : Int),ptr po] h fun v h' => At h' o (.cells (bos (D.set x true)) 1 false) ∧ Ext (· = o) h h' := by
  refine fnK F158.fok rfl ?_
  refine Wd (Wa rfl rfl (We (v := .slice (some ⟨o,0,none⟩) n c) rfl gp rfl (Wa rfl rfl (Wb rfl (C91 (n := x) (m := n) hx (by omega)) ?_))))
  rintro _ _ ⟨rfl,rfl⟩
  refine Wc [(0,_),(1,_),(6,_)] rfl ?_
  refine Wn rfl (fun hc => ?_) (fun hc => ?_)
  · have hlt := of_decide_eq_true hc
    refine Wl (We (v := .slice (some ⟨o,0,none⟩) n c) rfl gp rfl (Wa rfl rfl (Xi rfl rfl ⟨by omega,by omega⟩ (Wm (l := [.bool true]) rfl rfl rfl rfl go (by simp [bos]; omega) rfl fun h1 n1 x1 g1 => Wk [] rfl ?_))))
    rw [put_bos] at g1
    exact Ws.mk _ rfl ⟨g1,x1⟩
  · have hlt := of_decide_eq_false hc
    refine Ya (Ws.mk _ rfl ⟨?_,Ext.refl _ _⟩)
    rw [List.set_eq_of_length_le (by omega)]; exact go
theorem C159 {ia : Option Addr} {ic : Nat} {x : List IM} (gm : At h pm (.cells [fnM po] 0 false)) (gp : At h po (.cells [.slice (some ⟨o,0,none⟩) n c] 0 false)) (go : At h o (.cells (bos D) 1 false)) (hD : D.length = n) (hn : n ≤ 1000000) (s : SlA h 6 ia x.length ic (en IM.enc x)) (bi : ∀ i,Blk ia i → i ≠ o) (ho1 : po ≠ o) (ho2 : pm ≠ o) (hx : x.length ≤ 1000000) (hP : PD n nx D) (ha : ∀ y ∈ x,y.i.a < 4294967296 ∧ (y.i.op = 210 → y.i.a < nx)) :
    Fn Try.prog 159 [.slice ia x.length ic,ptr pm] h fun v h' => ∃ D',PD n nx D' ∧ At h' o (.cells (bos D') 1 false) ∧ Ext (· = o) h h' := by
  have hol := go.lt
  refine fnK F159.fok rfl ?_
  refine Wd (Wa rfl rfl (Wa rfl rfl (Wa rfl rfl (Wc [(1,_),(5,_),(6,_),(7,_)] rfl ?_))))
  refine Ze ?_
  refine Xy (fun k e h' => ∃ (i : Nat) (D' : List Bool),e = [(1,ptr pm),(5,.slice ia x.length ic),(6,.int .i64 (x.length : Int)),(7,.int .i64 (i : Int))] ∧ i ≤ x.length ∧ k = x.length - i ∧ PD n nx D' ∧ At h' o (.cells (bos D') 1 false) ∧ Ext (· = o) h h') ?_ (k := x.length) ⟨0,D,rfl,by omega,rfl,hP,go,Ext.refl _ _⟩
  rintro k e h1 ⟨i,D1,rfl,hi,rfl,hP1,go1,x1⟩
  have hD1 := hP1.1
  refine Wd (Wa rfl rfl (Wc [(1,_),(5,_),(6,_),(7,_),(8,_)] rfl ?_))
  refine Wo rfl (fun hc => ?_) (fun hc => ?_)
  · have hlt : i < x.length := by have := of_decide_eq_true hc; omega
    have hn1 := x1.next
    refine Wr (Wt ?_)
    refine Wd (Wops_elA IM.enc_len rfl rfl (s.ext x1 bi) rfl hlt fun p => Xh fun h2 n2 x2 g2 => Wm (l := x[i].enc) rfl rfl rfl rfl g2 (by simp) rfl fun h3 n3 x3 g3 => Wc [(1,_),(4,_),(5,_),(6,_),(7,_)] rfl ?_)
    replace g3 : At h3 h1.next (.cells x[i].enc 0 false) := g3
    have x13 : Xe h1 h3 := x2.then x3 fun j q => .inr (by omega)
    have x03 := x1.then0 x13
    refine Wd (Wa rfl rfl (We (v := .int .i64 x[i].i.op) rfl g3 rfl (Wa rfl rfl (Wc [(1,_),(4,_),(5,_),(6,_),(7,_),(13,_)] rfl ?_))))
    refine Wn rfl (fun hc2 => ?_) (fun hc2 => ?_)
    · refine Wl (We (v := fnM po) rfl (gm.ext x03 ho2) rfl (Wa rfl rfl (We (v := .int .u32 (x[i].i.a : Int)) rfl g3 rfl (Jp rfl rfl (C158 (gp.ext x03 ho1) (go1.ext x13 fun q => q) hD1 (ha _ (List.getElem_mem hlt)).1 hn) ?_))))
      rintro _ h4 ⟨go4,x4⟩
      refine Wk [(1,_),(5,_),(6,_),(7,_)] rfl ?_
      refine Wl (Wa rfl rfl (Wa rfl rfl (Wk [(1,_),(5,_),(6,_),(7,_)] rfl ?_)))
      exact ⟨x.length - (i + 1),by omega,i + 1,_,by rw [Zi (by omega)],by omega,rfl,hP1.set (.inl ((ha _ (List.getElem_mem hlt)).2 (eq_of_beq hc2))),go4,x03.trans x4⟩
    · refine Ya (Wl (Wa rfl rfl (Wa rfl rfl (Wk [(1,_),(5,_),(6,_),(7,_)] rfl ?_))))
      exact ⟨x.length - (i + 1),by omega,i + 1,D1,by rw [Zi (by omega)],by omega,rfl,hP1,go1.ext x13 fun q => q,x03⟩
  · refine Xn (Xp ?_)
    exact Ws.mk _ rfl ⟨D1,hP1,go1,x1⟩
end
structure Dci (h h' : Heap) (b po pm o n nx c : Nat) (mc : List Value) (D : List Bool) : Prop where
  x : Xe h h'
  gb : At h' b (.cells mc 0 false)
  gp : At h' po (.cells [.slice (some ⟨o,0,none⟩) n c] 0 false)
  gm : At h' pm (.cells [fnM po] 0 false)
  go : At h' o (.cells (bos D) 1 false)
  hP : PD n nx D
  ob : b ≠ o
  op : po ≠ o
  om : pm ≠ o
  on : h.next ≤ o
section
variable {h h' h2 : Heap} {b po pm o n nx c : Nat} {mc : List Value} {D D' : List Bool}
theorem Dci.ext0 (q : Dci h h' b po pm o n nx c mc D) (x : Xe h' h2) : Dci h h2 b po pm o n nx c mc D :=
  ⟨q.x.then0 x,q.gb.ext x,q.gp.ext x,q.gm.ext x,q.go.ext x,q.hP,q.ob,q.op,q.om,q.on⟩
theorem Dci.step (q : Dci h h' b po pm o n nx c mc D) (x : Ext (· = o) h' h2) (g : At h2 o (.cells (bos D') 1 false)) (l : PD n nx D') : Dci h h2 b po pm o n nx c mc D' :=
  ⟨q.x.then x fun i r => .inr (by have := q.on; omega),q.gb.ext x q.ob,q.gp.ext x q.op,q.gm.ext x q.om,g,l,q.ob,q.op,q.om,q.on⟩
end
def trues (n : Nat) (D : List Bool) (j : Nat) : Prop := ∀ i,i < j → i < n → D[i]? = some true
theorem trues_keep {n x : Nat} {D : List Bool} {j : Nat} (t : trues n D j) (hn : n ≤ D.length) : trues n (D.set x true) j := fun i hi hin => by
  rw [List.getElem?_set]
  by_cases e : x = i
  · subst e; rw [if_pos rfl,if_pos (by omega)]
  · rw [if_neg e]; exact t i hi hin
theorem trues_set {n : Nat} {D : List Bool} {j : Nat} (t : trues n D j) (hD : n ≤ D.length) : trues n (D.set j true) (j + 1) := fun i hi hn => by
  rw [List.getElem?_set]
  by_cases e : j = i
  · subst e; rw [if_pos rfl,if_pos (by omega)]
  · rw [if_neg e]; exact t i (by omega) hn
theorem trues_all {n nx : Nat} {D : List Bool} (hx : nx ≤ n) (t : trues nx D nx) (hP : PD n nx D) : D = List.replicate nx true ++ List.replicate (n - nx) false := by
  apply List.ext_getElem?
  intro i
  by_cases hi : i < nx
  · rw [t i hi hi,List.getElem?_append_left (by simp; omega)]; simp [hi]
  · by_cases h2 : i < n
    · rw [hP.2 i (by omega) h2,List.getElem?_append_right (by simp; omega)]
      rw [List.length_replicate,List.getElem?_replicate,if_pos (by omega)]
    · rw [List.getElem?_eq_none (by have := hP.1; omega),List.getElem?_eq_none (by simp; omega)]
set_option maxHeartbeats 1000000 in
theorem C120 {h : Heap} {S : Nat → Prop} {mc : List Value} {n nx : Nat} {es : List (Nat × Nat)} (q : DcS h S mc n nx es) (hS : ∀ i,S i → i < h.next) :
    Fn Try.prog 120 [.agg ⟨mc⟩] h fun v h' => ∃ a c,v = .slice a n c ∧ SlA h' 1 a n c (bos (List.replicate nx true ++ List.replicate (n - nx) false)) ∧ Xe h h' := by
  obtain ⟨fa,fc,fu⟩ := q.fu
  obtain ⟨ga,gm,gc,gl,gu,gs,gS,gml,gi⟩ := q.gl
  obtain ⟨ea,em,ec,el,eu,els,eS,eml,ei⟩ := q.el
  obtain ⟨xa,xc,xl,xu,xs,xS,xi⟩ := q.ex
  have hn := q.hn
  refine fnK F120.fok rfl ?_
  refine Wd (Ye (cs := mc) rfl rfl fun h1 n1 x1 g1 => Wa rfl rfl (Wc [(1,_)] rfl ?_))
  refine Wd (Wa rfl rfl (We (v := .slice fa n fc) rfl g1 fu (Wa rfl rfl (Wops_mkSl (k := n) rfl rfl ⟨by omega,by omega⟩ fun h2 cc n2 x2 g2 => Xh fun h3 n3 x3 g3 => Wm (l := [.slice (some ⟨h1.next,0,none⟩) n cc]) rfl rfl rfl rfl g3 (by simp) rfl fun h4 n4 x4 g4 => Wc [(1,_),(3,_)] rfl ?_))))
  refine Wd (Wa rfl rfl (Xh fun h5 n5 x5 g5 => Wm (l := [fnM h2.next]) rfl rfl rfl rfl g5 (by simp) rfl fun h6 n6 x6 g6 => Wc [(1,_),(3,_),(4,_)] rfl ?_))
  refine Wd (Wa rfl rfl (Wa rfl rfl (Wc [(1,_),(3,_),(4,_),(5,_)] rfl ?_)))
  have x24 : Xe h2 h4 := x3.then x4 fun i r => .inr (by omega)
  have x46 : Xe h4 h6 := x5.then x6 fun i r => .inr (by omega)
  rw [zeros_bos] at g2
  have Q0 : Dci h h6 h.next h2.next h4.next h1.next n nx cc mc (List.replicate n false) := by
    have y := ((x1.then0 x2).then0 x24).then0 x46
    have z1 := x2.next
    have z2 := x24.next
    refine ⟨y,((At.ext g1 x2 fun q => q).ext x24 fun q => q).ext x46 fun q => q,(show At h4 h2.next _ from g4).ext x46 fun q => q,g6,(At.ext g2 x24 fun q => q).ext x46 fun q => q,⟨List.length_replicate,fun i _ hi => by simp [hi]⟩,by omega,by omega,by omega,by omega⟩
  generalize hb : h.next = b at Q0 ⊢
  generalize hpo : h2.next = po at Q0 ⊢
  generalize hpm : h4.next = pm at Q0 ⊢
  generalize ho : h1.next = o at Q0 ⊢
  clear g1 g2 g3 g4 g5 g6 x1 x2 x3 x4 x5 x6 x24 x46 n1 n2 n3 n4 n5 n6 hpo hpm ho
  have hbo : ∀ {h' : Heap} {D : List Bool},Dci h h' b po pm o n nx cc mc D → ∀ i,S i → i ≠ o := fun q i r => by have := q.on; have := hS i r; omega
  refine Xc (Wd (Wa rfl rfl (We (v := .slice ga gm gc) rfl Q0.gb gu (Wa rfl rfl (Wa rfl rfl (Wc [(1,_),(3,_),(4,_),(5,_),(21,_),(22,_),(23,_)] rfl ?_))))))
  refine Wt ?_
  refine Xy (fun k e h' => ∃ (i : Nat) (D : List Bool),e = [(1,ptr b),(3,ptr po),(4,ptr pm),(5,.func (.func 159) ⟨[]⟩ ⟨[ptr pm]⟩),(21,.slice ga gm gc),(22,.int .i64 (gm : Int)),(23,.int .i64 (i : Int))] ∧ i ≤ gm ∧ k = gm - i ∧ Dci h h' b po pm o n nx cc mc D) ?_ (k := gm) ⟨0,_,rfl,by omega,rfl,Q0⟩
  clear Q0
  rintro k e h7 ⟨i,D7,rfl,hi,rfl,Q7⟩
  refine Wd (Wa rfl rfl (Wc [(1,_),(3,_),(4,_),(5,_),(21,_),(22,_),(23,_),(24,_)] rfl ?_))
  refine Wo rfl (fun hc => ?_) (fun hc => ?_)
  · have hlt : i < gm := by have := of_decide_eq_true hc; omega
    obtain ⟨u,v,ia,ic,x,e1,e2,e3,e4,e5,e6,e7⟩ := gi i hlt
    refine Wr (Wt ?_)
    refine Wd (Yj rfl rfl (gs.ext Q7.x) hlt e1 fun p => Xh fun h8 n8 x8 g8 => Wm (l := [u,v,.slice ia x.length ic]) rfl rfl rfl rfl g8 (by simp) (show (isCell u && (isCell v && true)) = true by rw [e2,e3]; rfl) fun h9 n9 x9 g9 => Wc [(1,_),(3,_),(4,_),(5,_),(7,_),(21,_),(22,_),(23,_)] rfl ?_)
    have Q9 := Q7.ext0 (x8.then x9 fun j r => .inr (by omega))
    refine Wl (Wa rfl rfl (Wa rfl rfl (We (v := .slice ia x.length ic) rfl g9 rfl (Jp rfl rfl (C159 Q9.gm Q9.gp Q9.go Q9.hP.1 hn (e4.ext Q9.x) (fun j r => hbo Q9 j (e5 j r)) Q9.op Q9.om e6 Q9.hP e7) ?_))))
    rintro _ h10 ⟨D10,l10,g10,x10⟩
    refine Wk [(1,_),(3,_),(4,_),(5,_),(21,_),(22,_),(23,_)] rfl ?_
    refine Wl (Wa rfl rfl (Wa rfl rfl (Wk [(1,_),(3,_),(4,_),(5,_),(21,_),(22,_),(23,_)] rfl ?_)))
    exact ⟨gm - (i + 1),by omega,i + 1,D10,by rw [Zi (by omega)],by omega,rfl,Q9.step x10 g10 l10⟩
  refine Xn (Xp ?_)
  refine Xc (Wd (Wa rfl rfl (We (v := .slice ea em ec) rfl Q7.gb eu (Wa rfl rfl (Wa rfl rfl (Wc [(1,_),(3,_),(4,_),(5,_),(33,_),(34,_),(35,_)] rfl ?_))))))
  refine Wt ?_
  refine Xy (fun k e h' => ∃ (i : Nat) (D : List Bool),e = [(1,ptr b),(3,ptr po),(4,ptr pm),(5,.func (.func 159) ⟨[]⟩ ⟨[ptr pm]⟩),(33,.slice ea em ec),(34,.int .i64 (em : Int)),(35,.int .i64 (i : Int))] ∧ i ≤ em ∧ k = em - i ∧ Dci h h' b po pm o n nx cc mc D) ?_ (k := em) ⟨0,_,rfl,by omega,rfl,Q7⟩
  clear Q7 hc hi
  rintro k e h7 ⟨i,D7,rfl,hi,rfl,Q7⟩
  refine Wd (Wa rfl rfl (Wc [(1,_),(3,_),(4,_),(5,_),(33,_),(34,_),(35,_),(36,_)] rfl ?_))
  refine Wo rfl (fun hc => ?_) (fun hc => ?_)
  · have hlt : i < em := by have := of_decide_eq_true hc; omega
    obtain ⟨t,u,v,w,qa,qn,qc,ql,e1,e2,e3,e4,e5,e6⟩ := ei i hlt
    refine Wr (Wt ?_)
    refine Wd (Yj rfl rfl (els.ext Q7.x) hlt e1 fun p => Xh fun h8 n8 x8 g8 => Wm (l := [t,u,v,w,.slice qa qn qc]) rfl rfl rfl rfl g8 (by simp) (show ([t,u,v,w] ++ [Value.slice qa qn qc]).all isCell = true by rw [List.all_append,e2]; rfl) fun h9 n9 x9 g9 => Wc [(1,_),(3,_),(4,_),(5,_),(9,_),(33,_),(34,_),(35,_)] rfl ?_)
    have Q9 := Q7.ext0 (x8.then x9 fun j r => .inr (by omega))
    refine Wd (Wa rfl rfl (We (v := .slice qa qn qc) rfl g9 rfl (Wa rfl rfl (Wa rfl rfl (Wc [(1,_),(3,_),(4,_),(5,_),(33,_),(34,_),(35,_),(40,_),(41,_),(42,_)] rfl ?_)))))
    refine Ze ?_
    refine Xy (fun k e h' => ∃ (j : Nat) (D : List Bool),e = [(1,ptr b),(3,ptr po),(4,ptr pm),(5,.func (.func 159) ⟨[]⟩ ⟨[ptr pm]⟩),(33,.slice ea em ec),(34,.int .i64 (em : Int)),(35,.int .i64 (i : Int)),(40,.slice qa qn qc),(41,.int .i64 (qn : Int)),(42,.int .i64 (j : Int))] ∧ j ≤ qn ∧ k = qn - j ∧ Dci h h' b po pm o n nx cc mc D) ?_ (k := qn) ⟨0,_,rfl,by omega,rfl,Q9⟩
    clear Q7 Q9 g8 g9 x8 x9 n8 n9
    rintro k e h10 ⟨j,D10,rfl,hj,rfl,Q10⟩
    refine Wd (Wa rfl rfl (Wc [(1,_),(3,_),(4,_),(5,_),(33,_),(34,_),(35,_),(40,_),(41,_),(42,_),(43,_)] rfl ?_))
    refine Wo rfl (fun hc2 => ?_) (fun hc2 => ?_)
    · have hlt2 : j < qn := by have := of_decide_eq_true hc2; omega
      obtain ⟨ia,ic,x,f1,f2,f3,f4,f5⟩ := e6 j hlt2
      refine Wr (Wt ?_)
      refine Wd (Xx (u := .slice ia x.length ic) rfl rfl (e3.ext Q10.x) ⟨by omega,by omega⟩ (by rw [Int.toNat_natCast]; exact f1) fun p => Wa rfl rfl (Wc [(1,_),(3,_),(4,_),(5,_),(11,_),(33,_),(34,_),(35,_),(40,_),(41,_),(42,_)] rfl ?_))
      refine Wl (Wa rfl rfl (Wa rfl rfl (Jp rfl rfl (C159 Q10.gm Q10.gp Q10.go Q10.hP.1 hn (f2.ext Q10.x) (fun j r => hbo Q10 j (f3 j r)) Q10.op Q10.om f4 Q10.hP f5) ?_)))
      rintro _ h11 ⟨D11,l11,g11,x11⟩
      refine Wk [(1,_),(3,_),(4,_),(5,_),(33,_),(34,_),(35,_),(40,_),(41,_),(42,_)] rfl ?_
      refine Wl (Wa rfl rfl (Wa rfl rfl (Wk [(1,_),(3,_),(4,_),(5,_),(33,_),(34,_),(35,_),(40,_),(41,_),(42,_)] rfl ?_)))
      exact ⟨qn - (j + 1),by omega,j + 1,D11,by rw [Zi (by omega)],by omega,rfl,Q10.step x11 g11 l11⟩
    · refine Xn (Xp ?_)
      refine Wl (Wa rfl rfl (Wa rfl rfl (Wk [(1,_),(3,_),(4,_),(5,_),(33,_),(34,_),(35,_)] rfl ?_)))
      exact ⟨em - (i + 1),by omega,i + 1,D10,by rw [Zi (by omega)],by omega,rfl,Q10⟩
  refine Xn (Xp ?_)
  have hxx := q.hx
  have hx1 := q.h1
  have hx2 := q.h2
  have hx3 := q.h3
  refine Xc (Wd (Wa rfl rfl (We (v := .slice xa es.length xc) rfl Q7.gb xu (Wa rfl rfl (Wa rfl rfl (Wc [(3,_),(4,_),(52,_),(53,_),(54,_)] rfl ?_))))))
  refine Wt ?_
  refine Xy (fun k e h' => ∃ (i : Nat) (D : List Bool),e = [(3,ptr po),(4,ptr pm),(52,.slice xa es.length xc),(53,.int .i64 (es.length : Int)),(54,.int .i64 (i : Int))] ∧ i ≤ es.length ∧ k = es.length - i ∧ Dci h h' b po pm o n nx cc mc D ∧ trues nx D i) ?_ (k := es.length) ⟨0,_,rfl,by omega,rfl,Q7,fun j hj => by omega⟩
  clear Q7 hc hi
  rintro k e h7 ⟨i,D7,rfl,hi,rfl,Q7,T7⟩
  refine Wd (Wa rfl rfl (Wc [(3,_),(4,_),(52,_),(53,_),(54,_),(55,_)] rfl ?_))
  refine Wo rfl (fun hc => ?_) (fun hc => ?_)
  · have hlt : i < es.length := by have := of_decide_eq_true hc; omega
    obtain ⟨s,e1⟩ := xi i hlt
    have he2 := hx2 _ (List.getElem_mem hlt)
    refine Wr (Wt ?_)
    refine Wd (Yj rfl rfl (xs.ext Q7.x) hlt e1 fun p => Xh fun h8 n8 x8 g8 => Wm (l := [.string s,.int .u8 (es[i].1 : Int),.int .u32 (es[i].2 : Int)]) rfl rfl rfl rfl g8 (by simp) rfl fun h9 n9 x9 g9 => Wc [(3,_),(4,_),(13,_),(52,_),(53,_),(54,_)] rfl ?_)
    have Q9 := Q7.ext0 (x8.then x9 fun j r => .inr (by omega))
    refine Wd (Wa rfl rfl (We (v := .int .u8 (es[i].1 : Int)) rfl g9 rfl (Wa rfl rfl (Wc [(3,_),(4,_),(13,_),(52,_),(53,_),(54,_),(60,_)] rfl ?_))))
    refine Wn rfl (fun hk => ?_) (fun hk => ?_)
    · have hk0 : es[i].1 = 0 := by have := eq_of_beq hk; omega
      refine Wl (We (v := fnM po) rfl Q9.gm rfl (Wa rfl rfl (We (v := .int .u32 (es[i].2 : Int)) rfl g9 rfl (Jp rfl rfl (C158 Q9.gp Q9.go Q9.hP.1 he2.1 hn) ?_))))
      rintro _ h10 ⟨g10,x10⟩
      refine Wk [(3,_),(4,_),(52,_),(53,_),(54,_)] rfl ?_
      refine Wl (Wa rfl rfl (Wa rfl rfl (Wk [(3,_),(4,_),(52,_),(53,_),(54,_)] rfl ?_)))
      refine ⟨es.length - (i + 1),by omega,i + 1,_,by rw [Zi (by omega)],by omega,rfl,Q9.step x10 g10 (Q9.hP.set (he2.2 hk0)),?_⟩
      have hl := Q9.hP.1
      by_cases hin : i < nx
      · have e2 := hx1 i hin
        rw [List.getElem?_eq_getElem hlt] at e2
        have e3 : es[i].2 = i := by rw [Option.some.inj e2]
        rw [e3]; exact trues_set T7 (by omega)
      · exact fun j hj hjn => trues_keep T7 (by omega) j (by omega) hjn
    · refine Ya (Wl (Wa rfl rfl (Wa rfl rfl (Wk [(3,_),(4,_),(52,_),(53,_),(54,_)] rfl ?_))))
      refine ⟨es.length - (i + 1),by omega,i + 1,_,by rw [Zi (by omega)],by omega,rfl,Q9,fun j hj hjn => T7 j ?_ hjn⟩
      by_cases hji : j = i
      · subst hji
        have e2 := hx1 j hjn
        rw [List.getElem?_eq_getElem hlt] at e2
        have e3 : es[j].1 = 0 := by rw [Option.some.inj e2]
        rw [e3] at hk; exact absurd hk (by decide)
      · omega
  have hin : i = es.length := by have := of_decide_eq_false hc; omega
  subst hin
  refine Xn (Xp ?_)
  refine Wd (We (v := .slice (some ⟨o,0,none⟩) n cc) rfl Q7.gp rfl (Wa rfl rfl (Wc [(2,_)] rfl ?_)))
  have hle : nx ≤ es.length := by
    by_cases h0 : nx = 0
    · omega
    · have e2 := hx1 (nx - 1) (by omega)
      have := (List.getElem?_eq_some_iff.1 e2).1
      omega
  have eD := trues_all hxx (fun j hj hjn => T7 j (by omega) hjn) Q7.hP
  subst eD
  exact Xo (Ws.mk _ rfl ⟨some ⟨o,0,none⟩,cc,rfl,(OwS.new (n := n) (c := cc) Q7.go (by simp [bos]; omega)).sl,Q7.x⟩)

end
section
/- Types of what is made: what an instruction does to a state of which the end is known. -/
namespace VS
structure Okv (v : VS) : Prop where
  ne : v.op ≠ []
  ht : v.top.ht ≤ v.l.length
  bad : v.bad = false
theorem Okv.push {v : VS} (ok : Okv v) (ts : List Nat) : Okv (v.push ts) := ⟨ok.ne,by have := ok.ht; show v.top.ht ≤ (v.l ++ ts).length; rw [List.length_append]; omega,ok.bad⟩
theorem Ug (op : Int) (fr to : List Nat) (v : VS) : (v.opens op fr to).top = ⟨op,fr,to,v.l.length,false⟩ := by simp [top,opens]
theorem rests_top (v : VS) : v.rests.top = { v.top with dead := true } := by
  show (v.op.dropLast ++ [{ v.top with dead := true }]).getLastD _ = _
  rw [List.getLastD_concat]
theorem Okv.opens {v : VS} (ok : Okv v) (op : Int) (to : List Nat) : Okv (v.opens op [] to) :=
  ⟨by simp [VS.opens],by rw [Ug]; show v.l.length ≤ (v.l ++ []).length; simp,ok.bad⟩
theorem Okv.rests {v : VS} (ok : Okv v) : Okv v.rests :=
  ⟨by simp [VS.rests],by rw [rests_top]; show v.top.ht ≤ (v.l.take v.top.ht).length; have := ok.ht; simp; omega,ok.bad⟩
theorem pop_push {v : VS} (ok : Okv v) (i : List Nat) (t : Nat) : (v.push (i ++ [t])).pop = (t,v.push i) := by
  have h1 : ¬ (v.l ++ (i ++ [t])).length = v.top.ht := by have := ok.ht; simp; omega
  unfold pop
  rw [if_neg (show ¬ (v.push (i ++ [t])).l.length = (v.push (i ++ [t])).top.ht from h1)]
  have e : (v.push (i ++ [t])).l = (v.l ++ i) ++ [t] := by simp [push]
  rw [e,List.getLastD_concat,List.dropLast_concat]; rfl
theorem Va {v : VS} (ok : Okv v) (i : List Nat) (t : Nat) : (v.push (i ++ [t])).want t = (t,v.push i) := by
  unfold want
  rw [pop_push ok]
  simp [Xm]
theorem Kh {v : VS} (ok : Okv v) (t : Nat) : (v.push [t]).want t = (t,v) := by
  have := Va ok [] t
  rw [push_nil] at this
  exact this
theorem pop1 {v : VS} (ok : Okv v) (t : Nat) : (v.push [t]).pop = (t,v) := by
  have := pop_push ok [] t
  rw [push_nil] at this
  exact this
theorem takeR_push {v : VS} (ok : Okv v) : ∀ rs : List Nat,takeR rs (v.push rs.reverse) = (rs.reverse,v)
  | [] => by simp [takeR,push_nil]
  | t :: r => by
    have e : (t :: r).reverse = r.reverse ++ [t] := List.reverse_cons
    rw [takeR,e,Va ok,takeR_push ok r]
theorem take_push {v : VS} (ok : Okv v) (ts : List Nat) : (v.push ts).take ts = (ts,v) := by
  have := takeR_push ok ts.reverse
  rw [List.reverse_reverse] at this
  exact this
theorem Vf {v : VS} (ok : Okv v) (i o : List Nat) : fits i o (v.push i) = v.push o := by
  unfold fits; rw [take_push ok]
theorem take0 {v : VS} : (v.take []) = ([],v) := rfl
structure MM (M : Mo) : Prop where
  ty : M.types = [([],[]),([127],[127]),([127,127],[127]),([126],[126]),([],[127]),([127],[127,127])]
  tb : M.tables = [112]
  me : M.mems = 1
  gl : M.globals = [(127,true),(126,true)]
  el : M.elems = [112,112]
  ct : M.counts = true
  cn : M.count = 2
  da : M.datas = 2
  dc : M.decl = List.replicate M.funcs.length true
  fr : ∀ f ∈ M.funcs,f < 6
def Sg (M : Mo) (L : List Nat) (x : Ins) (i o : List Nat) : Prop := ∀ v : VS,Okv v → (v.push i).one M L x = v.push o
theorem Sg.at {M : Mo} {L : List Nat} {x : Ins} {i o : List Nat} {u w w' : VS} (s : Sg M L x i o) (ok : Okv u) (h : w = u.push i) (h' : w' = u.push o) : w.one M L x = w' := by rw [h,h']; exact s u ok
variable {M : Mo} {L : List Nat}
theorem opsN_r : ∀ op ∈ Gi,(69 ≤ op ∧ op ≤ 90 ∨ 103 ≤ op ∧ op ≤ 138 ∨ op = 167 ∨ 172 ≤ op ∧ op ≤ 173 ∨ 192 ≤ op ∧ op ≤ 196) ∧ (numbers op).2 ≠ 0 := by decide
theorem opsM_r : ∀ op ∈ Ko,40 ≤ op ∧ op ≤ 62 ∧ op ≠ 42 ∧ op ≠ 43 := by decide
theorem Kz {x : Ins} {s : VS} (h : 17 < x.op) : s.control M x = none := by
  simp only [control,if_neg (show ¬ x.op = 0 by omega),if_neg (show ¬ x.op = 1 by omega),if_neg (show ¬ (x.op = 2 ∨ x.op = 3 ∨ x.op = 4) by omega),if_neg (show ¬ x.op = 5 by omega),if_neg (show ¬ x.op = 11 by omega),if_neg (show ¬ x.op = 12 by omega),if_neg (show ¬ x.op = 13 by omega),if_neg (show ¬ x.op = 14 by omega),if_neg (show ¬ x.op = 15 by omega),if_neg (show ¬ x.op = 16 by omega),if_neg (show ¬ x.op = 17 by omega)]
theorem pla_none {x : Ins} {s : VS} (h : 37 ≤ x.op ∧ x.op ≠ 65 ∧ x.op ≠ 66 ∧ x.op ≠ 208 ∧ x.op ≠ 209 ∧ x.op ≠ 210) : s.places M L x = none := by
  simp only [places,if_neg (show ¬ x.op = 26 by omega),if_neg (show ¬ x.op = 27 by omega),if_neg (show ¬ x.op = 28 by omega),if_neg (show ¬ x.op = 32 by omega),if_neg (show ¬ x.op = 33 by omega),if_neg (show ¬ x.op = 34 by omega),if_neg (show ¬ x.op = 35 by omega),if_neg (show ¬ x.op = 36 by omega),if_neg (show ¬ x.op = 65 by omega),if_neg (show ¬ x.op = 66 by omega),if_neg (show ¬ x.op = 208 by omega),if_neg (show ¬ x.op = 209 by omega),if_neg (show ¬ x.op = 210 by omega)]
theorem bul_none {x : Ins} {s : VS} (h : 39 ≤ x.op ∧ x.op ≠ 63 ∧ x.op ≠ 64 ∧ x.op < 64520) : s.bulk M x = none := by
  simp only [bulk,if_neg (show ¬ x.op = 37 by omega),if_neg (show ¬ x.op = 38 by omega),if_neg (show ¬ x.op = 63 by omega),if_neg (show ¬ x.op = 64 by omega),if_neg (show ¬ x.op = 64520 by omega),if_neg (show ¬ x.op = 64521 by omega),if_neg (show ¬ (x.op = 64522 ∨ x.op = 64523) by omega),if_neg (show ¬ x.op = 64524 by omega),if_neg (show ¬ x.op = 64525 by omega),if_neg (show ¬ x.op = 64526 by omega),if_neg (show ¬ x.op = 64527 by omega),if_neg (show ¬ x.op = 64528 by omega),if_neg (show ¬ x.op = 64529 by omega)]
abbrev numP (op : Int) (i : List Nat) (o : Nat) : Prop := op ∈ Gi ∧ numbers op = (i,o)
theorem sg_n {x : Ins} {i : List Nat} {o : Nat} (h : numP x.op i o) : Sg M L x i [o] := fun v ok => by
  obtain ⟨h1,h2⟩ := h
  obtain ⟨hr,h0⟩ := opsN_r _ h1
  have hw := opsN_w _ h1
  unfold one
  rw [Kz (by omega)]; simp only
  rw [pla_none (by omega)]; simp only
  rw [bul_none (by omega)]; simp only
  rw [if_neg hw,decide_eq_false h0,Xm,h2]
  exact Vf ok i [o]
abbrev movP (op : Int) (i o : List Nat) : Prop := op ∈ Ko ∧ (if op ≥ 54 then ([127,if wide op = true then 126 else 127],([] : List Nat)) else ([127],[if wide op = true then 126 else 127])) = (i,o)
theorem sg_m (hM : MM M) {x : Ins} {i o : List Nat} (ha : x.a = 0) (h : movP x.op i o) : Sg M L x i o := fun v ok => by
  obtain ⟨h1,h2⟩ := h
  have hr := opsM_r _ h1
  have hw := opsM_w _ h1
  have hm : ∀ s : VS,(s.memory M).fails (decide (x.a > 31 ∨ 2 ^ (x.a % 32) > width x.op)) = s := fun s => by
    have hw' : 0 < width x.op := hw
    rw [decide_eq_false (by rw [ha]; simp; omega),Xm,memory,hM.me]; exact Xm s
  unfold one
  rw [Kz (by omega)]; simp only
  rw [pla_none (by omega)]; simp only
  rw [bul_none ⟨by omega,fun e => by omega,fun e => by omega,by omega⟩]; simp only
  rw [if_pos hw]
  unfold moves
  simp only [hm]
  by_cases c : x.op ≥ 54
  · rw [if_pos c] at h2 ⊢
    simp only [Prod.mk.injEq] at h2
    obtain ⟨rfl,rfl⟩ := h2
    rw [take_push ok,push_nil]
  · rw [if_neg c] at h2 ⊢
    simp only [Prod.mk.injEq] at h2
    obtain ⟨rfl,rfl⟩ := h2
    rw [Kh ok]
theorem Kq {op : Int} (lo : Int) (n : Nat) {i : List Nat} {o : Nat} (H : ∀ k : Nat,k < n → numP (lo + k) i o) (h1 : lo ≤ op) (h2 : op < lo + n) : numP op i o := by
  have := H (op - lo).toNat (by omega)
  rw [show lo + (((op - lo).toNat : Nat) : Int) = op by omega] at this
  exact this
theorem n32b {op : Int} (h1 : 106 ≤ op) (h2 : op < 106 + 15) : numP op [127,127] 127 := Kq 106 15 (by decide) h1 (by omega)
theorem n64b {op : Int} (h1 : 124 ≤ op) (h2 : op < 124 + 15) : numP op [126,126] 126 := Kq 124 15 (by decide) h1 (by omega)
theorem n32c {op : Int} (h1 : 70 ≤ op) (h2 : op < 70 + 10) : numP op [127,127] 127 := Kq 70 10 (by decide) h1 (by omega)
theorem n64c {op : Int} (h1 : 81 ≤ op) (h2 : op < 81 + 10) : numP op [126,126] 127 := Kq 81 10 (by decide) h1 (by omega)
theorem n32e {op : Int} (h1 : 172 ≤ op) (h2 : op < 172 + 2) : numP op [127] 126 := Kq 172 2 (by decide) h1 (by omega)
theorem sg_p {x : Ins} {i o : List Nat} (h : 17 < x.op) (H : ∀ v : VS,Okv v → (v.push i).places M L x = some (v.push o)) : Sg M L x i o := fun v ok => by
  unfold one
  rw [Kz h]; simp only
  rw [H v ok]
theorem sg_b {x : Ins} {i o : List Nat} (h : 37 ≤ x.op ∧ x.op ≠ 65 ∧ x.op ≠ 66 ∧ x.op ≠ 208 ∧ x.op ≠ 209 ∧ x.op ≠ 210) (H : ∀ v : VS,Okv v → (v.push i).bulk M x = some (v.push o)) : Sg M L x i o := fun v ok => by
  unfold one
  rw [Kz (by omega)]; simp only
  rw [pla_none h]; simp only
  rw [H v ok]
theorem sg_drop {x : Ins} (h : x.op = 26) (t : Nat) : Sg M L x [t] [] := sg_p (by omega) fun v ok => by
  unfold places; rw [if_pos h,pop1 ok,push_nil]
theorem sg_choose {x : Ins} (h : x.op = 27) {t : Nat} (ht : t = 127 ∨ t = 126) : Sg M L x [t,t,127] [t] := sg_p (by omega) fun v ok => by
  unfold places
  rw [if_neg (by omega),if_pos h]
  unfold choose
  have e1 : (v.push [t,t,127]).want 127 = (127,v.push [t,t]) := Va ok [t,t] 127
  have e2 : (v.push [t,t]).pop = (t,v.push [t]) := pop_push ok [t] t
  simp only [e1,e2,pop1 ok]
  rcases ht with rfl | rfl
  · rw [show (own 127 || own 127 || decide ((127 : Nat) ≠ 127 ∧ (127 : Nat) ≠ 0 ∧ (127 : Nat) ≠ 0)) = false by decide,Xm]; rfl
  · rw [show (own 126 || own 126 || decide ((126 : Nat) ≠ 126 ∧ (126 : Nat) ≠ 0 ∧ (126 : Nat) ≠ 0)) = false by decide,Xm]; rfl
theorem sg_get {x : Ins} (h : x.op = 32) {t : Nat} (hl : x.a < L.length) (ht : L.getD x.a 0 = t) : Sg M L x [] [t] := sg_p (by omega) fun v ok => by
  unfold places
  rw [if_neg (by omega),if_neg (by omega),if_neg (by omega),if_pos h,push_nil]
  unfold loc
  rw [if_pos hl,ht]
theorem sg_set {x : Ins} (h : x.op = 33) {t : Nat} (hl : x.a < L.length) (ht : L.getD x.a 0 = t) : Sg M L x [t] [] := sg_p (by omega) fun v ok => by
  unfold places
  rw [if_neg (by omega),if_neg (by omega),if_neg (by omega),if_neg (by omega),if_pos h,push_nil]
  unfold loc
  rw [if_pos hl]
  simp only [ht,Kh ok]
theorem sg_gget (hM : MM M) {x : Ins} (h : x.op = 35) {t : Nat} (ht : x.a = 0 ∧ t = 127 ∨ x.a = 1 ∧ t = 126) : Sg M L x [] [t] := sg_p (by omega) fun v ok => by
  unfold places
  rw [if_neg (by omega),if_neg (by omega),if_neg (by omega),if_neg (by omega),if_neg (by omega),if_neg (by omega),if_pos h,push_nil]
  unfold glob
  rcases ht with ⟨e,rfl⟩ | ⟨e,rfl⟩ <;> rw [e,hM.gl] <;> rfl
theorem sg_gset (hM : MM M) {x : Ins} (h : x.op = 36) {t : Nat} (ht : x.a = 0 ∧ t = 127 ∨ x.a = 1 ∧ t = 126) : Sg M L x [t] [] := sg_p (by omega) fun v ok => by
  unfold places
  rw [if_neg (by omega),if_neg (by omega),if_neg (by omega),if_neg (by omega),if_neg (by omega),if_neg (by omega),if_neg (by omega),if_pos h,push_nil]
  unfold glob
  rcases ht with ⟨e,rfl⟩ | ⟨e,rfl⟩
  · rw [e,hM.gl]
    show some (((v.push [127]).fails false).want 127).2 = some v
    rw [Xm,Kh ok]
  · rw [e,hM.gl]
    show some (((v.push [126]).fails false).want 126).2 = some v
    rw [Xm,Kh ok]
theorem sg_c32 {x : Ins} (h : x.op = 65) : Sg M L x [] [127] := sg_p (by omega) fun v ok => by
  simp only [places,h]; rw [push_nil]; rfl
theorem sg_c64 {x : Ins} (h : x.op = 66) : Sg M L x [] [126] := sg_p (by omega) fun v ok => by
  simp only [places,h]; rw [push_nil]; rfl
theorem sg_null {x : Ins} (h : x.op = 208) (ha : x.a = 112) : Sg M L x [] [112] := sg_p (by omega) fun v ok => by
  simp only [places,h,ha]; rw [push_nil]; rfl
theorem sg_isn {x : Ins} (h : x.op = 209) : Sg M L x [112] [127] := sg_p (by omega) fun v ok => by
  simp only [places,h,pop1 ok]
  show some ((v.fails (!(own 112 || decide ((112 : Nat) = 0)))).push [127]) = _
  rw [show (!(own 112 || decide ((112 : Nat) = 0))) = false by decide,Xm]
theorem sg_func (hM : MM M) {x : Ins} (h : x.op = 210) (ha : x.a < M.funcs.length) : Sg M L x [] [112] := sg_p (by omega) fun v ok => by
  simp only [places,h,push_nil]
  show some ((v.fails (!(decide (x.a < M.funcs.length) && M.decl.getD x.a false))).push [112]) = _
  have e : M.decl.getD x.a false = true := by rw [hM.dc]; simp [List.getD,ha]
  rw [decide_eq_true ha,e]
  rw [show (!(true && true)) = false by decide,Xm]
theorem tab0 (hM : MM M) {n : Nat} (h : n = 0) (s : VS) : s.table M n = (112,s) := by subst h; unfold table; rw [hM.tb]; rfl
theorem ele0 (hM : MM M) {n : Nat} (h : n < 2) (s : VS) : s.elem M n = (112,s) := by
  unfold elem; rw [hM.el]
  rcases (show n = 0 ∨ n = 1 by omega) with rfl | rfl <;> rfl
theorem mem0 (hM : MM M) (s : VS) : s.memory M = s := by rw [memory,hM.me]; exact Xm s
theorem dat0 (hM : MM M) {n : Nat} (h : n < 2) (s : VS) : s.data M n = s := by unfold data; rw [hM.ct,if_pos rfl,hM.cn,decide_eq_false (by omega),Xm]
theorem sg_37 (hM : MM M) {x : Ins} (h : x.op = 37) (ha : x.a = 0) : Sg M L x [127] [112] := sg_b (by omega) fun v ok => by
  simp only [bulk,h,tab0 hM ha,Kh ok]; rfl
theorem sg_38 (hM : MM M) {x : Ins} (h : x.op = 38) (ha : x.a = 0) : Sg M L x [127,112] [] := sg_b (by omega) fun v ok => by
  simp only [bulk,h,tab0 hM ha,take_push ok,push_nil]; rfl
theorem sg_63 (hM : MM M) {x : Ins} (h : x.op = 63) : Sg M L x [] [127] := sg_b (by omega) fun v ok => by
  simp only [bulk,h,mem0 hM,push_nil]; rfl
theorem sg_64 (hM : MM M) {x : Ins} (h : x.op = 64) : Sg M L x [127] [127] := sg_b (by omega) fun v ok => by
  simp only [bulk,h,mem0 hM,Kh ok]; rfl
theorem sg_x8 (hM : MM M) {x : Ins} (h : x.op = 64520) (ha : x.a < 2) : Sg M L x [127,127,127] [] := sg_b (by omega) fun v ok => by
  simp only [bulk,h,mem0 hM,dat0 hM ha,take_push ok,push_nil]; rfl
theorem sg_x9 (hM : MM M) {x : Ins} (h : x.op = 64521) (ha : x.a < 2) : Sg M L x [] [] := sg_b (by omega) fun v ok => by
  simp only [bulk,h,dat0 hM ha]; rfl
theorem sg_xa (hM : MM M) {x : Ins} (h : x.op = 64522 ∨ x.op = 64523) : Sg M L x [127,127,127] [] := sg_b (by omega) fun v ok => by
  simp only [bulk,if_neg (show ¬ x.op = 37 by omega),if_neg (show ¬ x.op = 38 by omega),if_neg (show ¬ x.op = 63 by omega),if_neg (show ¬ x.op = 64 by omega),if_neg (show ¬ x.op = 64520 by omega),if_neg (show ¬ x.op = 64521 by omega),if_pos h,mem0 hM,take_push ok,push_nil]
theorem sg_xc (hM : MM M) {x : Ins} (h : x.op = 64524 ∨ x.op = 64526) (ha : x.a = 0) (hb : x.b = 0) : Sg M L x [127,127,127] [] := sg_b (by omega) fun v ok => by
  rcases h with h | h
  · simp only [bulk,h,ele0 hM (show x.a < 2 by omega),tab0 hM hb]
    show some (((v.push [127,127,127]).fails (decide ((112 : Nat) ≠ 112))).take [127,127,127]).2 = _
    rw [show decide ((112 : Nat) ≠ 112) = false by decide,Xm,take_push ok,push_nil]
  · simp only [bulk,h,tab0 hM ha,tab0 hM hb]
    show some (((v.push [127,127,127]).fails (decide ((112 : Nat) ≠ 112))).take [127,127,127]).2 = _
    rw [show decide ((112 : Nat) ≠ 112) = false by decide,Xm,take_push ok,push_nil]
theorem sg_xd (hM : MM M) {x : Ins} (h : x.op = 64525) (ha : x.a < 2) : Sg M L x [] [] := sg_b (by omega) fun v ok => by
  simp only [bulk,h,ele0 hM ha]; rfl
theorem sg_xf (hM : MM M) {x : Ins} (h : x.op = 64527) (ha : x.a = 0) : Sg M L x [112,127] [127] := sg_b (by omega) fun v ok => by
  simp only [bulk,h,tab0 hM ha,Vf ok]; rfl
theorem sg_xg (hM : MM M) {x : Ins} (h : x.op = 64528) (ha : x.a = 0) : Sg M L x [] [127] := sg_b (by omega) fun v ok => by
  simp only [bulk,h,tab0 hM ha,push_nil]; rfl
theorem sg_xh (hM : MM M) {x : Ins} (h : x.op = 64529) (ha : x.a = 0) : Sg M L x [127,112,127] [] := sg_b (by omega) fun v ok => by
  simp only [bulk,h,tab0 hM ha,take_push ok,push_nil]; rfl
theorem fun0 {t : Nat} {p : List Nat × List Nat} (ht : M.types[t]? = some p) (s : VS) : s.function M t = (p,s) := by
  obtain ⟨hl,he⟩ := List.getElem?_eq_some_iff.1 ht
  unfold function
  rw [if_pos hl]
  simp [List.getD,ht]
theorem sg_call {x : Ins} (h : x.op = 16) {f : Nat} {p : List Nat × List Nat} (ha : M.funcs[x.a]? = some f) (ht : M.types[f]? = some p) : Sg M L x p.1 p.2 := fun v ok => by
  obtain ⟨hl,he⟩ := List.getElem?_eq_some_iff.1 ha
  have e1 : M.funcs.getD x.a 0 = f := by simp [List.getD,ha]
  unfold one
  have : (v.push p.1).control M x = some (v.push p.2) := by
    simp only [control,h]
    show some ((v.push p.1).calls M x.a) = _
    unfold calls
    rw [if_pos hl,e1,fun0 ht,Vf ok]
  rw [this]
theorem sg_calli (hM : MM M) {x : Ins} (h : x.op = 17) {p : List Nat × List Nat} (hb : x.b = 0) (ht : M.types[x.a]? = some p) : Sg M L x (p.1 ++ [127]) p.2 := fun v ok => by
  unfold one
  have : (v.push (p.1 ++ [127])).control M x = some (v.push p.2) := by
    simp only [control,h]
    show some ((v.push (p.1 ++ [127])).callI M x) = _
    unfold callI
    simp only [tab0 hM hb]
    rw [show decide ((112 : Nat) ≠ 112) = false by decide,Xm,Va ok]
    simp only [fun0 ht]
    rw [Vf ok]
  rw [this]
theorem sg_nop {x : Ins} (h : x.op = 1) : Sg M L x [] [] := fun v ok => by simp [one,control,h]
/-! Blocks -/
theorem one_c {x : Ins} {s r : VS} (h : s.control M x = some r) : s.one M L x = r := by unfold one; rw [h]
theorem sig_e {x : Int} (h : x = -64) (s : VS) : s.signature M x = (([],[]),s) := by unfold signature; rw [if_pos h]
theorem sig_t {x : Int} {t : Nat} (h : x = (t : Int) - 128) (ht : t = 127 ∨ t = 126) (s : VS) : s.signature M x = (([],[t]),s) := by
  unfold signature
  rw [if_neg (by omega),if_pos (by omega)]
  rcases ht with rfl | rfl <;> subst h <;> rfl
def BT (x : Ins) (to : List Nat) : Prop := x.t = -64 ∧ to = [] ∨ ∃ t : Nat,(t = 127 ∨ t = 126) ∧ x.t = (t : Int) - 128 ∧ to = [t]
theorem BT.sig {x : Ins} {to : List Nat} (b : BT x to) (s : VS) : s.signature M x.t = (([],to),s) := by
  rcases b with ⟨h,rfl⟩ | ⟨t,ht,h,rfl⟩
  · exact sig_e h s
  · exact sig_t h ht s
theorem one_blk {x : Ins} {to : List Nat} (h : x.op = 2 ∨ x.op = 3) (b : BT x to) (v : VS) : v.one M L x = v.opens x.op [] to := one_c (by
  unfold control
  rw [if_neg (by omega),if_neg (by omega),if_pos (by omega)]
  unfold blk
  rw [if_neg (by omega)]
  simp only [b.sig,take0])
theorem one_if {x : Ins} {to : List Nat} (h : x.op = 4) (b : BT x to) {v : VS} (ok : Okv v) : (v.push [127]).one M L x = v.opens 4 [] to := one_c (by
  unfold control
  rw [if_neg (by omega),if_neg (by omega),if_pos (by omega)]
  unfold blk
  rw [if_pos h]
  simp only [Kh ok,b.sig,take0,h])
theorem closes_o {v : VS} (ok : Okv v) (op : Int) (to : List Nat) : ((v.opens op [] to).push to).closes = (⟨op,[],to,v.l.length,false⟩,v) := by
  have okb := ok.opens op to
  unfold closes
  have e : ((v.opens op [] to).push to).top = ⟨op,[],to,v.l.length,false⟩ := Ug op [] to v
  rw [e]
  simp only [take_push okb]
  unfold shut VS.opens
  simp [ok.bad]
  cases v
  have := ok.bad
  simp_all
theorem one_els {x : Ins} (h : x.op = 5) {to : List Nat} {v : VS} (ok : Okv v) : ((v.opens 4 [] to).push to).one M L x = v.opens 5 [] to := one_c (by
  simp only [control,h]
  show some ((v.opens 4 [] to).push to).els = _
  unfold els
  rw [closes_o ok]
  simp [Xm])
theorem one_end {x : Ins} (h : x.op = 11) {op : Int} {to : List Nat} (h4 : op = 4 → to = []) {v : VS} (ok : Okv v) : ((v.opens op [] to).push to).one M L x = v.push to := one_c (by
  simp only [control,h]
  show some ((v.opens op [] to).push to).ends = _
  unfold ends
  rw [closes_o ok]
  have hd : decide (op = 4 ∧ ([] : List Nat) ≠ to) = false := decide_eq_false fun q => q.2 (h4 q.1).symm
  simp only [hd,Xm]
  rw [if_neg ok.ne])
theorem closes_d {v : VS} (ok : Okv v) (op : Int) : (v.opens op [] []).rests.closes = (⟨op,[],[],v.l.length,true⟩,v) := by
  unfold closes
  rw [rests_top,Ug]
  simp only [take0]
  unfold shut rests
  rw [Ug]
  simp only [VS.opens]
  have := ok.bad
  cases v
  simp_all
theorem one_endd {x : Ins} (h : x.op = 11) {op : Int} {v : VS} (ok : Okv v) : (v.opens op [] []).rests.one M L x = v := one_c (by
  simp only [control,h]
  show some (v.opens op [] []).rests.ends = _
  unfold ends
  rw [closes_d ok]
  simp only [ne_eq,not_true_eq_false,and_false,decide_false,Xm]
  rw [if_neg ok.ne,push_nil])
theorem label_o {v : VS} (op : Int) (to ps : List Nat) : ((v.opens op [] to).push ps).label 0 = (labels ⟨op,[],to,v.l.length,false⟩,(v.opens op [] to).push ps) := by
  unfold label
  have e : ((v.opens op [] to).push ps).op = v.op ++ [⟨op,[],to,v.l.length,false⟩] := rfl
  rw [e,if_pos (by simp)]
  simp [List.getD]
theorem label_o0 {v : VS} (op : Int) (to : List Nat) : (v.opens op [] to).label 0 = (labels ⟨op,[],to,v.l.length,false⟩,v.opens op [] to) := by
  have := label_o (v := v) op to []
  rw [push_nil] at this; exact this
theorem label_1 {v : VS} (op op2 : Int) (to to2 : List Nat) : ((v.opens op [] to).opens op2 [] to2).label 1 = (labels ⟨op,[],to,v.l.length,false⟩,(v.opens op [] to).opens op2 [] to2) := by
  unfold label
  have e : ((v.opens op [] to).opens op2 [] to2).op = v.op ++ [⟨op,[],to,v.l.length,false⟩] ++ [⟨op2,[],to2,(v.opens op [] to).l.length,false⟩] := rfl
  rw [e,if_pos (by simp)]
  simp [List.getD]
theorem one_brif {x : Ins} (h : x.op = 13) (ha : x.a = 0) {op : Int} (h3 : op ≠ 3) {to : List Nat} {v : VS} (ok : Okv v) : ((v.opens op [] to).push (to ++ [127])).one M L x = (v.opens op [] to).push to := one_c (by
  have okb := ok.opens op to
  simp only [control,h]
  show some (fits ((((v.opens op [] to).push (to ++ [127])).want 127).2.label x.a).1 ((((v.opens op [] to).push (to ++ [127])).want 127).2.label x.a).1 ((((v.opens op [] to).push (to ++ [127])).want 127).2.label x.a).2) = _
  rw [Va okb,ha]
  simp only [label_o]
  unfold labels
  rw [if_neg h3,Vf okb])
theorem one_brif1 {x : Ins} (h : x.op = 13) (ha : x.a = 1) {op op2 : Int} {v : VS} (ok : Okv v) : (((v.opens op [] []).opens op2 [] []).push [127]).one M L x = (v.opens op [] []).opens op2 [] [] := one_c (by
  have okb := (ok.opens op []).opens op2 []
  simp only [control,h]
  show some (fits (((((v.opens op [] []).opens op2 [] []).push [127]).want 127).2.label x.a).1 (((((v.opens op [] []).opens op2 [] []).push [127]).want 127).2.label x.a).1 (((((v.opens op [] []).opens op2 [] []).push [127]).want 127).2.label x.a).2) = _
  rw [Kh okb,ha]
  simp only [label_1]
  have e : labels ⟨op,[],[],v.l.length,false⟩ = [] := by unfold labels; split <;> rfl
  rw [e]
  show some (((((v.opens op [] []).opens op2 [] []).take []).2).push []) = _
  rw [take0,push_nil])
theorem one_br {x : Ins} (h : x.op = 12) (ha : x.a = 0) {op : Int} {v : VS} : (v.opens op [] []).one M L x = (v.opens op [] []).rests := one_c (by
  simp only [control,h]
  show some (((v.opens op [] []).label x.a).2.take ((v.opens op [] []).label x.a).1).2.rests = _
  rw [ha,label_o0]
  have e : labels ⟨op,[],[],v.l.length,false⟩ = [] := by unfold labels; split <;> rfl
  simp only [e,take0])
theorem one_dead {x : Ins} (h : x.op = 0) (v : VS) : v.one M L x = v.rests := one_c (by simp [control,h])
theorem one_brt {x : Ins} (h : x.op = 14) (ha : x.a = 0) (hl : x.l = [0,0]) {op : Int} {v : VS} (ok : Okv v) : ((v.opens op [] []).push [127]).one M L x = (v.opens op [] []).rests := one_c (by
  have okb := ok.opens op []
  simp only [control,h]
  show some (((v.opens op [] []).push [127]).branches x) = _
  have e : labels ⟨op,[],[],v.l.length,false⟩ = [] := by unfold labels; split <;> rfl
  have eb : ∀ n,n = 0 → branch [] (v.opens op [] []) n = v.opens op [] [] := fun n hn => by
    subst hn
    unfold branch
    rw [label_o0,e]
    simp only [ne_eq,not_true_eq_false,decide_false,Xm,take0,push_nil]
  unfold branches
  simp only [Kh okb,ha,label_o0,e,hl,List.foldl_cons,List.foldl_nil,eb 0 rfl,take0])
end VS

end
section
/- Made modules, with types: how a maker goes on: what it holds, what it adds. -/
open VS (Okv MM)
inductive Ru (M : Mo) (L : List Nat) (v : VS) : List IM → VS → Prop
  | nil : Ru M L v [] v
  | snoc {w : List IM} {v' v'' : VS} {x : IM} : Ru M L v w v' → v'.one M L x.i = v'' → Okv v'' → Ru M L v (w ++ [x]) v''
theorem Ru.app {M : Mo} {L : List Nat} {v v1 v2 : VS} {w : List IM} (a : Ru M L v w v1) {w2 : List IM} (b : Ru M L v1 w2 v2) : Ru M L v (w ++ w2) v2 := by
  induction b with
  | nil => simpa using a
  | snoc _ h ok ih => rw [← List.append_assoc]; exact .snoc ih h ok
theorem Ru.one {M : Mo} {L : List Nat} {v v' : VS} {x : IM} (h : v.one M L x.i = v') (ok : Okv v') : Ru M L v [x] v' := .snoc (w := []) .nil h ok
theorem Ru.two {M : Mo} {L : List Nat} {v v' v'' : VS} {x y : IM} (h : v.one M L x.i = v') (ok : Okv v') (h2 : v'.one M L y.i = v'') (ok2 : Okv v'') : Ru M L v [x,y] v'' := .snoc (w := [x]) (.one h ok) h2 ok2
structure Sm where
  oa : Option Addr
  oc : Nat
  ops : List IM
  deep : Int
  n : Nat
structure Kt where
  pk : Nat
  pp : Nat
  pm : Nat
  la : Option Addr
  lc : Nat
  ls : List Nat
  self : Int
  xa : Option Addr
  xc : Nat
  xs : List Int
  mc : List Value
  fa : Option Addr
  fc : Nat
  ta : Option Addr
  tc : Nat
  ty : List Value
  S : Nat → Prop
  M : Mo
def Tys (h : Heap) (S : Nat → Prop) (M : Mo) (ty : List Value) : Prop :=
  ∀ j p,M.types[j]? = some p → ∃ (pa : Option Addr) (pc : Nat) (ra : Option Addr) (rc : Nat),(ty.drop (j * 2)).take 2 = [.slice pa p.1.length pc,.slice ra p.2.length rc] ∧ SlA h 1 pa p.1.length pc (bys p.1) ∧ SlA h 1 ra p.2.length rc (bys p.2) ∧
    (∀ i,Blk pa i → S i) ∧ (∀ i,Blk ra i → S i)
theorem Tys.ext {h h' : Heap} {S T : Nat → Prop} {M : Mo} {ty : List Value} (q : Tys h S M ty) (x : Ext T h h') (d : ∀ i,S i → ¬ T i) : Tys h' S M ty := fun j p hj => by
  obtain ⟨pa,pc,ra,rc,h1,h2,h3,h4,h5⟩ := q j p hj
  exact ⟨pa,pc,ra,rc,h1,h2.ext x fun i r => d i (h4 i r),h3.ext x fun i r => d i (h5 i r),h4,h5⟩
structure Sx (K : Kt) (h : Heap) : Prop where
  lt : ∀ i,K.S i → i < h.next
  gm : At h K.pm (.cells K.mc 0 false)
  mS : K.S K.pm
  hF : K.mc[1]? = some (.slice K.fa K.M.funcs.length K.fc)
  hT : K.mc[0]? = some (.slice K.ta 6 K.tc)
  sf : SlA h 1 K.fa K.M.funcs.length K.fc (Qc K.M.funcs)
  fS : ∀ i,Blk K.fa i → K.S i
  mm : MM K.M
  f0 : 0 < K.M.funcs.length
  f3 : K.M.funcs.length ≤ 3
  st : SlA h 2 K.ta 6 K.tc K.ty
  tS : ∀ i,Blk K.ta i → K.S i
  tys : Tys h K.S K.M K.ty
  sx : SlA h 1 K.xa K.xs.length K.xc (Yw .u8 K.xs)
  xS : ∀ i,Blk K.xa i → K.S i
  xw : ∀ x ∈ K.xs,0 ≤ x ∧ x ≤ 255
  xl : K.xs.length ≤ 1000
  sl : SlA h 1 K.la K.ls.length K.lc (bys K.ls)
  lS : ∀ i,Blk K.la i → K.S i
  ll : K.ls.length ≤ 10
  l0 : 0 < K.ls.length
  l7 : K.ls.getD (K.ls.length - 1) 0 = 127
theorem Sx.ext {K : Kt} {h h' : Heap} {T : Nat → Prop} (q : Sx K h) (x : Ext T h h') (d : ∀ i,K.S i → ¬ T i) : Sx K h' :=
  ⟨fun i r => Nat.lt_of_lt_of_le (q.lt i r) x.next,q.gm.ext x (d _ q.mS),q.mS,q.hF,q.hT,q.sf.ext x fun i r => d i (q.fS i r),q.fS,q.mm,q.f0,q.f3,q.st.ext x fun i r => d i (q.tS i r),q.tS,q.tys.ext x d,
   q.sx.ext x fun i r => d i (q.xS i r),q.xS,q.xw,q.xl,q.sl.ext x fun i r => d i (q.lS i r),q.lS,q.ll,q.l0,q.l7⟩
abbrev pkC (K : Kt) (s : Sm) : List Value := [ptr K.pp,ptr K.pm,.slice K.la K.ls.length K.lc,.slice s.oa s.ops.length s.oc,.int .i64 s.deep,.int .i64 K.self]
structure Lx (K : Kt) (h : Heap) (oa : Option Addr) (x : IM) : Prop where
  s : SlA h 1 x.la x.i.l.length x.lc (Qc x.i.l)
  b : ∀ j,Blk x.la j → j < h.next ∧ j ≠ K.pk ∧ j ≠ K.pp ∧ ¬ Blk oa j ∧ ¬ K.S j
  ok : x.i.Ok
  kn : x.i.Kn
theorem Lx.ext {K : Kt} {h h' : Heap} {oa oa' : Option Addr} {x : IM} {T : Nat → Prop} (q : Lx K h oa x) (e : Ext T h h') (d : ∀ j,T j → j = K.pk ∨ j = K.pp ∨ Blk oa j) (f : ∀ j,Blk oa' j → Blk oa j ∨ h.next ≤ j) : Lx K h' oa' x :=
  ⟨q.s.ext e fun j r t => (d j t).elim (q.b j r).2.1 fun t => t.elim (q.b j r).2.2.1 (q.b j r).2.2.2.1,fun j r => ⟨Nat.lt_of_lt_of_le (q.b j r).1 e.next,(q.b j r).2.1,(q.b j r).2.2.1,fun t => (f j t).elim (q.b j r).2.2.2.1 fun t => by have := (q.b j r).1; omega,(q.b j r).2.2.2.2⟩,q.ok,q.kn⟩
structure Mk (K : Kt) (h : Heap) (s : Sm) : Prop where
  z : Sx K h
  gk : At h K.pk (.cells (pkC K s) 0 false)
  gp : At h K.pp (.cells [.slice K.xa K.xs.length K.xc,.int .i64 (s.n : Int)] 0 false)
  hn : s.n ≤ K.xs.length
  o : OwS h 6 s.oa s.ops.length s.oc (en IM.enc s.ops)
  li : ∀ x ∈ s.ops,Lx K h s.oa x
  nk : ¬ K.S K.pk
  np : ¬ K.S K.pp
  kp : K.pk ≠ K.pp
  no : ∀ i,Blk s.oa i → ¬ K.S i ∧ i ≠ K.pk ∧ i ≠ K.pp
def pot (K : Kt) (s : Sm) : Int := (s.ops.length : Int) + 30 * ((K.xs.length : Int) - (s.n : Int))
structure Go (K : Kt) (h : Heap) (s : Sm) (h' : Heap) (s' : Sm) (v v' : VS) : Prop where
  m : Mk K h' s'
  x : Ext (fun i => i = K.pk ∨ i = K.pp ∨ Blk s.oa i) h h'
  b : ∀ i,Blk s'.oa i → Blk s.oa i ∨ h.next ≤ i
  w : ∃ w,s'.ops = s.ops ++ w ∧ Ru K.M K.ls v w v'
theorem Go.refl {K : Kt} {h : Heap} {s : Sm} (m : Mk K h s) (v : VS) : Go K h s h s v v := ⟨m,Ext.refl _ _,fun i q => .inl q,[],by simp,.nil⟩
theorem Go.cast {K : Kt} {h h1 : Heap} {s s1 : Sm} {v v1 v2 : VS} (g : Go K h s h1 s1 v v1) (e : v1 = v2) : Go K h s h1 s1 v v2 := e ▸ g
theorem Go.trans {K : Kt} {h h1 h2 : Heap} {s s1 s2 : Sm} {v v1 v2 : VS} (g : Go K h s h1 s1 v v1) (q : Go K h1 s1 h2 s2 v1 v2) : Go K h s h2 s2 v v2 := by
  obtain ⟨w,hw,ow⟩ := g.w
  obtain ⟨v,hv,ov⟩ := q.w
  have z := g.x.next
  refine ⟨q.m,g.x.then q.x fun i r => ?_,fun i r => ?_,w ++ v,by rw [hv,hw,List.append_assoc],ow.app ov⟩
  · rcases r with r | r | r
    · exact .inl (.inl r)
    · exact .inl (.inr (.inl r))
    · exact (g.b i r).imp (fun r => .inr (.inr r)) id
  · rcases q.b i r with r | r
    · exact g.b i r
    · exact .inr (by omega)
theorem Go.ext0 {K : Kt} {h h1 h2 : Heap} {s s1 : Sm} {v v1 : VS} (g : Go K h s h1 s1 v v1) (x : Xe h1 h2) : Go K h s h2 s1 v v1 :=
  ⟨⟨g.m.z.ext x fun i _ r => r,g.m.gk.ext x,g.m.gp.ext x,g.m.hn,g.m.o.ext x,fun y hy => (g.m.li y hy).ext x (fun j r => r.elim) fun j r => .inl r,g.m.nk,g.m.np,g.m.kp,g.m.no⟩,g.x.then0 x,g.b,g.w⟩
theorem Mk.lt {K : Kt} {h : Heap} {s : Sm} (m : Mk K h s) : K.pk < h.next ∧ K.pp < h.next := ⟨m.gk.lt,m.gp.lt⟩
structure Nx (h1 h2 : Heap) (x : IM) : Prop where
  s : SlA h2 1 x.la x.i.l.length x.lc (Qc x.i.l)
  b : ∀ j,Blk x.la j → h1.next ≤ j ∧ j < h2.next
  ok : x.i.Ok
  kn : x.i.Kn
theorem Nx.none {h1 h2 : Heap} {op : Int} {a b n : Nat} {t : Int} (ok : (⟨op,a,b,n,[],t⟩ : Ins).Ok) (kn : op ∈ opsC ∨ op ∈ Ko ∨ op ∈ Gi) : Nx h1 h2 ⟨⟨op,a,b,n,[],t⟩,Option.none,0⟩ := ⟨SlA.none,fun j r => absurd r Blk.none,ok,kn⟩
theorem Go.push {K : Kt} {h h1 h2 h3 h4 : Heap} {s s1 : Sm} {v v1 v2 : VS} {xs : List IM} {a3 : Option Addr} {c3 k : Nat} (g : Go K h s h1 s1 v v1) (x2 : Xe h1 h2) (x3 : Ext (Blk s1.oa) h2 h3) (hk : xs.length = k) (o3 : OwS h3 6 a3 (s1.ops.length + k) c3 (en IM.enc s1.ops ++ en IM.enc xs)) (b3 : ∀ i,Blk a3 i → Blk s1.oa i ∨ h2.next ≤ i)
    (x4 : Ext (· = K.pk) h3 h4) (g4 : h4.get K.pk = some (.cells (putL (pkC K s1) 3 [.slice a3 (s1.ops.length + k) c3]) 0 false)) (hx : ∀ x ∈ xs,Nx h1 h2 x) (ho : Ru K.M K.ls v1 xs v2) : Go K h s h4 ⟨a3,c3,s1.ops ++ xs,s1.deep,s1.n⟩ v v2 := by
  obtain ⟨w,hw,ow⟩ := g.w
  have z1 := g.x.next
  have z2 := x2.next
  have z3 := x3.next
  have hl : (s1.ops ++ xs).length = s1.ops.length + k := by rw [List.length_append,hk]
  have nb : ∀ i,Blk a3 i → ¬ K.S i ∧ i ≠ K.pk ∧ i ≠ K.pp := fun i r => by
    rcases b3 i r with r | r
    · exact g.m.no i r
    · have := g.m.lt
      exact ⟨fun q => by have := g.m.z.lt i q; omega,by omega,by omega⟩
  have npo : ¬ Blk s1.oa K.pp := fun r => (g.m.no _ r).2.2 rfl
  have lo : ∀ j,Blk s1.oa j → j < h1.next := fun j r => g.m.o.lt r
  have l2 : ∀ x,Lx K h2 s1.oa x → Lx K h4 a3 x := fun x q => (q.ext x3 (fun j r => .inr (.inr r)) b3).ext (oa' := a3) x4 (fun j r => .inl r) fun j r => .inl r
  refine ⟨⟨((g.m.z.ext x2 fun i _ r => r).ext x3 fun i q r => (g.m.no i r).1 q).ext x4 fun i q r => g.m.nk (by rw [← r]; exact q),?_,((g.m.gp.ext x2).ext x3 npo).ext x4 fun r => g.m.kp r.symm,g.m.hn,?_,fun y hy => ?_,g.m.nk,g.m.np,g.m.kp,nb⟩,
    ((g.x.then0 x2).then x3 fun i r => ?_).then x4 fun i r => .inl (.inl r),fun i r => ?_,w ++ xs,by rw [hw,List.append_assoc],ow.app ho⟩
  · show h4.get K.pk = some (.cells [ptr K.pp,ptr K.pm,.slice K.la K.ls.length K.lc,.slice a3 (s1.ops ++ xs).length c3,.int .i64 s1.deep,.int .i64 K.self] 0 false)
    rw [hl]; exact g4
  · show OwS h4 6 a3 (s1.ops ++ xs).length c3 (en IM.enc (s1.ops ++ xs))
    rw [hl,en_app]; exact o3.ext x4 fun i r e => (nb i r).2.1 e
  · rcases List.mem_append.1 hy with r | r
    · exact l2 y ((g.m.li y r).ext x2 (fun j r => r.elim) fun j r => .inl r)
    · have q := hx y r
      have := g.m.lt
      exact l2 y ⟨q.s,fun j t => ⟨(q.b j t).2,by have := (q.b j t).1; omega,by have := (q.b j t).1; omega,fun u => by have := (q.b j t).1; have := lo j u; omega,fun u => by have := g.m.z.lt j u; have := (q.b j t).1; omega⟩,q.ok,q.kn⟩
  · rcases g.b i r with r | r
    · exact .inl (.inr (.inr r))
    · exact .inr r
  · rcases b3 i r with r | r
    · exact g.b i r
    · exact .inr (by omega)
theorem Go.deep {K : Kt} {h h1 h2 : Heap} {s s1 : Sm} {v v1 : VS} {dp : Int} (g : Go K h s h1 s1 v v1) (x : Ext (· = K.pk) h1 h2) (g2 : h2.get K.pk = some (.cells (putL (pkC K s1) 4 [.int .i64 dp]) 0 false)) : Go K h s h2 { s1 with deep := dp } v v1 :=
  ⟨⟨g.m.z.ext x fun i q r => g.m.nk (by rw [← r]; exact q),g2,g.m.gp.ext x fun r => g.m.kp r.symm,g.m.hn,g.m.o.ext x fun i q r => (g.m.no i q).2.1 r,fun y hy => (g.m.li y hy).ext x (fun j r => .inl r) fun j r => .inl r,g.m.nk,g.m.np,g.m.kp,g.m.no⟩,g.x.then x fun i r => .inl (.inl r),g.b,g.w⟩
theorem Go.num {K : Kt} {h h1 h2 : Heap} {s s1 : Sm} {v v1 : VS} {n' : Nat} (g : Go K h s h1 s1 v v1) (x : Ext (· = K.pp) h1 h2) (g2 : At h2 K.pp (.cells [.slice K.xa K.xs.length K.xc,.int .i64 (n' : Int)] 0 false)) (hn : n' ≤ K.xs.length) : Go K h s h2 { s1 with n := n' } v v1 :=
  ⟨⟨g.m.z.ext x fun i q r => g.m.np (by rw [← r]; exact q),g.m.gk.ext x g.m.kp,g2,hn,g.m.o.ext x fun i q r => (g.m.no i q).2.2 r,fun y hy => (g.m.li y hy).ext x (fun j r => .inr (.inl r)) fun j r => .inl r,g.m.nk,g.m.np,g.m.kp,g.m.no⟩,g.x.then x fun i r => .inl (.inr (.inl r)),g.b,g.w⟩
theorem Go.push' {K : Kt} {h h1 h2 h3 h4 : Heap} {s s1 : Sm} {v v1 v2 : VS} {xs : List IM} {a3 : Option Addr} {c3 k : Nat} (g : Go K h s h1 s1 v v1) (x2 : Xe h1 h2) (x3 : Ext (Blk s1.oa) h2 h3) (hk : xs.length = k) (o3 : OwS h3 6 a3 (s1.ops.length + k) c3 (en IM.enc s1.ops ++ en IM.enc xs)) (b3 : ∀ i,Blk a3 i → Blk s1.oa i ∨ h2.next ≤ i)
    (x4 : Ext (· = K.pk) h3 h4) (g4 : h4.get K.pk = some (.cells (putL (pkC K s1) 3 [.slice a3 (s1.ops.length + k) c3]) 0 false)) (hx : ∀ x ∈ xs,Nx h1 h2 x) (ho : Ru K.M K.ls v1 xs v2) : ∃ s2,Go K h s h4 s2 v v2 ∧ s1.n ≤ s2.n ∧ pot K s2 ≤ pot K s1 + k :=
  ⟨_,g.push x2 x3 hk o3 b3 x4 g4 hx ho,Nat.le_refl _,by unfold pot; simp only [List.length_append,hk]; omega⟩
theorem Go.deep' {K : Kt} {h h1 h2 : Heap} {s s1 : Sm} {v v1 : VS} {dp : Int} (g : Go K h s h1 s1 v v1) (x : Ext (· = K.pk) h1 h2) (g2 : h2.get K.pk = some (.cells (putL (pkC K s1) 4 [.int .i64 dp]) 0 false)) : ∃ s2,Go K h s h2 s2 v v1 ∧ s1.n ≤ s2.n ∧ pot K s2 ≤ pot K s1 + 0 :=
  ⟨_,g.deep x g2,Nat.le_refl _,by unfold pot; simp only []; omega⟩
theorem Zf {K : Kt} {h : Heap} {s : Sm} (m : Mk K h s) (hp : pot K s ≤ 100050) : s.ops.length ≤ 100100 := by
  have := m.hn
  unfold pot at hp; omega
theorem Ut {x : Int} (h : 0 ≤ x ∧ x < 4294967296) : IntKind.wrap .u32 x = x := by
  simp [IntKind.wrap,IntKind.signed,IntKind.bits]; omega
theorem Wops_nat {P : Program} {d : Option Nat} {r : List SOp} {e : Env} {h : Heap} {Q : Env → Heap → Prop} {o : SO} {k : IntKind} {z : Int} (hc : o.asCall = none) (hr : o.run e h = some (.int k z,h)) (hz : 0 ≤ z) (hq : ∀ m : Nat,z = (m : Int) → Xd P r (e.put d (.int k (m : Int))) h Q) : Xd P (⟨d,none,o⟩ :: r) e h Q := by
  have e1 : z = ((z.toNat : Nat) : Int) := by omega
  exact Wi hc hr (congrArg (Value.int k) e1) (hq z.toNat e1)
theorem wrap_nn (x : Int) : 0 ≤ IntKind.wrap .u64 x := by
  simp [IntKind.wrap,IntKind.signed,IntKind.bits]; omega
/-! ### The small ones -/
theorem C23 {h : Heap} {pp xc n : Nat} {xa : Option Addr} {xs : List Int} {m : Int} (gp : At h pp (.cells [.slice xa xs.length xc,.int .i64 (n : Int)] 0 false)) (hn : n ≤ xs.length) (sx : SlA h 1 xa xs.length xc (Yw .u8 xs)) (xw : ∀ x ∈ xs,0 ≤ x ∧ x ≤ 255) (xl : xs.length ≤ 1000) (ns : ¬ Blk xa pp) (hm : 0 < m) :
    Fn Try.prog 23 [ptr pp,.int .i64 m] h fun v h' => ∃ (r n' : Nat),v = .int .i64 (r : Int) ∧ (r : Int) < m ∧ Ext (· = pp) h h' ∧ At h' pp (.cells [.slice xa xs.length xc,.int .i64 (n' : Int)] 0 false) ∧ n ≤ n' ∧ n' ≤ xs.length ∧ (n < xs.length → n' = n + 1) ∧ (n = xs.length → r = 0) := by
  refine fnK F23.fok rfl ?_
  refine Wd (Wa rfl rfl (Wc [(0,_),(1,_)] rfl (?_)))
  refine Xc (Wd (Wa rfl rfl (Wa rfl rfl (Wa rfl rfl (We (v := .int .i64 (n : Int)) rfl gp rfl (Wa rfl rfl (Wa rfl rfl (Wa rfl rfl (We (v := .slice xa xs.length xc) rfl gp rfl (Wa rfl rfl (Wa rfl rfl (Wc [(0,_),(1,_),(14,_)] rfl (?_)))))))))))))
  refine Wo rfl (fun hc => ?_) (fun hc => ?_)
  · have h1 : n = xs.length := by have := of_decide_eq_true hc; omega
    refine Xc (Wd (Wa rfl rfl (Wc [(4,_)] rfl (?_))))
    exact Yo (Ws.mk _ rfl ⟨0,n,rfl,hm,Ext.refl _ _,gp,Nat.le_refl _,hn,fun q => by omega,fun _ => rfl⟩)
  · have hlx : n < xs.length := by have := of_decide_eq_false hc; omega
    refine Wr (Wd (Wa rfl rfl (Wa rfl rfl (Wa rfl rfl (We (v := .int .i64 (n : Int)) rfl gp rfl (Wi (w := .int .i64 ((n + 1 : Nat) : Int)) rfl rfl (by rw [Zi (by omega)]) ?_))))))
    refine Wa rfl rfl (Wa rfl rfl (Wm (l := [.int .i64 ((n + 1 : Nat) : Int)]) rfl rfl rfl rfl gp (by simp) rfl fun h1 n1 x1 g1 => ?_))
    replace g1 : At h1 pp (.cells [.slice xa xs.length xc,.int .i64 ((n + 1 : Nat) : Int)] 0 false) := g1
    refine Wc [(0,_),(1,_)] rfl (?_)
    have sx1 := sx.ext x1 fun i r e => ns (by rw [← e]; exact r)
    obtain ⟨r,hr,hre⟩ : ∃ r : Nat,(r : Int) < m ∧ xs[n].tmod m = r := by
      have h1 := Int.tmod_nonneg m (xw xs[n] (List.getElem_mem _)).1
      have h2 := Int.tmod_lt_of_pos xs[n] hm
      exact ⟨(xs[n].tmod m).toNat,by omega,by omega⟩
    have hw := xw xs[n] (List.getElem_mem _)
    refine Wd (Wa rfl rfl (Wa rfl rfl (Wa rfl rfl (We (v := .slice xa xs.length xc) rfl g1 rfl (Wa rfl rfl (Wa rfl rfl (Wa rfl rfl (We (v := .int .i64 ((n + 1 : Nat) : Int)) rfl g1 rfl (Wi (w := .int .i64 (n : Int)) rfl rfl (by rw [w64 (by omega)]; congr 1; omega) ?_)))))))))
    refine Xx (u := .int .u8 xs[n]) rfl rfl sx1 ⟨by omega,by omega⟩ (by simp [hlx]) fun _ => ?_
    refine Wi (w := .int .i64 xs[n]) rfl rfl (by rw [w64 (by omega)]) (Wa rfl rfl (Ge rfl rfl (by omega) (Wa rfl rfl (Wc [(4,.int .i64 (r : Int))] (by rw [← hre]; rfl) (?_)))))
    exact Xo (Ws.mk _ rfl ⟨r,n + 1,rfl,hr,x1,g1,by omega,by omega,fun _ => rfl,fun q => by omega⟩)
theorem C71 {h : Heap} {pp xc n : Nat} {xa : Option Addr} {xs : List Int} (gp : At h pp (.cells [.slice xa xs.length xc,.int .i64 (n : Int)] 0 false)) :
    Fn Try.prog 71 [ptr pp] h fun v h' => v = .bool (decide ((n : Int) ≥ (xs.length : Int))) ∧ h = h' := by
  refine fnK F71.fok rfl ?_
  refine Wd (Wa rfl rfl (Wc [(0,_)] rfl (?_)))
  refine Wd (Wa rfl rfl (Wa rfl rfl (Wa rfl rfl (We (v := .int .i64 (n : Int)) rfl gp rfl (Wa rfl rfl (Wa rfl rfl (Wa rfl rfl (We (v := .slice xa xs.length xc) rfl gp rfl (Wa rfl rfl (Wa rfl rfl (Wa rfl rfl (Wc [(2,_)] rfl (?_)))))))))))))
  exact Xo (Ws.mk _ rfl ⟨rfl,rfl⟩)
section
variable {K : Kt} {h h1 : Heap} {s s1 : Sm} {v v1 v2 : VS}
theorem Go.c48 {m : Int} (g : Go K h s h1 s1 v v1) (hm : 0 < m) : Fn Try.prog 23 [ptr K.pp,.int .i64 m] h1 fun u h2 => ∃ (r n' : Nat),u = .int .i64 (r : Int) ∧ (r : Int) < m ∧ Go K h s h2 { s1 with n := n' } v v1 ∧ s1.n ≤ n' ∧ pot K { s1 with n := n' } ≤ pot K s1 ∧ (s1.n < K.xs.length → n' = s1.n + 1 ∧ pot K { s1 with n := n' } ≤ pot K s1 - 30) ∧ (s1.n = K.xs.length → r = 0) ∧ Ext (· = K.pp) h1 h2 :=
  (C23 g.m.gp g.m.hn g.m.z.sx g.m.z.xw g.m.z.xl (fun r => g.m.np (g.m.z.xS _ r)) hm).mono fun u h2 ⟨r,n',hv,hr,x,gp,h1,h2,h3,h4⟩ => ⟨r,n',hv,hr,g.num x gp h2,h1,by unfold pot; simp only []; omega,fun q => ⟨h3 q,by have := h3 q; unfold pot; simp only []; omega⟩,h4,x⟩
theorem Go.c58 (g : Go K h s h1 s1 v v1) : Fn Try.prog 71 [ptr K.pp] h1 fun u h2 => u = .bool (decide ((s1.n : Int) ≥ (K.xs.length : Int))) ∧ h1 = h2 := C71 g.m.gp
def Jr (K : Kt) (h : Heap) (s : Sm) (s1 : Sm) (v v' : VS) (c : Int) (h2 : Heap) : Prop := ∃ s2,Go K h s h2 s2 v v' ∧ s1.n ≤ s2.n ∧ pot K s2 ≤ pot K s1 + c
theorem Kl {a : Option Addr} {c : Nat} {xs : List IM} : pot K ⟨a,c,s1.ops ++ xs,s1.deep,s1.n⟩ = pot K s1 + xs.length := by
  unfold pot; simp only [List.length_append]; omega
theorem ok1 {op : Int} {a b n : Nat} {t : Int} (ha : a < 4294967296) (hb : b < 4294967296) (ht : -9223372036854775808 ≤ t ∧ t ≤ 9223372036854775807) : (⟨op,a,b,n,[],t⟩ : Ins).Ok := ⟨ha,hb,fun n hn => (by cases hn),by show 0 ≤ 1000; omega,ht⟩
theorem ok0 {op : Int} {a n : Nat} (ha : a < 4294967296) : (⟨op,a,0,n,[],0⟩ : Ins).Ok := ok1 ha (by omega) ⟨by omega,by omega⟩
theorem Xz (xs : List IM) : (en IM.enc xs).all isCell = true := en_cell (fun x => rfl) xs
abbrev im (op : Int) (a b n : Nat) (t : Int) : IM := ⟨⟨op,a,b,n,[],t⟩,none,0⟩
set_option maxHeartbeats 1000000 in
theorem Go.c64 {op : Int} (g : Go K h s h1 s1 v v1) (hp : pot K s1 ≤ 100050) (kn : op ∈ opsC ∨ op ∈ Ko ∨ op ∈ Gi) (ho : v1.one K.M K.ls ⟨op,0,0,0,[],0⟩ = v2) (ok : Okv v2) : Fn Try.prog 77 [ptr K.pk,.int .i64 op] h1 fun u h2 => Jr K h s s1 v v2 1 h2 := by
  have hops : s1.ops.length ≤ 100100 := by have := g.m.hn; unfold pot at hp; omega
  have o := g.m.o
  refine fnK F77.fok rfl ?_
  refine Wl (Wa rfl rfl (Wa rfl rfl (Wa rfl rfl (Wa rfl rfl (We (v := .slice s1.oa s1.ops.length s1.oc) rfl g.m.gk rfl ?_)))))
  refine Wa rfl rfl (Wa rfl rfl (Wj (l := en IM.enc [im op 0 0 0 0]) rfl rfl fun h2 n2 x2 g2 => ?_))
  refine Xk (m := 1) rfl rfl (o.ext x2) rfl (OwS.new (n := 1) (c := 1) g2 rfl).sl.first ⟨by omega,by omega⟩ rfl (Xz _) (by decide) fun h3 a3 c3 x3 o3 b3 => ?_
  refine Wa rfl rfl (Wa rfl rfl (Wm (l := [.slice a3 (s1.ops.length + 1) c3]) rfl rfl rfl rfl ((g.m.gk.ext x2).ext x3 fun r => (g.m.no _ r).2.1 rfl) (by simp) rfl fun h4 n4 x4 g4 => ?_))
  refine Wk [] rfl (?_)
  exact Ws.mk [] rfl ⟨_,g.push (k := 1) (xs := [im op 0 0 0 0]) x2 x3 rfl o3 b3 x4 g4 (fun x hx => by rw [List.mem_singleton] at hx; subst hx; exact .none (ok0 (by omega)) kn) (.one ho ok),Nat.le_refl _,by rw [Kl]; simp⟩
set_option maxHeartbeats 1000000 in
theorem Go.c63 {op : Int} {a : Nat} (g : Go K h s h1 s1 v v1) (hp : pot K s1 ≤ 100050) (ha : a < 4294967296) (kn : op ∈ opsC ∨ op ∈ Ko ∨ op ∈ Gi) (ho : v1.one K.M K.ls ⟨op,a,0,0,[],0⟩ = v2) (ok : Okv v2) : Fn Try.prog 76 [ptr K.pk,.int .i64 op,.int .u32 (a : Int)] h1 fun u h2 => Jr K h s s1 v v2 1 h2 := by
  have hops : s1.ops.length ≤ 100100 := by have := g.m.hn; unfold pot at hp; omega
  have o := g.m.o
  refine fnK F76.fok rfl ?_
  refine Wl (Wa rfl rfl (Wa rfl rfl (Wa rfl rfl (Wa rfl rfl (We (v := .slice s1.oa s1.ops.length s1.oc) rfl g.m.gk rfl ?_)))))
  refine Wa rfl rfl (Wa rfl rfl (Wa rfl rfl (Wj (l := en IM.enc [im op a 0 0 0]) rfl rfl fun h2 n2 x2 g2 => ?_)))
  refine Xk (m := 1) rfl rfl (o.ext x2) rfl (OwS.new (n := 1) (c := 1) g2 rfl).sl.first ⟨by omega,by omega⟩ rfl (Xz _) (by decide) fun h3 a3 c3 x3 o3 b3 => ?_
  refine Wa rfl rfl (Wa rfl rfl (Wm (l := [.slice a3 (s1.ops.length + 1) c3]) rfl rfl rfl rfl ((g.m.gk.ext x2).ext x3 fun r => (g.m.no _ r).2.1 rfl) (by simp) rfl fun h4 n4 x4 g4 => ?_))
  refine Wk [] rfl (?_)
  exact Ws.mk [] rfl ⟨_,g.push (k := 1) (xs := [im op a 0 0 0]) x2 x3 rfl o3 b3 x4 g4 (fun x hx => by rw [List.mem_singleton] at hx; subst hx; exact .none (ok0 ha) kn) (.one ho ok),Nat.le_refl _,by rw [Kl]; simp⟩
set_option maxHeartbeats 1000000 in
theorem Go.c60 {t N : Nat} (tv : t = 127 ∨ t = 126) (g : Go K h s h1 s1 v v1) (hp : pot K s1 ≤ 100050) (ok : Okv v1) : Fn Try.prog 73 [ptr K.pk,.int .u8 (t : Int),.int .u64 (N : Int)] h1 fun u h2 => Jr K h s s1 v (v1.push [t]) 1 h2 := by
  have hops : s1.ops.length ≤ 100100 := by have := g.m.hn; unfold pot at hp; omega
  have o := g.m.o
  refine fnK F73.fok rfl ?_
  refine Wd (Wa rfl rfl (Wa rfl rfl (Wc [(0,_),(2,_),(7,_)] rfl (?_))))
  refine Wn rfl (fun hc => ?_) (fun hc => ?_)
  · obtain rfl : t = 127 := by rcases tv with e | e <;> subst e <;> first | rfl | exact absurd hc (by decide)
    refine Wl (Wa rfl rfl (Wa rfl rfl (Wa rfl rfl (Wa rfl rfl (We (v := .slice s1.oa s1.ops.length s1.oc) rfl g.m.gk rfl ?_)))))
    refine Wa rfl rfl (Wops_nat rfl rfl (wrap_nn _) fun m _ => Wa rfl rfl (Wj (l := en IM.enc [im 65 0 0 m 0]) rfl rfl fun h2 n2 x2 g2 => ?_))
    refine Xk (m := 1) rfl rfl (o.ext x2) rfl (OwS.new (n := 1) (c := 1) g2 rfl).sl.first ⟨by omega,by omega⟩ rfl (Xz _) (by decide) fun h3 a3 c3 x3 o3 b3 => ?_
    refine Wa rfl rfl (Wa rfl rfl (Wm (l := [.slice a3 (s1.ops.length + 1) c3]) rfl rfl rfl rfl ((g.m.gk.ext x2).ext x3 fun r => (g.m.no _ r).2.1 rfl) (by simp) rfl fun h4 n4 x4 g4 => ?_))
    refine Wk [] rfl (?_)
    exact Ws.mk [] rfl ⟨_,g.push (k := 1) (xs := [im 65 0 0 m 0]) x2 x3 rfl o3 b3 x4 g4 (fun x hx => by rw [List.mem_singleton] at hx; subst hx; exact .none (ok0 (by omega)) (.inl (by decide))) (.one ((VS.sg_c32 rfl).at ok (VS.push_nil _).symm rfl) (ok.push _)),Nat.le_refl _,by rw [Kl]; simp⟩
  · obtain rfl : t = 126 := by rcases tv with e | e <;> subst e <;> first | rfl | exact absurd hc (by decide)
    refine Wl (Wa rfl rfl (Wa rfl rfl (Wa rfl rfl (Wa rfl rfl (We (v := .slice s1.oa s1.ops.length s1.oc) rfl g.m.gk rfl ?_)))))
    refine Wa rfl rfl (Wa rfl rfl (Wj (l := en IM.enc [im 66 0 0 N 0]) rfl rfl fun h2 n2 x2 g2 => ?_))
    refine Xk (m := 1) rfl rfl (o.ext x2) rfl (OwS.new (n := 1) (c := 1) g2 rfl).sl.first ⟨by omega,by omega⟩ rfl (Xz _) (by decide) fun h3 a3 c3 x3 o3 b3 => ?_
    refine Wa rfl rfl (Wa rfl rfl (Wm (l := [.slice a3 (s1.ops.length + 1) c3]) rfl rfl rfl rfl ((g.m.gk.ext x2).ext x3 fun r => (g.m.no _ r).2.1 rfl) (by simp) rfl fun h4 n4 x4 g4 => ?_))
    refine Wk [] rfl (?_)
    exact Ws.mk [] rfl ⟨_,g.push (k := 1) (xs := [im 66 0 0 N 0]) x2 x3 rfl o3 b3 x4 g4 (fun x hx => by rw [List.mem_singleton] at hx; subst hx; exact .none (ok0 (by omega)) (.inl (by decide))) (.one ((VS.sg_c64 rfl).at ok (VS.push_nil _).symm rfl) (ok.push _)),Nat.le_refl _,by rw [Kl]; simp⟩
end

end
end Go.Dx.SYtpkefdoleieloaa
