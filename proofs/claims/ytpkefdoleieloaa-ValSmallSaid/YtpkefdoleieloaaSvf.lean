/- Texts merged: Rk7.lean, Rk8.lean, Rk9.lean, Rk10.lean, Rk11.lean, Rk12.lean. -/
import Derived.Test.YtpkefdoleieloaaSve
namespace Go.Dx.SYtpkefdoleieloaa
open Go.Proofs
set_option linter.unusedVariables false
set_option linter.unusedSimpArgs false
section
/- The document's checker: moves, bulk. -/
theorem shl1' {a : Nat} (h : a < 32) : Value.int .i64 (IntKind.wrap .i64 (1 * 2 ^ (min a 64))) = .int .i64 ((2 ^ a : Nat) : Int) := by rw [shl1 a h]
section
variable {K : VR} {M : Mo} {h : Heap} {O : Nat → Prop} {s : VS}
set_option maxHeartbeats 1000000 in
theorem C117 {x : IM} (X : Rk K h O s) (Y : MoX h O K.pm M K.m.l) (wf : VS.Wf s) (hne : s.op ≠ []) (hl : s.l.length ≤ 900000000) (ho : s.op.length ≤ 1000000) (ok : x.i.Ok) (hop : x.i.op ∈ Uh) :
    Fn Try.prog 117 [ptr K.p,.agg ⟨x.enc⟩] h fun v h' => Rg K h O h' (s.movesR M x.i) := by
  have hka := ok.a
  refine fnK F117.fok rfl ?_
  refine Wi (Xp (cs := x.enc) rfl rfl fun h0 n0 x0 g0 => Wh [(0,_),(3,_)] rfl ?_)
  have R0 := Rq.start X Y wf hl ho x0 n0 g0
  refine Wi (Wa rfl rfl (Wc rfl (R0.memory hne) ?_))
  rintro _ h1 ⟨O1,R1,t1⟩
  have k1 := VS.memory_kp M s
  refine Wh [(0,_),(3,_)] rfl ?_
  unfold VS.movesR
  dsimp only
  generalize hs1 : s.memory M = s1 at R1 k1 ⊢
  obtain ⟨a1,c1,oa1,oc1,ms1,X1⟩ := id R1.X
  obtain ⟨C,hC⟩ : ∃ C : Bool,C = decide (x.i.a > 3 ∨ 2 ^ x.i.a > VS.width x.i.op) := ⟨_,rfl⟩
  refine Ww (fun e' h' => e' = [(0,ptr K.p),(3,ptr h.next)] ∧ ∃ O',Rq K M h O h.next x.enc 900000000 h' O' (s1.fails C) ∧ Tn K.toVK h1 h' O1 O') ?_ ?_
  · refine Wk (Wa rfl rfl ?_)
    refine Wa rfl rfl ?_
    refine Wa rfl rfl ?_
    refine Wa rfl rfl ?_
    refine We (v := .bool s1.bad) rfl X1.g rfl ?_
    refine Wa rfl rfl ?_
    cases hbd : s1.bad with
    | true =>
      refine Wb rfl ?_
      refine Wb rfl ?_
      refine Wb rfl ?_
      refine Wa rfl rfl ?_
      refine Wa rfl rfl ?_
      refine Wb rfl ?_
      refine Wb rfl ?_
      refine Wb rfl ?_
      refine Wb rfl ?_
      refine Wb rfl ?_
      refine Wb rfl ?_
      refine Wb rfl ?_
      refine Wb rfl ?_
      refine Wa rfl rfl ?_
      refine Wa rfl rfl ?_
      refine Wa rfl rfl ?_
      refine Wm (l := [.bool (true)]) rfl rfl rfl rfl X1.g (by rw [VR.cs_len]; decide) rfl fun hz nz xz gz => Wj [(0,_),(3,_)] rfl ?_
      exact ⟨rfl,_,R1.flag X1 C xz gz (by rw [hbd,hC]; first | rfl | (simp [] <;> omega) | (simp <;> omega))⟩
    | false =>
      refine Wd rfl ?_
      refine Wa rfl rfl ?_
      refine Wd rfl ?_
      refine We (v := .int .u32 (x.i.a : Int)) rfl R1.g rfl ?_
      refine Wd rfl ?_
      refine Wg (w := .bool (decide (x.i.a > 3))) rfl rfl (by congr 1 <;> (rw [Bool.eq_iff_iff]; simp <;> omega)) ?_
      refine Wa rfl rfl ?_
      refine Wa rfl rfl ?_
      by_cases q2 : x.i.a > 3
      · rw [show decide (x.i.a > 3) = true from decide_eq_true q2]
        refine Wb rfl ?_
        refine Wb rfl ?_
        refine Wb rfl ?_
        refine Wb rfl ?_
        refine Wb rfl ?_
        refine Wb rfl ?_
        refine Wb rfl ?_
        refine Wb rfl ?_
        refine Wa rfl rfl ?_
        refine Wa rfl rfl ?_
        refine Wa rfl rfl ?_
        refine Wm (l := [.bool (true)]) rfl rfl rfl rfl X1.g (by rw [VR.cs_len]; decide) rfl fun hz nz xz gz => Wj [(0,_),(3,_)] rfl ?_
        exact ⟨rfl,_,R1.flag X1 C xz gz (by rw [hbd,hC]; first | rfl | (simp [q2] <;> omega) | (simp <;> omega))⟩
      · rw [show decide (x.i.a > 3) = false from decide_eq_false q2]
        refine Wd rfl ?_
        refine Wa rfl rfl ?_
        refine Wd rfl ?_
        refine We (v := .int .u32 (x.i.a : Int)) rfl R1.g rfl ?_
        refine Wd rfl ?_
        refine Wg (w := .int .i64 ((2 ^ x.i.a : Nat) : Int)) rfl rfl (shl1' (by omega)) ?_
        refine Wd rfl ?_
        refine Wa rfl rfl ?_
        refine Wd rfl ?_
        refine We (v := .int .i64 x.i.op) rfl R1.g rfl ?_
        refine Wd rfl ?_
        refine Wc rfl (C102 (.inr (.inl hop))) ?_
        rintro _ _ ⟨rfl,rfl⟩
        refine Wd rfl ?_
        refine Vi (v := .int .u32 (x.i.a : Int)) rfl rfl R1.g rfl (by simp [Yh,Yx]) ?_
        refine Wd rfl ?_
        refine Wg (w := .bool (decide (2 ^ x.i.a > VS.width x.i.op))) rfl rfl ?_ ?_
        · show Value.bool (decide (((2 ^ x.i.a : Nat) : Int) > ((VS.width x.i.op : Nat) : Int))) = _
          congr 1
          rw [Bool.eq_iff_iff,decide_eq_true_eq,decide_eq_true_eq]; omega
        refine Wa rfl rfl ?_
        refine Wa rfl rfl ?_
        refine Wa rfl rfl ?_
        refine Wm (l := [.bool (decide (2 ^ x.i.a > VS.width x.i.op))]) rfl rfl rfl rfl X1.g (by rw [VR.cs_len]; decide) rfl fun hz nz xz gz => Wj [(0,_),(3,_)] rfl ?_
        exact ⟨rfl,_,R1.flag X1 C xz gz (by rw [hbd,hC]; first | rfl | (simp [q2] <;> omega) | (simp <;> omega))⟩
  rintro _ h2 ⟨rfl,O2,R2,t2⟩
  subst hC
  have k2 := k1.trans (VS.fails_kp (decide (x.i.a > 3 ∨ 2 ^ x.i.a > VS.width x.i.op)) s1)
  generalize hs2 : s1.fails (decide (x.i.a > 3 ∨ 2 ^ x.i.a > VS.width x.i.op)) = s2 at R2 k2 ⊢
  refine Wi (Wa rfl rfl (Wh [(0,_),(3,_),(4,_)] rfl ?_))
  refine Ww (fun e' h' => (∃ w,e' = (0,ptr K.p) :: (3,ptr h.next) :: (4,.int .u8 ((if x.i.op = 40 ∨ 44 ≤ x.i.op ∧ x.i.op ≤ 47 ∨ x.i.op = 54 ∨ x.i.op = 58 ∨ x.i.op = 59 then 127 else 126 : Nat) : Int)) :: w) ∧ h2 = h') ?_ ?_
  · refine Ww (fun e' h' => ∃ d,e' = [(0,ptr K.p),(3,ptr h.next),(4,.int .u8 126),(55,.bool d)] ∧ h2 = h' ∧ (d = true ↔ x.i.op = 40 ∨ 44 ≤ x.i.op ∧ x.i.op ≤ 47 ∨ x.i.op = 54 ∨ x.i.op = 58 ∨ x.i.op = 59)) ?_ ?_
    · refine Wk (Wa rfl rfl ?_)
      refine We (v := .int .i64 x.i.op) rfl R2.g rfl ?_
      refine Wg (w := .bool (decide (x.i.op = 40))) rfl rfl (by congr 1 <;> (rw [Bool.eq_iff_iff]; simp <;> omega)) ?_
      refine Wa rfl rfl ?_
      by_cases q1 : x.i.op = 40
      · rw [show decide (x.i.op = 40) = true from decide_eq_true q1]
        refine Wb rfl ?_
        refine Wb rfl ?_
        refine Wb rfl ?_
        refine Wb rfl ?_
        refine Wb rfl ?_
        refine Wb rfl ?_
        refine Wb rfl ?_
        refine Wb rfl ?_
        refine Wa rfl rfl ?_
        refine Wa rfl rfl ?_
        refine Wb rfl ?_
        refine Wb rfl ?_
        refine Wb rfl ?_
        refine Wa rfl rfl ?_
        refine Wa rfl rfl ?_
        refine Wb rfl ?_
        refine Wb rfl ?_
        refine Wb rfl ?_
        refine Wa rfl rfl ?_
        refine Wa rfl rfl ?_
        refine Wb rfl ?_
        refine Wb rfl ?_
        refine Wb rfl ?_
        refine Wa rfl rfl ?_
        exact Wj [(0,_),(3,_),(4,_),(55,_)] rfl ⟨_,rfl,rfl,⟨fun _ => by omega,fun _ => rfl⟩⟩
      · rw [show decide (x.i.op = 40) = false from decide_eq_false q1]
        refine Wd rfl ?_
        refine Wa rfl rfl ?_
        refine Wd rfl ?_
        refine We (v := .int .i64 x.i.op) rfl R2.g rfl ?_
        refine Wd rfl ?_
        refine Wg (w := .bool (decide (x.i.op ≥ 44))) rfl rfl (by congr 1 <;> (rw [Bool.eq_iff_iff]; simp <;> omega)) ?_
        refine Wd rfl ?_
        refine Wa rfl rfl ?_
        by_cases q2 : x.i.op ≥ 44
        · rw [show decide (x.i.op ≥ 44) = true from decide_eq_true q2]
          refine Wd rfl ?_
          refine Wa rfl rfl ?_
          refine Wd rfl ?_
          refine We (v := .int .i64 x.i.op) rfl R2.g rfl ?_
          refine Wd rfl ?_
          refine Wg (w := .bool (decide (x.i.op ≤ 47))) rfl rfl (by congr 1 <;> (rw [Bool.eq_iff_iff]; simp <;> omega)) ?_
          refine Wd rfl ?_
          refine Wa rfl rfl ?_
          refine Wa rfl rfl ?_
          refine Wa rfl rfl ?_
          by_cases q3 : x.i.op ≤ 47
          · rw [show decide (x.i.op ≤ 47) = true from decide_eq_true q3]
            refine Wb rfl ?_
            refine Wb rfl ?_
            refine Wb rfl ?_
            refine Wa rfl rfl ?_
            refine Wa rfl rfl ?_
            refine Wb rfl ?_
            refine Wb rfl ?_
            refine Wb rfl ?_
            refine Wa rfl rfl ?_
            refine Wa rfl rfl ?_
            refine Wb rfl ?_
            refine Wb rfl ?_
            refine Wb rfl ?_
            refine Wa rfl rfl ?_
            exact Wj [(0,_),(3,_),(4,_),(55,_)] rfl ⟨_,rfl,rfl,⟨fun _ => by omega,fun _ => rfl⟩⟩
          · rw [show decide (x.i.op ≤ 47) = false from decide_eq_false q3]
            refine Wd rfl ?_
            refine Wa rfl rfl ?_
            refine Wd rfl ?_
            refine We (v := .int .i64 x.i.op) rfl R2.g rfl ?_
            refine Wd rfl ?_
            refine Wg (w := .bool (decide (x.i.op = 54))) rfl rfl (by congr 1 <;> (rw [Bool.eq_iff_iff]; simp <;> omega)) ?_
            refine Wa rfl rfl ?_
            refine Wa rfl rfl ?_
            by_cases q4 : x.i.op = 54
            · rw [show decide (x.i.op = 54) = true from decide_eq_true q4]
              refine Wb rfl ?_
              refine Wb rfl ?_
              refine Wb rfl ?_
              refine Wa rfl rfl ?_
              refine Wa rfl rfl ?_
              refine Wb rfl ?_
              refine Wb rfl ?_
              refine Wb rfl ?_
              refine Wa rfl rfl ?_
              exact Wj [(0,_),(3,_),(4,_),(55,_)] rfl ⟨_,rfl,rfl,⟨fun _ => by omega,fun _ => rfl⟩⟩
            · rw [show decide (x.i.op = 54) = false from decide_eq_false q4]
              refine Wd rfl ?_
              refine Wa rfl rfl ?_
              refine Wd rfl ?_
              refine We (v := .int .i64 x.i.op) rfl R2.g rfl ?_
              refine Wd rfl ?_
              refine Wg (w := .bool (decide (x.i.op = 58))) rfl rfl (by congr 1 <;> (rw [Bool.eq_iff_iff]; simp <;> omega)) ?_
              refine Wa rfl rfl ?_
              refine Wa rfl rfl ?_
              by_cases q5 : x.i.op = 58
              · rw [show decide (x.i.op = 58) = true from decide_eq_true q5]
                refine Wb rfl ?_
                refine Wb rfl ?_
                refine Wb rfl ?_
                refine Wa rfl rfl ?_
                exact Wj [(0,_),(3,_),(4,_),(55,_)] rfl ⟨_,rfl,rfl,⟨fun _ => by omega,fun _ => rfl⟩⟩
              · rw [show decide (x.i.op = 58) = false from decide_eq_false q5]
                refine Wd rfl ?_
                refine Wa rfl rfl ?_
                refine Wd rfl ?_
                refine We (v := .int .i64 x.i.op) rfl R2.g rfl ?_
                refine Wd rfl ?_
                refine Wg (w := .bool (decide (x.i.op = 59))) rfl rfl (by congr 1 <;> (rw [Bool.eq_iff_iff]; simp <;> omega)) ?_
                refine Wa rfl rfl ?_
                exact Wj [(0,_),(3,_),(4,_),(55,_)] rfl ⟨_,rfl,rfl,by rw [decide_eq_true_iff] <;> omega⟩
        · rw [show decide (x.i.op ≥ 44) = false from decide_eq_false q2]
          refine Wb rfl ?_
          refine Wb rfl ?_
          refine Wb rfl ?_
          refine Wd rfl ?_
          refine Wa rfl rfl ?_
          refine Wa rfl rfl ?_
          refine Wa rfl rfl ?_
          refine Wd rfl ?_
          refine Wa rfl rfl ?_
          refine Wd rfl ?_
          refine We (v := .int .i64 x.i.op) rfl R2.g rfl ?_
          refine Wd rfl ?_
          refine Wg (w := .bool (decide (x.i.op = 54))) rfl rfl (by congr 1 <;> (rw [Bool.eq_iff_iff]; simp <;> omega)) ?_
          refine Wa rfl rfl ?_
          refine Wa rfl rfl ?_
          by_cases q6 : x.i.op = 54
          · rw [show decide (x.i.op = 54) = true from decide_eq_true q6]
            refine Wb rfl ?_
            refine Wb rfl ?_
            refine Wb rfl ?_
            refine Wa rfl rfl ?_
            refine Wa rfl rfl ?_
            refine Wb rfl ?_
            refine Wb rfl ?_
            refine Wb rfl ?_
            refine Wa rfl rfl ?_
            exact Wj [(0,_),(3,_),(4,_),(55,_)] rfl ⟨_,rfl,rfl,⟨fun _ => by omega,fun _ => rfl⟩⟩
          · rw [show decide (x.i.op = 54) = false from decide_eq_false q6]
            refine Wd rfl ?_
            refine Wa rfl rfl ?_
            refine Wd rfl ?_
            refine We (v := .int .i64 x.i.op) rfl R2.g rfl ?_
            refine Wd rfl ?_
            refine Wg (w := .bool (decide (x.i.op = 58))) rfl rfl (by congr 1 <;> (rw [Bool.eq_iff_iff]; simp <;> omega)) ?_
            refine Wa rfl rfl ?_
            refine Wa rfl rfl ?_
            by_cases q7 : x.i.op = 58
            · rw [show decide (x.i.op = 58) = true from decide_eq_true q7]
              refine Wb rfl ?_
              refine Wb rfl ?_
              refine Wb rfl ?_
              refine Wa rfl rfl ?_
              exact Wj [(0,_),(3,_),(4,_),(55,_)] rfl ⟨_,rfl,rfl,⟨fun _ => by omega,fun _ => rfl⟩⟩
            · rw [show decide (x.i.op = 58) = false from decide_eq_false q7]
              refine Wd rfl ?_
              refine Wa rfl rfl ?_
              refine Wd rfl ?_
              refine We (v := .int .i64 x.i.op) rfl R2.g rfl ?_
              refine Wd rfl ?_
              refine Wg (w := .bool (decide (x.i.op = 59))) rfl rfl (by congr 1 <;> (rw [Bool.eq_iff_iff]; simp <;> omega)) ?_
              refine Wa rfl rfl ?_
              exact Wj [(0,_),(3,_),(4,_),(55,_)] rfl ⟨_,rfl,rfl,by rw [decide_eq_true_iff] <;> omega⟩
    rintro _ _ ⟨d,rfl,rfl,hd⟩
    refine Wn rfl (fun hc => ?_) (fun hc => ?_)
    · refine Wk (Wa rfl rfl (Wj [(0,_),(3,_),(4,_)] rfl ?_))
      rw [if_pos (hd.1 hc)]
      exact ⟨⟨[],rfl⟩,rfl⟩
    · refine Ye ?_
      rw [if_neg (fun q => by rw [hd.2 q] at hc; cases hc)]
      exact ⟨⟨_,rfl⟩,rfl⟩
  rintro _ _ ⟨⟨w,rfl⟩,rfl⟩
  generalize ht : (if x.i.op = 40 ∨ 44 ≤ x.i.op ∧ x.i.op ≤ 47 ∨ x.i.op = 54 ∨ x.i.op = 58 ∨ x.i.op = 59 then 127 else 126 : Nat) = t
  refine Wi (Wa rfl rfl (We (v := .int .i64 x.i.op) rfl R2.g rfl (Wg (w := .bool (decide (x.i.op ≥ 54))) rfl rfl (by congr 1) (Wh [(0,_),(4,_),(58,_)] rfl ?_))))
  refine Wn rfl (fun hc => ?_) (fun hc => ?_)
  · rw [if_pos (of_decide_eq_true hc)]
    refine Wk (Wa rfl rfl (Wa rfl rfl (Wl rfl rfl fun h3 n3 x3 g3 => ?_)))
    obtain ⟨R3,t3⟩ := R2.ext0 x3
    refine Wc rfl (R3.fits (k2.ne hne) ((R2.new (l := [127,t]) (n := 2) (c := 1) n3 g3 rfl)) Stl.none (by decide) (by decide)) ?_
    rintro _ h4 g4
    exact Wj [] rfl (Wx.mk [] rfl g4)
  · rw [if_neg (of_decide_eq_false hc)]
    refine Wk (Wa rfl rfl (Wl rfl rfl fun h3 n3 x3 g3 => Wa rfl rfl (Wl rfl rfl fun h4 n4 x4 g4 => ?_)))
    obtain ⟨R3,t3⟩ := R2.ext0 x3
    obtain ⟨R4,t4⟩ := R3.ext0 x4
    refine Wc rfl (R4.fits (k2.ne hne) ((R2.new (l := [127]) (n := 1) (c := 1) n3 g3 rfl).ext0 x4) (R3.new (l := [t]) (n := 1) (c := 1) n4 g4 rfl) (by decide) (by decide)) ?_
    rintro _ h5 g5
    exact Wj [] rfl (Wx.mk [] rfl g5)
set_option maxHeartbeats 1000000 in
theorem C118 {x : IM} (X : Rk K h O s) (Y : MoX h O K.pm M K.m.l) (wf : VS.Wf s) (hne : s.op ≠ []) (hl : s.l.length ≤ 900000000) (ho : s.op.length ≤ 1000000) (ok : x.i.Ok) (hcn : M.count < 18446744073709551616) :
    Fn Try.prog 118 [ptr K.p,.agg ⟨x.enc⟩] h fun v h' => Rg K h O h' (s.bulkR M x.i) := by
  have hka := ok.a
  obtain ⟨y1,y2⟩ := Y.ct
  obtain ⟨ya,yc,y3⟩ := Y.da
  have hsz := Y.sz.2.2.2.2.2
  refine fnK F118.fok rfl ?_
  refine Wi (Xp (cs := x.enc) rfl rfl fun h0 n0 x0 g0 => Wh [(0,_),(3,_)] rfl ?_)
  have R0 := Rq.start X Y wf hl ho x0 n0 g0
  obtain ⟨a0,c0,oa0,oc0,ms0,X0⟩ := id R0.X
  unfold VS.bulkR
  dsimp only
  refine Wi (Wa rfl rfl (Wa rfl rfl (Wa rfl rfl (Wa rfl rfl (We (v := .slice ya M.datas yc) rfl X0.g y3 (Wa rfl rfl (Wg (w := .int .u64 ((M.datas : Nat) : Int)) rfl rfl (by rw [Qd (by omega)]) (Wa rfl rfl (Wh [(0,_),(3,_),(4,_)] rfl ?_)))))))))
  refine Ww (fun e' h' => (∃ w,e' = (0,ptr K.p) :: (3,ptr h.next) :: (4,.int .u64 ((if M.counts = true then M.count else M.datas : Nat) : Int)) :: w) ∧ h0 = h') ?_ ?_
  · refine Wi (Wa rfl rfl (Wa rfl rfl (Wa rfl rfl (Wa rfl rfl (We (v := .bool M.counts) rfl X0.g y1 (Wh [(0,_),(3,_),(4,_),(16,_)] rfl ?_))))))
    refine Wn rfl (fun hc => ?_) (fun hc => ?_)
    · refine Wk (Wa rfl rfl (Wa rfl rfl (Wa rfl rfl (Wa rfl rfl (We (v := .int .u32 (M.count : Int)) rfl X0.g y2 (Wg (w := .int .u64 ((M.count : Nat) : Int)) rfl rfl (by rw [Qd (by omega)]) (Wa rfl rfl (Wj [(0,_),(3,_),(4,_)] rfl ?_))))))))
      rw [if_pos hc]
      exact ⟨⟨[],rfl⟩,rfl⟩
    · refine Ye ?_
      rw [if_neg (by rw [hc]; simp)]
      exact ⟨⟨_,rfl⟩,rfl⟩
  rintro _ _ ⟨⟨w,rfl⟩,rfl⟩
  generalize hn : (if M.counts = true then M.count else M.datas : Nat) = n
  refine Ww (fun e' h' => (∃ w,e' = (0,ptr K.p) :: (3,ptr h.next) :: w) ∧ ∃ O',Rq K M h O h.next x.enc 900000000 h' O' (if x.i.op = 64520 ∨ x.i.op = 64521 then s.fails (decide (x.i.a ≥ n)) else s)) ?_ ?_
  · refine Ww (fun e' h' => ∃ d,e' = [(0,ptr K.p),(3,ptr h.next),(4,.int .u64 ((n : Nat) : Int)),(30,.bool d)] ∧ h0 = h' ∧ (d = true ↔ x.i.op = 64520 ∨ x.i.op = 64521)) ?_ ?_
    · refine Wk (Wa rfl rfl ?_)
      refine We (v := .int .i64 x.i.op) rfl R0.g rfl ?_
      refine Wg (w := .bool (decide (x.i.op = 64520))) rfl rfl (by congr 1 <;> (rw [Bool.eq_iff_iff]; simp <;> omega)) ?_
      refine Wa rfl rfl ?_
      by_cases q1 : x.i.op = 64520
      · rw [show decide (x.i.op = 64520) = true from decide_eq_true q1]
        refine Wb rfl ?_
        refine Wb rfl ?_
        refine Wb rfl ?_
        refine Wa rfl rfl ?_
        exact Wj [(0,_),(3,_),(4,_),(30,_)] rfl ⟨_,rfl,rfl,⟨fun _ => by omega,fun _ => rfl⟩⟩
      · rw [show decide (x.i.op = 64520) = false from decide_eq_false q1]
        refine Wd rfl ?_
        refine Wa rfl rfl ?_
        refine Wd rfl ?_
        refine We (v := .int .i64 x.i.op) rfl R0.g rfl ?_
        refine Wd rfl ?_
        refine Wg (w := .bool (decide (x.i.op = 64521))) rfl rfl (by congr 1 <;> (rw [Bool.eq_iff_iff]; simp <;> omega)) ?_
        refine Wa rfl rfl ?_
        exact Wj [(0,_),(3,_),(4,_),(30,_)] rfl ⟨_,rfl,rfl,by rw [decide_eq_true_iff] <;> omega⟩
    rintro _ _ ⟨d,rfl,rfl,hd⟩
    refine Wn rfl (fun hc => ?_) (fun hc => ?_)
    · rw [if_pos (hd.1 hc)]
      obtain ⟨C,hC⟩ : ∃ C : Bool,C = decide (x.i.a ≥ n) := ⟨_,rfl⟩
      rw [← hC]
      refine Wk (Wa rfl rfl ?_)
      refine Wa rfl rfl ?_
      refine Wa rfl rfl ?_
      refine Wa rfl rfl ?_
      refine We (v := .bool s.bad) rfl X0.g rfl ?_
      refine Wa rfl rfl ?_
      cases hbd : s.bad with
      | true =>
        refine Wb rfl ?_
        refine Wb rfl ?_
        refine Wb rfl ?_
        refine Wb rfl ?_
        refine Wb rfl ?_
        refine Wa rfl rfl ?_
        refine Wa rfl rfl ?_
        refine Wa rfl rfl ?_
        refine Wm (l := [.bool (true)]) rfl rfl rfl rfl X0.g (by rw [VR.cs_len]; decide) rfl fun hz nz xz gz => Wj [(0,_),(3,_)] rfl ?_
        exact ⟨⟨[],rfl⟩,_,(R0.flag X0 C xz gz (by rw [hbd,hC]; first | rfl | (simp [] <;> omega) | (simp <;> omega))).1⟩
      | false =>
        refine Wd rfl ?_
        refine Wa rfl rfl ?_
        refine Wd rfl ?_
        refine We (v := .int .u32 (x.i.a : Int)) rfl R0.g rfl ?_
        refine Wd rfl ?_
        refine Wg (w := .int .u64 ((x.i.a : Nat) : Int)) rfl rfl (by rw [Qd (by omega)]) ?_
        refine Wd rfl ?_
        refine Wa rfl rfl ?_
        refine Wd rfl ?_
        refine Wg (w := .bool (decide (x.i.a ≥ n))) rfl rfl (by congr 1 <;> (rw [Bool.eq_iff_iff]; simp <;> omega)) ?_
        refine Wa rfl rfl ?_
        refine Wa rfl rfl ?_
        refine Wa rfl rfl ?_
        refine Wm (l := [.bool (decide (x.i.a ≥ n))]) rfl rfl rfl rfl X0.g (by rw [VR.cs_len]; decide) rfl fun hz nz xz gz => Wj [(0,_),(3,_)] rfl ?_
        exact ⟨⟨[],rfl⟩,_,(R0.flag X0 C xz gz (by rw [hbd,hC]; first | rfl | (simp [] <;> omega) | (simp <;> omega))).1⟩
    · refine Ye ?_
      rw [if_neg (fun q => by rw [hd.2 q] at hc; cases hc)]
      exact ⟨⟨_,rfl⟩,_,R0⟩
  rintro _ h1 ⟨⟨w2,rfl⟩,O1,R1⟩
  have k1 : VS.Kp s (if x.i.op = 64520 ∨ x.i.op = 64521 then s.fails (decide (x.i.a ≥ n)) else s) := by
    split
    · exact VS.fails_kp _ _
    · exact VS.Kp.refl _
  generalize hs1 : (if x.i.op = 64520 ∨ x.i.op = 64521 then s.fails (decide (x.i.a ≥ n)) else s) = s1 at R1 k1 ⊢
  refine Xd (Wi (Wa rfl rfl (We (v := .int .i64 x.i.op) rfl R1.g rfl (Wg (w := .bool (decide (x.i.op = 64521))) rfl rfl (by congr 1) (Wh [(0,_),(47,_)] rfl ?_)))))
  refine Wp rfl (fun hc => ?_) (fun hc => ?_)
  · rw [if_pos (of_decide_eq_true hc)]
    exact Xo (Wx.mk [] rfl R1.done)
  · rw [if_neg (of_decide_eq_false hc)]
    refine Wt (Wi (Wa rfl rfl (Wc rfl (R1.memory (k1.ne hne)) ?_)))
    rintro _ h2 ⟨O2,R2,t2⟩
    have k2 := k1.trans (VS.memory_kp M s1)
    refine Wh [(0,_)] rfl ?_
    refine Wk (Wa rfl rfl (Wl rfl rfl fun h3 n3 x3 g3 => ?_))
    obtain ⟨R3,t3⟩ := R2.ext0 x3
    refine Wc rfl (R3.fits (k2.ne hne) (R2.new (l := [127,127,127]) (n := 3) (c := 1) n3 g3 rfl) Stl.none (by decide) (by decide)) ?_
    rintro _ h4 g4
    exact Wj [] rfl (Wx.mk [] rfl g4)
end

end
section
/- The document's checker: tables. -/
section
variable {K : VR} {M : Mo} {h : Heap} {O : Nat → Prop} {s : VS}
set_option maxHeartbeats 4000000 in
theorem C115 {x : IM} (X : Rk K h O s) (Y : MoX h O K.pm M K.m.l) (wf : VS.Wf s) (hne : s.op ≠ []) (hl : s.l.length ≤ 900000000) (ho : s.op.length ≤ 1000000) (ok : x.i.Ok) (hop : x.i.op = 37 ∨ x.i.op = 38 ∨ x.i.op ≥ 64524 ∧ x.i.op ≤ 64529) :
    Fn Try.prog 115 [ptr K.p,.agg ⟨x.enc⟩] h fun v h' => Rg K h O h' (s.tablesR M x.i) := by
  have hka := ok.a
  refine fnK F115.fok rfl ?_
  refine Wi (Xp (cs := x.enc) rfl rfl fun h0 n0 x0 g0 => Wh [(0,_),(3,_)] rfl ?_)
  have R0 := Rq.start X Y wf hl ho x0 n0 g0
  have fin : ∀ {r : VS} {h' : Heap},s.tablesR M x.i = r → Rg K h O h' r → Wx F115.res (fun v h' => Rg K h O h' (s.tablesR M x.i)) [] h' := fun e q => Wx.mk [] rfl (by rw [e]; exact q)
  refine Wi (Wa rfl rfl (Wh [(0,_),(3,_),(4,_)] rfl ?_))
  refine Wi (Wa rfl rfl (We (v := .int .i64 x.i.op) rfl R0.g rfl (Wh [(0,_),(3,_),(4,_),(7,_)] rfl ?_)))
  refine Yw ?_
  refine Wi (Wg (w := .bool (decide (x.i.op = 37))) rfl rfl (by congr 1) (Wa rfl rfl (Wh [(0,_),(3,_),(4,_),(7,_),(17,_)] rfl ?_)))
  refine Wn rfl (fun hc => ?_) (fun hc => ?_)
  · have c0 : x.i.op = 37 := of_decide_eq_true hc
    have hs : s.tablesR M x.i = VS.fitsR [127] [(s.tableR M x.i.a).1] (s.tableR M x.i.a).2 := by
      unfold VS.tablesR
      rw [if_pos c0]
    refine Wk (Wa rfl rfl (Wa rfl rfl (Wl rfl rfl fun h1 n1 x1 g1 => ?_)))
    have sl1 : SlA h1 1 (some ⟨h0.next,0,none⟩) 1 1 (bys [127]) := SlA.mk' (n := 1) (c := 1) (sz := 1) (off := 0) g1 (Nat.le_refl 1) (.inr (.inr rfl))
    have f1 : Stl h1 O (some ⟨h0.next,0,none⟩) 1 1 [127] := ⟨sl1,fun i q => by rw [Blk.at] at q; subst q; exact ⟨by omega,fun q => by have := R0.olt _ q; omega⟩⟩
    obtain ⟨R1,t1⟩ := R0.ext0 x1
    refine Wa rfl rfl (Wa rfl rfl (We (v := .int .u32 (x.i.a : Int)) rfl R1.g rfl (Wc rfl (R1.table ((VS.Kp.refl s).ne hne) (ok.a)) ?_)))
    rintro _ h2 ⟨rfl,O2,R2,t2⟩
    have f1_2 := f1.turn t2.t
    have k2 : VS.Kp s (s.tableR M x.i.a).2 := (VS.Kp.refl s).trans (VS.tableR_kp _ _ _)
    refine Wl rfl rfl fun h3 n3 x3 g3 => ?_
    have sl3 : SlA h3 1 (some ⟨h2.next,0,none⟩) 1 1 (bys [(s.tableR M x.i.a).1]) := SlA.mk' (n := 1) (c := 1) (sz := 1) (off := 0) g3 (Nat.le_refl 1) (.inr (.inr rfl))
    have f3 : Stl h3 O2 (some ⟨h2.next,0,none⟩) 1 1 [(s.tableR M x.i.a).1] := ⟨sl3,fun i q => by rw [Blk.at] at q; subst q; exact ⟨by omega,fun q => by have := R2.olt _ q; omega⟩⟩
    obtain ⟨R3,t3⟩ := R2.ext0 x3
    have f1_3 := f1_2.turn t3.t
    refine Wc rfl (R3.fits (k2.ne hne) f1_3 f3 (by decide) (by decide)) ?_
    rintro _ h4 v4
    refine Wj [] rfl ?_
    exact fin hs v4
  have c0 : ¬ x.i.op = 37 := of_decide_eq_false hc
  refine Wi (Wg (w := .bool (decide (x.i.op = 38))) rfl rfl (by congr 1) (Wa rfl rfl (Wh [(0,_),(3,_),(4,_),(7,_),(28,_)] rfl ?_)))
  refine Wn rfl (fun hc => ?_) (fun hc => ?_)
  · have c1 : x.i.op = 38 := of_decide_eq_true hc
    have hs : s.tablesR M x.i = VS.fitsR [127,(s.tableR M x.i.a).1] [] (s.tableR M x.i.a).2 := by
      unfold VS.tablesR
      rw [if_neg c0,if_pos c1]
    refine Wk (Wa rfl rfl (Wa rfl rfl (Wa rfl rfl (Wa rfl rfl (We (v := .int .u32 (x.i.a : Int)) rfl R0.g rfl (Wc rfl (R0.table ((VS.Kp.refl s).ne hne) (ok.a)) ?_))))))
    rintro _ h5 ⟨rfl,O5,R5,t5⟩
    have k5 : VS.Kp s (s.tableR M x.i.a).2 := (VS.Kp.refl s).trans (VS.tableR_kp _ _ _)
    refine Wl rfl rfl fun h6 n6 x6 g6 => ?_
    have sl6 : SlA h6 1 (some ⟨h5.next,0,none⟩) 2 1 (bys [127,(s.tableR M x.i.a).1]) := SlA.mk' (n := 2) (c := 1) (sz := 1) (off := 0) g6 (Nat.le_refl 2) (.inr (.inr rfl))
    have f6 : Stl h6 O5 (some ⟨h5.next,0,none⟩) 2 1 [127,(s.tableR M x.i.a).1] := ⟨sl6,fun i q => by rw [Blk.at] at q; subst q; exact ⟨by omega,fun q => by have := R5.olt _ q; omega⟩⟩
    obtain ⟨R6,t6⟩ := R5.ext0 x6
    refine Wc rfl (R6.fits (k5.ne hne) f6 Stl.none (by decide) (by decide)) ?_
    rintro _ h7 v7
    refine Wj [] rfl ?_
    exact fin hs v7
  have c1 : ¬ x.i.op = 38 := of_decide_eq_false hc
  refine Wi (Wg (w := .bool (decide (x.i.op = 64524))) rfl rfl (by congr 1) (Wa rfl rfl (Wh [(0,_),(3,_),(4,_),(7,_),(38,_)] rfl ?_)))
  refine Wn rfl (fun hc => ?_) (fun hc => ?_)
  · have c2 : x.i.op = 64524 := of_decide_eq_true hc
    have hs : s.tablesR M x.i = VS.fitsR [127,127,127] [] ((s.tableR M x.i.b).2.fails (decide (¬ x.i.a < M.elems.length ∨ M.elems.getD x.i.a 0 ≠ (s.tableR M x.i.b).1))) := by
      unfold VS.tablesR
      rw [if_neg c0,if_neg c1,if_pos c2]
    refine Wi (Wa rfl rfl (Wa rfl rfl (We (v := .int .u32 (x.i.b : Int)) rfl R0.g rfl (Wc rfl (R0.table hne ok.b) ?_))))
    rintro _ h1 ⟨rfl,O1,R1,t1⟩
    have k1 := VS.tableR_kp M x.i.b s
    refine Wa rfl rfl (Wh [(0,_),(3,_),(4,_),(5,_)] rfl ?_)
    generalize htt : (s.tableR M x.i.b).1 = tt at hs ⊢
    generalize hs1 : (s.tableR M x.i.b).2 = s1 at hs R1 k1 ⊢
    obtain ⟨a1,d1,oa1,oc1,ms1,X1⟩ := id R1.X
    obtain ⟨ea,ec,el,ey1,ey2,ey3,ey4⟩ := R1.Y.el
    have esz := R1.Y.sz.2.2.2.2.1
    obtain ⟨C,hC⟩ : ∃ C : Bool,C = decide (¬ x.i.a < M.elems.length ∨ M.elems.getD x.i.a 0 ≠ tt) := ⟨_,rfl⟩
    rw [← hC] at hs
    refine Ww (fun e' h' => e' = [(0,ptr K.p),(4,.int .u8 127)] ∧ ∃ O',Rq K M h O h.next x.enc 900000000 h' O' (s1.fails C) ∧ Tn K.toVK h1 h' O1 O') ?_ ?_
    · refine Wk (Wa rfl rfl ?_)
      refine Wa rfl rfl ?_
      refine Wa rfl rfl ?_
      refine Wa rfl rfl ?_
      refine We (v := .bool s1.bad) rfl X1.g rfl ?_
      refine Wa rfl rfl ?_
      cases hbd : s1.bad with
      | true =>
        refine Wb rfl ?_
        refine Wb rfl ?_
        refine Wb rfl ?_
        refine Wb rfl ?_
        refine Wb rfl ?_
        refine Wb rfl ?_
        refine Wb rfl ?_
        refine Wb rfl ?_
        refine Wb rfl ?_
        refine Wb rfl ?_
        refine Wb rfl ?_
        refine Wa rfl rfl ?_
        refine Wa rfl rfl ?_
        refine Wb rfl ?_
        refine Wb rfl ?_
        refine Wb rfl ?_
        refine Wb rfl ?_
        refine Wb rfl ?_
        refine Wb rfl ?_
        refine Wb rfl ?_
        refine Wb rfl ?_
        refine Wb rfl ?_
        refine Wb rfl ?_
        refine Wb rfl ?_
        refine Wb rfl ?_
        refine Wa rfl rfl ?_
        refine Wa rfl rfl ?_
        refine Wa rfl rfl ?_
        refine Wm (l := [.bool (true)]) rfl rfl rfl rfl X1.g (by rw [VR.cs_len]; decide) rfl fun hz nz xz gz => Wj [(0,_),(4,_)] rfl ?_
        exact ⟨rfl,_,R1.flag X1 C xz gz (by rw [hbd,hC]; first | rfl | (simp [] <;> omega) | (simp <;> omega))⟩
      | false =>
        refine Wd rfl ?_
        refine Wa rfl rfl ?_
        refine Wd rfl ?_
        refine We (v := .int .u32 (x.i.a : Int)) rfl R1.g rfl ?_
        refine Wd rfl ?_
        refine Wg (w := .int .u64 ((x.i.a : Nat) : Int)) rfl rfl (by rw [Qd (by omega)]) ?_
        refine Wd rfl ?_
        refine Wa rfl rfl ?_
        refine Wd rfl ?_
        refine Wa rfl rfl ?_
        refine Wd rfl ?_
        refine Wa rfl rfl ?_
        refine Wd rfl ?_
        refine Wa rfl rfl ?_
        refine Wd rfl ?_
        refine We (v := .slice ea M.elems.length ec) rfl X1.g ey1 ?_
        refine Wd rfl ?_
        refine Wa rfl rfl ?_
        refine Wd rfl ?_
        refine Wg (w := .int .u64 ((M.elems.length : Nat) : Int)) rfl rfl (by rw [Qd (by omega)]) ?_
        refine Wd rfl ?_
        refine Wg (w := .bool (decide (x.i.a ≥ M.elems.length))) rfl rfl (by congr 1 <;> (rw [Bool.eq_iff_iff]; simp <;> omega)) ?_
        refine Wa rfl rfl ?_
        refine Wa rfl rfl ?_
        by_cases q2 : x.i.a ≥ M.elems.length
        · rw [show decide (x.i.a ≥ M.elems.length) = true from decide_eq_true q2]
          refine Wb rfl ?_
          refine Wb rfl ?_
          refine Wb rfl ?_
          refine Wb rfl ?_
          refine Wb rfl ?_
          refine Wb rfl ?_
          refine Wb rfl ?_
          refine Wb rfl ?_
          refine Wb rfl ?_
          refine Wb rfl ?_
          refine Wb rfl ?_
          refine Wb rfl ?_
          refine Wa rfl rfl ?_
          refine Wa rfl rfl ?_
          refine Wa rfl rfl ?_
          refine Wm (l := [.bool (true)]) rfl rfl rfl rfl X1.g (by rw [VR.cs_len]; decide) rfl fun hz nz xz gz => Wj [(0,_),(4,_)] rfl ?_
          exact ⟨rfl,_,R1.flag X1 C xz gz (by rw [hbd,hC]; first | rfl | (simp [q2] <;> omega) | (simp <;> omega))⟩
        · rw [show decide (x.i.a ≥ M.elems.length) = false from decide_eq_false q2]
          refine Wd rfl ?_
          refine Wa rfl rfl ?_
          refine Wd rfl ?_
          refine Wa rfl rfl ?_
          refine Wd rfl ?_
          refine Wa rfl rfl ?_
          refine Wd rfl ?_
          refine Wa rfl rfl ?_
          refine Wd rfl ?_
          refine We (v := .slice ea M.elems.length ec) rfl X1.g ey1 ?_
          refine Wd rfl ?_
          refine Wa rfl rfl ?_
          refine Wd rfl ?_
          refine We (v := .int .u32 (x.i.a : Int)) rfl R1.g rfl ?_
          refine Wd rfl ?_
          have hel : x.i.a < M.elems.length := by omega
          obtain ⟨eid,eo,evs,eez,ero,rfl,ego,egl,egw,egi⟩ := ey2.at (by omega)
          have ev : evs[eo + (x.i.a : Int).toNat * 5 + 1]? = some (.int .u8 (M.elems.getD x.i.a 0 : Int)) := by
            rw [Int.toNat_natCast,Nat.add_assoc,egi _ (by omega),ey4 _ hel]
            simp [List.getD,hel]
          refine Yk rfl rfl ⟨by omega,by omega⟩ ?_
          refine Wd rfl (Wa rfl rfl (Wd rfl (We rfl ego ev ?_)))
          refine Wd rfl ?_
          refine Wa rfl rfl ?_
          refine Wd rfl ?_
          refine Wg (w := .bool (decide (M.elems.getD x.i.a 0 ≠ tt))) rfl rfl (by congr 1 <;> (rw [Bool.eq_iff_iff]; simp <;> omega)) ?_
          refine Wa rfl rfl ?_
          refine Wa rfl rfl ?_
          refine Wa rfl rfl ?_
          refine Wm (l := [.bool (decide (M.elems.getD x.i.a 0 ≠ tt))]) rfl rfl rfl rfl X1.g (by rw [VR.cs_len]; decide) rfl fun hz nz xz gz => Wj [(0,_),(4,_)] rfl ?_
          exact ⟨rfl,_,R1.flag X1 C xz gz (by rw [hbd,hC]; first | rfl | (simp [q2] <;> omega) | (simp <;> omega))⟩
    rintro _ h2 ⟨rfl,O2,R2,t2⟩
    have k2 := k1.trans (VS.fails_kp C s1)
    refine Wk (Wa rfl rfl (Wa rfl rfl (Wa rfl rfl (Wa rfl rfl (Wl rfl rfl fun h3 n3 x3 g3 => ?_)))))
    obtain ⟨R3,t3⟩ := R2.ext0 x3
    refine Wc rfl (R3.fits (k2.ne hne) (R2.new (l := [127,127,127]) (n := 3) (c := 1) n3 g3 rfl) Stl.none (by decide) (by decide)) ?_
    rintro _ h4 v4
    refine Wj [] rfl ?_
    exact fin hs v4
  have c2 : ¬ x.i.op = 64524 := of_decide_eq_false hc
  refine Wi (Wg (w := .bool (decide (x.i.op = 64525))) rfl rfl (by congr 1) (Wa rfl rfl (Wh [(0,_),(3,_),(4,_),(7,_),(84,_)] rfl ?_)))
  refine Wn rfl (fun hc => ?_) (fun hc => ?_)
  · have c3 : x.i.op = 64525 := of_decide_eq_true hc
    have hs : s.tablesR M x.i = s.fails (decide ¬ x.i.a < M.elems.length) := by
      unfold VS.tablesR
      rw [if_neg c0,if_neg c1,if_neg c2,if_pos c3]
    obtain ⟨a1,d1,oa1,oc1,ms1,X1⟩ := id R0.X
    obtain ⟨ea,ec,el,ey1,ey2,ey3,ey4⟩ := R0.Y.el
    have esz := R0.Y.sz.2.2.2.2.1
    obtain ⟨C,hC⟩ : ∃ C : Bool,C = decide (¬ x.i.a < M.elems.length) := ⟨_,rfl⟩
    rw [← hC] at hs
    refine Wk (Wa rfl rfl ?_)
    refine Wa rfl rfl ?_
    refine Wa rfl rfl ?_
    refine Wa rfl rfl ?_
    refine We (v := .bool s.bad) rfl X1.g rfl ?_
    refine Wa rfl rfl ?_
    cases hbd : s.bad with
    | true =>
      refine Wb rfl ?_
      refine Wb rfl ?_
      refine Wb rfl ?_
      refine Wb rfl ?_
      refine Wb rfl ?_
      refine Wb rfl ?_
      refine Wb rfl ?_
      refine Wb rfl ?_
      refine Wb rfl ?_
      refine Wb rfl ?_
      refine Wb rfl ?_
      refine Wa rfl rfl ?_
      refine Wa rfl rfl ?_
      refine Wa rfl rfl ?_
      refine Wm (l := [.bool (true)]) rfl rfl rfl rfl X1.g (by rw [VR.cs_len]; decide) rfl fun hz nz xz gz => Wj [] rfl ?_
      exact fin hs (R0.flag X1 C xz gz (by rw [hbd,hC]; first | rfl | (simp [] <;> omega) | (simp <;> omega))).1.done
    | false =>
      refine Wd rfl ?_
      refine Wa rfl rfl ?_
      refine Wd rfl ?_
      refine We (v := .int .u32 (x.i.a : Int)) rfl R0.g rfl ?_
      refine Wd rfl ?_
      refine Wg (w := .int .u64 ((x.i.a : Nat) : Int)) rfl rfl (by rw [Qd (by omega)]) ?_
      refine Wd rfl ?_
      refine Wa rfl rfl ?_
      refine Wd rfl ?_
      refine Wa rfl rfl ?_
      refine Wd rfl ?_
      refine Wa rfl rfl ?_
      refine Wd rfl ?_
      refine Wa rfl rfl ?_
      refine Wd rfl ?_
      refine We (v := .slice ea M.elems.length ec) rfl X1.g ey1 ?_
      refine Wd rfl ?_
      refine Wa rfl rfl ?_
      refine Wd rfl ?_
      refine Wg (w := .int .u64 ((M.elems.length : Nat) : Int)) rfl rfl (by rw [Qd (by omega)]) ?_
      refine Wd rfl ?_
      refine Wg (w := .bool (decide (x.i.a ≥ M.elems.length))) rfl rfl (by congr 1 <;> (rw [Bool.eq_iff_iff]; simp <;> omega)) ?_
      refine Wa rfl rfl ?_
      refine Wa rfl rfl ?_
      refine Wa rfl rfl ?_
      refine Wm (l := [.bool (decide (x.i.a ≥ M.elems.length))]) rfl rfl rfl rfl X1.g (by rw [VR.cs_len]; decide) rfl fun hz nz xz gz => Wj [] rfl ?_
      exact fin hs (R0.flag X1 C xz gz (by rw [hbd,hC]; first | rfl | (simp [] <;> omega) | (simp <;> omega))).1.done
  have c3 : ¬ x.i.op = 64525 := of_decide_eq_false hc
  refine Wi (Wg (w := .bool (decide (x.i.op = 64526))) rfl rfl (by congr 1) (Wa rfl rfl (Wh [(0,_),(3,_),(4,_),(7,_),(106,_)] rfl ?_)))
  refine Wn rfl (fun hc => ?_) (fun hc => ?_)
  · have c4 : x.i.op = 64526 := of_decide_eq_true hc
    have hs : s.tablesR M x.i = VS.fitsR [127,127,127] [] (((s.tableR M x.i.a).2.tableR M x.i.b).2.fails (decide ((s.tableR M x.i.a).1 ≠ ((s.tableR M x.i.a).2.tableR M x.i.b).1))) := by
      unfold VS.tablesR
      rw [if_neg c0,if_neg c1,if_neg c2,if_neg c3,if_pos c4]
    refine Wi (Wa rfl rfl (Wa rfl rfl (Wa rfl rfl (We (v := .int .u32 (x.i.a : Int)) rfl R0.g rfl (Wa rfl rfl (Wa rfl rfl (We (v := .int .u32 (x.i.b : Int)) rfl R0.g rfl (Wc rfl (R0.table hne ok.a) ?_))))))))
    rintro _ h1 ⟨rfl,O1,R1,t1⟩
    have k1 := VS.tableR_kp M x.i.a s
    refine Vi (v := .int .u32 (x.i.b : Int)) rfl rfl R1.g rfl (by simp [Yh,Yx]) (Wc rfl (R1.table (k1.ne hne) ok.b) ?_)
    rintro _ h2 ⟨rfl,O2,R2,t2⟩
    have k2 := k1.trans (VS.tableR_kp M x.i.b (s.tableR M x.i.a).2)
    generalize ht1 : (s.tableR M x.i.a).1 = u1 at hs ⊢
    generalize ht2 : ((s.tableR M x.i.a).2.tableR M x.i.b).1 = u2 at hs ⊢
    generalize hs2 : ((s.tableR M x.i.a).2.tableR M x.i.b).2 = s2 at hs R2 k2 ⊢
    obtain ⟨a2,d2,oa2,oc2,ms2,X2⟩ := id R2.X
    refine Wg (w := .bool (decide (u1 ≠ u2))) rfl rfl (by congr 1 <;> (rw [Bool.eq_iff_iff]; simp <;> omega)) (Wa rfl rfl ?_)
    by_cases cu : u1 ≠ u2
    · rw [show decide (u1 ≠ u2) = true from decide_eq_true cu] at hs ⊢
      refine Wb rfl (Wb rfl (Wb rfl (Wb rfl (Wa rfl rfl (Wa rfl rfl (Wa rfl rfl (Wm (l := [.bool true]) rfl rfl rfl rfl X2.g (by rw [VR.cs_len]; decide) rfl fun h3 n3 x3 g3 => Wh [(0,_),(4,_)] rfl ?_)))))))
      obtain ⟨R3,t3⟩ := R2.flag X2 true x3 g3 (by simp)
      refine Wk (Wa rfl rfl (Wa rfl rfl (Wa rfl rfl (Wa rfl rfl (Wl rfl rfl fun h4 n4 x4 g4 => ?_)))))
      obtain ⟨R4,t4⟩ := R3.ext0 x4
      refine Wc rfl (R4.fits ((k2.trans (VS.fails_kp true s2)).ne hne) (R3.new (l := [127,127,127]) (n := 3) (c := 1) n4 g4 rfl) Stl.none (by decide) (by decide)) ?_
      rintro _ h5 v5
      refine Wj [] rfl ?_
      exact fin hs v5
    · rw [show decide (u1 ≠ u2) = false from decide_eq_false cu] at hs ⊢
      refine Wd rfl (Wa rfl rfl (Wd rfl (Wa rfl rfl (Wd rfl (Wa rfl rfl (Wd rfl (We (v := .bool s2.bad) rfl X2.g rfl (Wa rfl rfl (Wa rfl rfl (Wa rfl rfl (Wm (l := [.bool s2.bad]) rfl rfl rfl rfl X2.g (by rw [VR.cs_len]; decide) rfl fun h3 n3 x3 g3 => Wh [(0,_),(4,_)] rfl ?_)))))))))))
      obtain ⟨R3,t3⟩ := R2.flag X2 false x3 g3 (by simp)
      refine Wk (Wa rfl rfl (Wa rfl rfl (Wa rfl rfl (Wa rfl rfl (Wl rfl rfl fun h4 n4 x4 g4 => ?_)))))
      obtain ⟨R4,t4⟩ := R3.ext0 x4
      refine Wc rfl (R4.fits ((k2.trans (VS.fails_kp false s2)).ne hne) (R3.new (l := [127,127,127]) (n := 3) (c := 1) n4 g4 rfl) Stl.none (by decide) (by decide)) ?_
      rintro _ h5 v5
      refine Wj [] rfl ?_
      exact fin hs v5
  have c4 : ¬ x.i.op = 64526 := of_decide_eq_false hc
  refine Wi (Wg (w := .bool (decide (x.i.op = 64527))) rfl rfl (by congr 1) (Wa rfl rfl (Wh [(0,_),(3,_),(4,_),(7,_),(132,_)] rfl ?_)))
  refine Wn rfl (fun hc => ?_) (fun hc => ?_)
  · have c5 : x.i.op = 64527 := of_decide_eq_true hc
    have hs : s.tablesR M x.i = VS.fitsR [(s.tableR M x.i.a).1,127] [127] (s.tableR M x.i.a).2 := by
      unfold VS.tablesR
      rw [if_neg c0,if_neg c1,if_neg c2,if_neg c3,if_neg c4,if_pos c5]
    refine Wk (Wa rfl rfl (Wa rfl rfl (Wa rfl rfl (We (v := .int .u32 (x.i.a : Int)) rfl R0.g rfl (Wc rfl (R0.table ((VS.Kp.refl s).ne hne) (ok.a)) ?_)))))
    rintro _ h8 ⟨rfl,O8,R8,t8⟩
    have k8 : VS.Kp s (s.tableR M x.i.a).2 := (VS.Kp.refl s).trans (VS.tableR_kp _ _ _)
    refine Wa rfl rfl (Wl rfl rfl fun h9 n9 x9 g9 => ?_)
    have sl9 : SlA h9 1 (some ⟨h8.next,0,none⟩) 2 1 (bys [(s.tableR M x.i.a).1,127]) := SlA.mk' (n := 2) (c := 1) (sz := 1) (off := 0) g9 (Nat.le_refl 2) (.inr (.inr rfl))
    have f9 : Stl h9 O8 (some ⟨h8.next,0,none⟩) 2 1 [(s.tableR M x.i.a).1,127] := ⟨sl9,fun i q => by rw [Blk.at] at q; subst q; exact ⟨by omega,fun q => by have := R8.olt _ q; omega⟩⟩
    obtain ⟨R9,t9⟩ := R8.ext0 x9
    refine Wa rfl rfl (Wl rfl rfl fun h10 n10 x10 g10 => ?_)
    have sl10 : SlA h10 1 (some ⟨h9.next,0,none⟩) 1 1 (bys [127]) := SlA.mk' (n := 1) (c := 1) (sz := 1) (off := 0) g10 (Nat.le_refl 1) (.inr (.inr rfl))
    have f10 : Stl h10 O8 (some ⟨h9.next,0,none⟩) 1 1 [127] := ⟨sl10,fun i q => by rw [Blk.at] at q; subst q; exact ⟨by omega,fun q => by have := R9.olt _ q; omega⟩⟩
    obtain ⟨R10,t10⟩ := R9.ext0 x10
    have f9_10 := f9.turn t10.t
    refine Wc rfl (R10.fits (k8.ne hne) f9_10 f10 (by decide) (by decide)) ?_
    rintro _ h11 v11
    refine Wj [] rfl ?_
    exact fin hs v11
  have c5 : ¬ x.i.op = 64527 := of_decide_eq_false hc
  refine Wi (Wg (w := .bool (decide (x.i.op = 64528))) rfl rfl (by congr 1) (Wa rfl rfl (Wh [(0,_),(3,_),(4,_),(144,_)] rfl ?_)))
  refine Wn rfl (fun hc => ?_) (fun hc => ?_)
  · have c6 : x.i.op = 64528 := of_decide_eq_true hc
    have hs : s.tablesR M x.i = (s.tableR M x.i.a).2.push [127] := by
      unfold VS.tablesR
      rw [if_neg c0,if_neg c1,if_neg c2,if_neg c3,if_neg c4,if_neg c5,if_pos c6]
    refine Wi (Wa rfl rfl (Wa rfl rfl (We (v := .int .u32 (x.i.a : Int)) rfl R0.g rfl (Wc rfl (R0.table ((VS.Kp.refl s).ne hne) (ok.a)) ?_))))
    rintro _ h12 ⟨rfl,O12,R12,t12⟩
    have k12 : VS.Kp s (s.tableR M x.i.a).2 := (VS.Kp.refl s).trans (VS.tableR_kp _ _ _)
    refine Wh [(0,_),(4,_)] rfl ?_
    refine Wk (Wa rfl rfl (Wa rfl rfl (Wl rfl rfl fun h13 n13 x13 g13 => ?_)))
    have sl13 : SlA h13 1 (some ⟨h12.next,0,none⟩) 1 1 (bys [127]) := SlA.mk' (n := 1) (c := 1) (sz := 1) (off := 0) g13 (Nat.le_refl 1) (.inr (.inr rfl))
    have f13 : Stl h13 O12 (some ⟨h12.next,0,none⟩) 1 1 [127] := ⟨sl13,fun i q => by rw [Blk.at] at q; subst q; exact ⟨by omega,fun q => by have := R12.olt _ q; omega⟩⟩
    obtain ⟨R13,t13⟩ := R12.ext0 x13
    refine Wc rfl (R13.push (k12.ne hne) f13.1 (by decide) (by omega)) ?_
    rintro _ h14 ⟨O14,R14,t14⟩
    have f13_14 := f13.turn t14.t
    have k14 : VS.Kp s ((s.tableR M x.i.a).2.push [127]) := k12.trans (VS.push_kp _ _)
    refine Wj [] rfl ?_
    exact fin hs R14.done
  have c6 : ¬ x.i.op = 64528 := of_decide_eq_false hc
  have hs : s.tablesR M x.i = VS.fitsR [127,(s.tableR M x.i.a).1,127] [] (s.tableR M x.i.a).2 := by
    unfold VS.tablesR
    rw [if_neg c0,if_neg c1,if_neg c2,if_neg c3,if_neg c4,if_neg c5,if_neg c6]
  refine Wk (Wa rfl rfl (Wa rfl rfl (Wa rfl rfl (Wa rfl rfl (We (v := .int .u32 (x.i.a : Int)) rfl R0.g rfl (Wc rfl (R0.table ((VS.Kp.refl s).ne hne) (ok.a)) ?_))))))
  rintro _ h15 ⟨rfl,O15,R15,t15⟩
  have k15 : VS.Kp s (s.tableR M x.i.a).2 := (VS.Kp.refl s).trans (VS.tableR_kp _ _ _)
  refine Wa rfl rfl (Wl rfl rfl fun h16 n16 x16 g16 => ?_)
  have sl16 : SlA h16 1 (some ⟨h15.next,0,none⟩) 3 1 (bys [127,(s.tableR M x.i.a).1,127]) := SlA.mk' (n := 3) (c := 1) (sz := 1) (off := 0) g16 (Nat.le_refl 3) (.inr (.inr rfl))
  have f16 : Stl h16 O15 (some ⟨h15.next,0,none⟩) 3 1 [127,(s.tableR M x.i.a).1,127] := ⟨sl16,fun i q => by rw [Blk.at] at q; subst q; exact ⟨by omega,fun q => by have := R15.olt _ q; omega⟩⟩
  obtain ⟨R16,t16⟩ := R15.ext0 x16
  refine Wc rfl (R16.fits (k15.ne hne) f16 Stl.none (by decide) (by decide)) ?_
  rintro _ h17 v17
  refine Wj [] rfl ?_
  exact fin hs v17
end

end
section
/- The document's checker: names, numbers. -/
section
variable {K : VR} {M : Mo} {h : Heap} {O : Nat → Prop} {s : VS}
set_option maxHeartbeats 2000000 in
theorem C114 {x : IM} (X : Rk K h O s) (Y : MoX h O K.pm M K.m.l) (wf : VS.Wf s) (hne : s.op ≠ []) (hl : s.l.length ≤ 900000000) (ho : s.op.length ≤ 1000000) (ok : x.i.Ok) (hL : K.L.length ≤ 1000000) (hop : x.i.op ≥ 32 ∧ x.i.op ≤ 36) :
    Fn Try.prog 114 [ptr K.p,.agg ⟨x.enc⟩] h fun v h' => Rg K h O h' (s.namesR M K.L x.i) := by
  have hka := ok.a
  obtain ⟨ya,yc,yl,y1,y2,y3,y4⟩ := Y.gl
  have hsz := Y.sz.2.2.2.1
  refine fnK F114.fok rfl ?_
  refine Wi (Xp (cs := x.enc) rfl rfl fun h0 n0 x0 g0 => Wh [(0,_),(3,_)] rfl ?_)
  have R0 := Rq.start X Y wf hl ho x0 n0 g0
  have y2' := y2.ext x0
  obtain ⟨a0,c0,oa0,oc0,ms0,X0⟩ := id R0.X
  unfold VS.namesR
  refine Wi (Wa rfl rfl (Wa rfl rfl (Wa rfl rfl (We (v := .slice K.la K.L.length K.lc) rfl X0.g rfl (Wa rfl rfl (Wa rfl rfl (Wh [(0,_),(3,_),(4,_)] rfl ?_)))))))
  refine Ww (fun e' h' => (∃ w,e' = (0,ptr K.p) :: (3,ptr h.next) :: (4,.int .i64 ((if x.i.op ≥ 35 then M.globals.length else K.L.length : Nat) : Int)) :: w) ∧ h0 = h') ?_ ?_
  · refine Wi (Wa rfl rfl (We (v := .int .i64 x.i.op) rfl R0.g rfl (Wg (w := .bool (decide (x.i.op ≥ 35))) rfl rfl (by congr 1) (Wh [(0,_),(3,_),(4,_),(14,_)] rfl ?_))))
    refine Wn rfl (fun hc => ?_) (fun hc => ?_)
    · refine Wk (Wa rfl rfl (Wa rfl rfl (Wa rfl rfl (Wa rfl rfl (We (v := .slice ya M.globals.length yc) rfl X0.g y1 (Wa rfl rfl (Wa rfl rfl (Wj [(0,_),(3,_),(4,_)] rfl ?_))))))))
      rw [if_pos (of_decide_eq_true hc)]
      exact ⟨⟨[],rfl⟩,rfl⟩
    · refine Ye ?_
      rw [if_neg (of_decide_eq_false hc)]
      exact ⟨⟨_,rfl⟩,rfl⟩
  rintro _ _ ⟨⟨w,rfl⟩,rfl⟩
  have hn : (if x.i.op ≥ 35 then M.globals.length else K.L.length : Nat) ≤ 1000000 := by split <;> omega
  generalize hnn : (if x.i.op ≥ 35 then M.globals.length else K.L.length : Nat) = n at hn
  refine Xd (Wi (Wa rfl rfl (We (v := .int .u32 (x.i.a : Int)) rfl R0.g rfl (Wg (w := .int .u64 ((x.i.a : Nat) : Int)) rfl rfl (by rw [Qd (by omega)]) (Wa rfl rfl (Wg (w := .int .u64 ((n : Nat) : Int)) rfl rfl (by rw [Qd (by omega)]) (Wg (w := .bool (decide (¬ x.i.a < n))) rfl rfl (by congr 1 <;> (rw [Bool.eq_iff_iff]; simp <;> omega)) (Wh [(0,_),(3,_),(26,_)] rfl ?_))))))))
  by_cases hin : x.i.a < n
  · refine Wp rfl (fun hc => absurd hin (of_decide_eq_true hc)) (fun _ => Wt ?_)
    refine Xd (Wi (Wa rfl rfl (We (v := .int .i64 x.i.op) rfl R0.g rfl (Wg (w := .bool (decide (x.i.op ≥ 35))) rfl rfl (by congr 1) (Wh [(0,_),(3,_),(32,_)] rfl ?_)))))
    refine Wp rfl (fun hc => ?_) (fun hc => ?_)
    · have h35 := of_decide_eq_true hc
      rw [if_pos h35] at hnn
      subst hnn
      obtain ⟨gv,hgv,egv⟩ := y4 x.i.a hin
      have eg : M.globals.getD x.i.a (0,false) = M.globals[x.i.a] := by simp [List.getD,hin]
      rw [if_pos h35,if_pos hin,eg]
      generalize M.globals[x.i.a] = gx at egv ⊢
      have hcl : [Value.int .u8 (gx.1 : Int),.bool gx.2,gv].all isCell = true := by simp only [List.all_cons,hgv]; rfl
      refine Xd (Wi (Wa rfl rfl (Wa rfl rfl (Wa rfl rfl (Wa rfl rfl (We (v := .slice ya M.globals.length yc) rfl X0.g y1 (Wa rfl rfl (We (v := .int .u32 (x.i.a : Int)) rfl R0.g rfl (Vh rfl rfl y2' hin egv fun p => ?_)))))))))
      refine Xl fun h1 n1 x1 g1 => Wm (l := [.int .u8 (gx.1 : Int),.bool gx.2,gv]) rfl rfl rfl rfl g1 (by simp) hcl fun h2 n2 x2 g2 => Wh [(0,_),(3,_),(5,_)] rfl ?_
      have x02 : Xk h0 h2 := x1.then x2 fun i q => .inr (by omega)
      replace g2 : At h2 h0.next (.cells [.int .u8 (gx.1 : Int),.bool gx.2,gv] 0 false) := g2
      obtain ⟨R2,t2⟩ := R0.ext0 x02
      have z2 : ¬ O h0.next := fun q => by have := R0.olt _ q; omega
      refine Xd (Xd (Wi (Wa rfl rfl (We (v := .int .i64 x.i.op) rfl R2.g rfl (Wg (w := .bool (decide (x.i.op = 35))) rfl rfl (by congr 1) (Wh [(0,_),(5,_),(44,_)] rfl ?_))))))
      refine Wp rfl (fun hc => ?_) (fun hc => ?_)
      · rw [if_pos (of_decide_eq_true hc)]
        refine Xd (Wi (Wa rfl rfl (Wa rfl rfl (We (v := .int .u8 (gx.1 : Int)) rfl g2 rfl (Wl rfl rfl fun h3 n3 x3 g3 => ?_)))))
        obtain ⟨R3,t3⟩ := R2.ext0 x3
        refine Wc rfl (R3.push hne (R2.new (l := [gx.1]) (n := 1) (c := 1) n3 g3 rfl).1 (by decide) (by omega)) ?_
        rintro _ h4 ⟨O4,R4,t4⟩
        refine Wh [] rfl ?_
        exact Xo (Wx.mk [] rfl R4.done)
      · rw [if_neg (of_decide_eq_false hc)]
        refine Wt ?_
        obtain ⟨a2,c2,oa2,oc2,ms2,X2⟩ := id R2.X
        obtain ⟨C,hC⟩ : ∃ C : Bool,C = (!gx.2) := ⟨_,rfl⟩
        rw [← hC]
        generalize hgb : gx.2 = gb at g2 hC
        refine Xd (Ww (fun e' h' => e' = [(0,ptr K.p),(5,ptr h0.next)] ∧ ∃ O',Rq K M h O h.next x.enc 900000000 h' O' (s.fails C) ∧ Tn K.toVK h2 h' O O') ?_ ?_)
        · refine Wk (Wa rfl rfl ?_)
          refine Wa rfl rfl ?_
          refine Wa rfl rfl ?_
          refine Wa rfl rfl ?_
          refine We (v := .bool s.bad) rfl X2.g rfl ?_
          refine Wa rfl rfl ?_
          cases hbd : s.bad with
          | true =>
            refine Wb rfl ?_
            refine Wb rfl ?_
            refine Wb rfl ?_
            refine Wa rfl rfl ?_
            refine Wa rfl rfl ?_
            refine Wa rfl rfl ?_
            refine Wm (l := [.bool (true)]) rfl rfl rfl rfl X2.g (by rw [VR.cs_len]; decide) rfl fun hz nz xz gz => Wj [(0,_),(5,_)] rfl ?_
            exact ⟨rfl,_,R2.flag X2 C xz gz (by rw [hbd,hC]; first | rfl | (simp [] <;> omega) | (simp <;> omega))⟩
          | false =>
            refine Wd rfl ?_
            refine Wa rfl rfl ?_
            refine Wd rfl ?_
            refine We (v := .bool gb) rfl g2 rfl ?_
            refine Wd rfl ?_
            refine Wa rfl rfl ?_
            refine Wa rfl rfl ?_
            refine Wa rfl rfl ?_
            refine Wa rfl rfl ?_
            refine Wm (l := [.bool (!gb)]) rfl rfl rfl rfl X2.g (by rw [VR.cs_len]; decide) rfl fun hz nz xz gz => Wj [(0,_),(5,_)] rfl ?_
            exact ⟨rfl,_,R2.flag X2 C xz gz (by rw [hbd,hC]; first | rfl | (simp [] <;> omega) | (simp <;> omega))⟩
        rintro _ h3 ⟨rfl,O3,R3,t3⟩
        have g3 := g2.ext t3.t.ext z2
        refine Xd (Wi (Wa rfl rfl (Wa rfl rfl (We (v := .int .u8 (gx.1 : Int)) rfl g3 rfl (Wc rfl (R3.pop ((VS.fails_kp C s).ne hne)) ?_)))))
        rintro _ h4 ⟨rfl,O4,R4,t4⟩
        refine Wh [] rfl ?_
        exact Xo (Wx.mk [] rfl R4.done)
    · have h35 := of_decide_eq_false hc
      rw [if_neg h35] at hnn
      subst hnn
      have eu : (bys K.L)[(x.i.a : Int).toNat]? = some (.int .u8 (K.L.getD x.i.a 0 : Int)) := by
        rw [Int.toNat_natCast,List.getElem?_map,List.getElem?_eq_getElem hin]
        simp [List.getD,hin]
      rw [if_neg h35,if_pos hin]
      generalize hlt : K.L.getD x.i.a 0 = lt at eu ⊢
      refine Wt (Wi (Wa rfl rfl (Wa rfl rfl (Wa rfl rfl (We (v := .slice K.la K.L.length K.lc) rfl X0.g rfl (Wa rfl rfl (We (v := .int .u32 (x.i.a : Int)) rfl R0.g rfl (Xm rfl rfl X0.loc.1 ⟨by omega,by omega⟩ eu fun p => Wa rfl rfl (Wh [(0,_),(3,_),(6,_)] rfl ?_)))))))))
      refine Wi (Wa rfl rfl (We (v := .int .i64 x.i.op) rfl R0.g rfl (Wh [(0,_),(6,_),(75,_)] rfl ?_)))
      refine Yw ?_
      refine Wi (Wg (w := .bool (decide (x.i.op = 32))) rfl rfl (by congr 1) (Wa rfl rfl (Wh [(0,_),(6,_),(75,_),(82,_)] rfl ?_)))
      refine Wn rfl (fun hc => ?_) (fun hc => ?_)
      · rw [if_pos (of_decide_eq_true hc)]
        refine Wk (Wa rfl rfl (Wa rfl rfl (Wl rfl rfl fun h3 n3 x3 g3 => ?_)))
        obtain ⟨R3,t3⟩ := R0.ext0 x3
        refine Wc rfl (R3.push hne (R0.new (l := [lt]) (n := 1) (c := 1) n3 g3 rfl).1 (by decide) (by omega)) ?_
        rintro _ h4 ⟨O4,R4,t4⟩
        exact Wj [] rfl (Wx.mk [] rfl R4.done)
      rw [if_neg (of_decide_eq_false hc)]
      refine Wi (Wg (w := .bool (decide (x.i.op = 33))) rfl rfl (by congr 1) (Wa rfl rfl (Wh [(0,_),(6,_),(88,_)] rfl ?_)))
      refine Wn rfl (fun hc => ?_) (fun hc => ?_)
      · rw [if_pos (of_decide_eq_true hc)]
        refine Wk (Wa rfl rfl (Wa rfl rfl (Wc rfl (R0.pop hne) ?_)))
        rintro _ h4 ⟨rfl,O4,R4,t4⟩
        exact Wj [] rfl (Wx.mk [] rfl R4.done)
      rw [if_neg (of_decide_eq_false hc)]
      refine Wk (Wa rfl rfl (Wa rfl rfl (Wl rfl rfl fun h3 n3 x3 g3 => Wa rfl rfl (Wl rfl rfl fun h4 n4 x4 g4 => ?_))))
      obtain ⟨R3,t3⟩ := R0.ext0 x3
      obtain ⟨R4,t4⟩ := R3.ext0 x4
      refine Wc rfl (R4.fits hne ((R0.new (l := [lt]) (n := 1) (c := 1) n3 g3 rfl).ext0 x4) (R3.new (l := [lt]) (n := 1) (c := 1) n4 g4 rfl) (by decide) (by decide)) ?_
      rintro _ h5 g5
      exact Wj [] rfl (Wx.mk [] rfl g5)
  · refine Wp rfl (fun _ => ?_) (fun hc => absurd hc (by rw [decide_eq_true hin]; simp))
    refine Xd (Wi (Wa rfl rfl (Wa rfl rfl (Wa rfl rfl (Wm (l := [.bool true]) rfl rfl rfl rfl X0.g (by rw [VR.cs_len]; decide) rfl fun h2 n2 x2 g2 => Wh [] rfl ?_)))))
    have e : (if x.i.op ≥ 35 then (if x.i.a < M.globals.length then (if x.i.op = 35 then s.push [(M.globals.getD x.i.a (0,false)).1] else ((s.fails (!(M.globals.getD x.i.a (0,false)).2)).popR (M.globals.getD x.i.a (0,false)).1).2) else s.fails true) else if x.i.a < K.L.length then (if x.i.op = 32 then s.push [K.L.getD x.i.a 0] else if x.i.op = 33 then (s.popR (K.L.getD x.i.a 0)).2 else VS.fitsR [K.L.getD x.i.a 0] [K.L.getD x.i.a 0] s) else s.fails true) = s.fails true := by
      by_cases h35 : x.i.op ≥ 35
      · rw [if_pos h35] at hnn ⊢
        rw [if_neg (by omega)]
      · rw [if_neg h35] at hnn ⊢
        rw [if_neg (by omega)]
    rw [e]
    exact Xo (Wx.mk [] rfl (Rg.trans R0.T (X0.bad1 x2 g2)))
set_option maxHeartbeats 4000000 in
theorem C119 {op : Int} (X : Rk K h O s) (hne : s.op ≠ []) (wf : VS.Wf s) (hl : s.l.length ≤ 900000000) (ho : s.op.length ≤ 1000000) :
    Fn Try.prog 119 [ptr K.p,.int .i64 op] h fun v h' => Rg K h O h' (s.numR op) := by
  have olt : ∀ i,O i → i < h.next := by
    obtain ⟨a,c,oa,oc,ms,X⟩ := X
    exact X.lt
  have B : Bd s := ⟨by omega,ho⟩
  refine fnK F119.fok rfl ?_
  refine Wi (Wa rfl rfl (Wa rfl rfl (Wh [(0,_),(1,_),(4,_),(5,_)] rfl ?_)))
  refine Yw ?_
  unfold VS.numR
  have new : ∀ {h1 h2 : Heap} {l : List Nat} {n : Nat},h.next ≤ h1.next → Xk h1 h2 → h2.next = h1.next + 1 → At h2 h1.next (.cells (bys l) 1 false) → l.length = n → Stl h2 O (some ⟨h1.next,0,none⟩) n 1 l := fun {h1 h2 l n} z x hx g hn => by
    have := SlA.mk' (n := n) (c := 1) (sz := 1) (off := 0) g (by simp; omega) (.inr (.inr rfl))
    rw [List.drop_zero,Nat.mul_one,List.take_of_length_le (by simp; omega)] at this
    exact ⟨this,fun i q => by rw [Blk.at] at q; subst q; exact ⟨by omega,fun q => by have := olt _ q; omega⟩⟩
  refine Ww (fun e' h' => ∃ d,e' = [(0,ptr K.p),(1,.int .i64 op),(4,.int .u8 127),(5,.int .u8 126),(9,.bool d)] ∧ h = h' ∧ (d = true ↔ op = 69)) ?_ ?_
  · refine Wk (Wa rfl rfl ?_)
    refine Wg (w := .bool (decide (op = 69))) rfl rfl (by congr 1 <;> (rw [Bool.eq_iff_iff]; simp <;> omega)) ?_
    refine Wa rfl rfl ?_
    exact Wj [(0,_),(1,_),(4,_),(5,_),(9,_)] rfl ⟨_,rfl,rfl,by rw [decide_eq_true_iff] <;> omega⟩
  rintro _ _ ⟨d,rfl,rfl,hd⟩
  refine Wn rfl (fun hc => ?_) (fun hc => ?_)
  · rw [if_pos (hd.1 hc)]
    refine Wk (Wa rfl rfl (Wa rfl rfl (Wl rfl rfl fun h3 n3 x3 g3 => Wa rfl rfl (Wl rfl rfl fun h4 n4 x4 g4 => ?_))))
    obtain ⟨a,d,oa,oc,ms,X⟩ := X
    obtain ⟨X4,t4⟩ := X.ext0' (x3.then0 x4)
    refine Wc rfl (C113 X4 ((new (l := [127]) (n := 1) (Nat.le_refl _) x3 n3 g3 rfl).ext0 x4) (new (l := [127]) (n := 1) (by omega) x4 n4 g4 rfl) hne wf B (by decide) (by decide)) ?_
    rintro _ h5 g5
    exact Wj [] rfl (Wx.mk [] rfl (Rg.trans t4 g5))
  rw [if_neg (fun q => by rw [hd.2 q] at hc; cases hc)]
  clear hd hc
  refine Ww (fun e' h' => ∃ d,e' = [(0,ptr K.p),(1,.int .i64 op),(4,.int .u8 127),(5,.int .u8 126),(18,.bool d)] ∧ h = h' ∧ (d = true ↔ 70 ≤ op ∧ op ≤ 79)) ?_ ?_
  · refine Wk (Wa rfl rfl ?_)
    refine Wg (w := .bool (decide (op ≥ 70))) rfl rfl (by congr 1 <;> (rw [Bool.eq_iff_iff]; simp <;> omega)) ?_
    refine Wa rfl rfl ?_
    by_cases q1 : op ≥ 70
    · rw [show decide (op ≥ 70) = true from decide_eq_true q1]
      refine Wd rfl ?_
      refine Wa rfl rfl ?_
      refine Wd rfl ?_
      refine Wg (w := .bool (decide (op ≤ 79))) rfl rfl (by congr 1 <;> (rw [Bool.eq_iff_iff]; simp <;> omega)) ?_
      refine Wa rfl rfl ?_
      refine Wa rfl rfl ?_
      exact Wj [(0,_),(1,_),(4,_),(5,_),(18,_)] rfl ⟨_,rfl,rfl,by rw [decide_eq_true_iff] <;> omega⟩
    · rw [show decide (op ≥ 70) = false from decide_eq_false q1]
      refine Wb rfl ?_
      refine Wb rfl ?_
      refine Wa rfl rfl ?_
      refine Wa rfl rfl ?_
      exact Wj [(0,_),(1,_),(4,_),(5,_),(18,_)] rfl ⟨_,rfl,rfl,⟨fun q => (by cases q),fun q => by exfalso; omega⟩⟩
  rintro _ _ ⟨d,rfl,rfl,hd⟩
  refine Wn rfl (fun hc => ?_) (fun hc => ?_)
  · rw [if_pos (hd.1 hc)]
    refine Wk (Wa rfl rfl (Wa rfl rfl (Wa rfl rfl (Wl rfl rfl fun h3 n3 x3 g3 => Wa rfl rfl (Wl rfl rfl fun h4 n4 x4 g4 => ?_)))))
    obtain ⟨a,d,oa,oc,ms,X⟩ := X
    obtain ⟨X4,t4⟩ := X.ext0' (x3.then0 x4)
    refine Wc rfl (C113 X4 ((new (l := [127,127]) (n := 2) (Nat.le_refl _) x3 n3 g3 rfl).ext0 x4) (new (l := [127]) (n := 1) (by omega) x4 n4 g4 rfl) hne wf B (by decide) (by decide)) ?_
    rintro _ h5 g5
    exact Wj [] rfl (Wx.mk [] rfl (Rg.trans t4 g5))
  rw [if_neg (fun q => by rw [hd.2 q] at hc; cases hc)]
  clear hd hc
  refine Ww (fun e' h' => ∃ d,e' = [(0,ptr K.p),(1,.int .i64 op),(4,.int .u8 127),(5,.int .u8 126),(32,.bool d)] ∧ h = h' ∧ (d = true ↔ op = 80)) ?_ ?_
  · refine Wk (Wa rfl rfl ?_)
    refine Wg (w := .bool (decide (op = 80))) rfl rfl (by congr 1 <;> (rw [Bool.eq_iff_iff]; simp <;> omega)) ?_
    refine Wa rfl rfl ?_
    exact Wj [(0,_),(1,_),(4,_),(5,_),(32,_)] rfl ⟨_,rfl,rfl,by rw [decide_eq_true_iff] <;> omega⟩
  rintro _ _ ⟨d,rfl,rfl,hd⟩
  refine Wn rfl (fun hc => ?_) (fun hc => ?_)
  · rw [if_pos (hd.1 hc)]
    refine Wk (Wa rfl rfl (Wa rfl rfl (Wl rfl rfl fun h3 n3 x3 g3 => Wa rfl rfl (Wl rfl rfl fun h4 n4 x4 g4 => ?_))))
    obtain ⟨a,d,oa,oc,ms,X⟩ := X
    obtain ⟨X4,t4⟩ := X.ext0' (x3.then0 x4)
    refine Wc rfl (C113 X4 ((new (l := [126]) (n := 1) (Nat.le_refl _) x3 n3 g3 rfl).ext0 x4) (new (l := [127]) (n := 1) (by omega) x4 n4 g4 rfl) hne wf B (by decide) (by decide)) ?_
    rintro _ h5 g5
    exact Wj [] rfl (Wx.mk [] rfl (Rg.trans t4 g5))
  rw [if_neg (fun q => by rw [hd.2 q] at hc; cases hc)]
  clear hd hc
  refine Ww (fun e' h' => ∃ d,e' = [(0,ptr K.p),(1,.int .i64 op),(4,.int .u8 127),(5,.int .u8 126),(41,.bool d)] ∧ h = h' ∧ (d = true ↔ 81 ≤ op ∧ op ≤ 90)) ?_ ?_
  · refine Wk (Wa rfl rfl ?_)
    refine Wg (w := .bool (decide (op ≥ 81))) rfl rfl (by congr 1 <;> (rw [Bool.eq_iff_iff]; simp <;> omega)) ?_
    refine Wa rfl rfl ?_
    by_cases q1 : op ≥ 81
    · rw [show decide (op ≥ 81) = true from decide_eq_true q1]
      refine Wd rfl ?_
      refine Wa rfl rfl ?_
      refine Wd rfl ?_
      refine Wg (w := .bool (decide (op ≤ 90))) rfl rfl (by congr 1 <;> (rw [Bool.eq_iff_iff]; simp <;> omega)) ?_
      refine Wa rfl rfl ?_
      refine Wa rfl rfl ?_
      exact Wj [(0,_),(1,_),(4,_),(5,_),(41,_)] rfl ⟨_,rfl,rfl,by rw [decide_eq_true_iff] <;> omega⟩
    · rw [show decide (op ≥ 81) = false from decide_eq_false q1]
      refine Wb rfl ?_
      refine Wb rfl ?_
      refine Wa rfl rfl ?_
      refine Wa rfl rfl ?_
      exact Wj [(0,_),(1,_),(4,_),(5,_),(41,_)] rfl ⟨_,rfl,rfl,⟨fun q => (by cases q),fun q => by exfalso; omega⟩⟩
  rintro _ _ ⟨d,rfl,rfl,hd⟩
  refine Wn rfl (fun hc => ?_) (fun hc => ?_)
  · rw [if_pos (hd.1 hc)]
    refine Wk (Wa rfl rfl (Wa rfl rfl (Wa rfl rfl (Wl rfl rfl fun h3 n3 x3 g3 => Wa rfl rfl (Wl rfl rfl fun h4 n4 x4 g4 => ?_)))))
    obtain ⟨a,d,oa,oc,ms,X⟩ := X
    obtain ⟨X4,t4⟩ := X.ext0' (x3.then0 x4)
    refine Wc rfl (C113 X4 ((new (l := [126,126]) (n := 2) (Nat.le_refl _) x3 n3 g3 rfl).ext0 x4) (new (l := [127]) (n := 1) (by omega) x4 n4 g4 rfl) hne wf B (by decide) (by decide)) ?_
    rintro _ h5 g5
    exact Wj [] rfl (Wx.mk [] rfl (Rg.trans t4 g5))
  rw [if_neg (fun q => by rw [hd.2 q] at hc; cases hc)]
  clear hd hc
  refine Ww (fun e' h' => ∃ d,e' = [(0,ptr K.p),(1,.int .i64 op),(4,.int .u8 127),(5,.int .u8 126),(55,.bool d)] ∧ h = h' ∧ (d = true ↔ 103 ≤ op ∧ op ≤ 105 ∨ op = 192 ∨ op = 193)) ?_ ?_
  · refine Wk (Wa rfl rfl ?_)
    refine Wg (w := .bool (decide (op ≥ 103))) rfl rfl (by congr 1 <;> (rw [Bool.eq_iff_iff]; simp <;> omega)) ?_
    refine Wa rfl rfl ?_
    by_cases q1 : op ≥ 103
    · rw [show decide (op ≥ 103) = true from decide_eq_true q1]
      refine Wd rfl ?_
      refine Wa rfl rfl ?_
      refine Wd rfl ?_
      refine Wg (w := .bool (decide (op ≤ 105))) rfl rfl (by congr 1 <;> (rw [Bool.eq_iff_iff]; simp <;> omega)) ?_
      refine Wa rfl rfl ?_
      refine Wa rfl rfl ?_
      by_cases q2 : op ≤ 105
      · rw [show decide (op ≤ 105) = true from decide_eq_true q2]
        refine Wb rfl ?_
        refine Wb rfl ?_
        refine Wa rfl rfl ?_
        refine Wa rfl rfl ?_
        refine Wb rfl ?_
        refine Wb rfl ?_
        refine Wa rfl rfl ?_
        refine Wa rfl rfl ?_
        exact Wj [(0,_),(1,_),(4,_),(5,_),(55,_)] rfl ⟨_,rfl,rfl,⟨fun _ => by omega,fun _ => rfl⟩⟩
      · rw [show decide (op ≤ 105) = false from decide_eq_false q2]
        refine Wd rfl ?_
        refine Wa rfl rfl ?_
        refine Wd rfl ?_
        refine Wg (w := .bool (decide (op = 192))) rfl rfl (by congr 1 <;> (rw [Bool.eq_iff_iff]; simp <;> omega)) ?_
        refine Wa rfl rfl ?_
        refine Wa rfl rfl ?_
        by_cases q3 : op = 192
        · rw [show decide (op = 192) = true from decide_eq_true q3]
          refine Wb rfl ?_
          refine Wb rfl ?_
          refine Wa rfl rfl ?_
          refine Wa rfl rfl ?_
          exact Wj [(0,_),(1,_),(4,_),(5,_),(55,_)] rfl ⟨_,rfl,rfl,⟨fun _ => by omega,fun _ => rfl⟩⟩
        · rw [show decide (op = 192) = false from decide_eq_false q3]
          refine Wd rfl ?_
          refine Wa rfl rfl ?_
          refine Wd rfl ?_
          refine Wg (w := .bool (decide (op = 193))) rfl rfl (by congr 1 <;> (rw [Bool.eq_iff_iff]; simp <;> omega)) ?_
          refine Wa rfl rfl ?_
          refine Wa rfl rfl ?_
          exact Wj [(0,_),(1,_),(4,_),(5,_),(55,_)] rfl ⟨_,rfl,rfl,by rw [decide_eq_true_iff] <;> omega⟩
    · rw [show decide (op ≥ 103) = false from decide_eq_false q1]
      refine Wb rfl ?_
      refine Wb rfl ?_
      refine Wa rfl rfl ?_
      refine Wa rfl rfl ?_
      refine Wd rfl ?_
      refine Wa rfl rfl ?_
      refine Wd rfl ?_
      refine Wg (w := .bool (decide (op = 192))) rfl rfl (by congr 1 <;> (rw [Bool.eq_iff_iff]; simp <;> omega)) ?_
      refine Wa rfl rfl ?_
      refine Wa rfl rfl ?_
      by_cases q4 : op = 192
      · rw [show decide (op = 192) = true from decide_eq_true q4]
        refine Wb rfl ?_
        refine Wb rfl ?_
        refine Wa rfl rfl ?_
        refine Wa rfl rfl ?_
        exact Wj [(0,_),(1,_),(4,_),(5,_),(55,_)] rfl ⟨_,rfl,rfl,⟨fun _ => by omega,fun _ => rfl⟩⟩
      · rw [show decide (op = 192) = false from decide_eq_false q4]
        refine Wd rfl ?_
        refine Wa rfl rfl ?_
        refine Wd rfl ?_
        refine Wg (w := .bool (decide (op = 193))) rfl rfl (by congr 1 <;> (rw [Bool.eq_iff_iff]; simp <;> omega)) ?_
        refine Wa rfl rfl ?_
        refine Wa rfl rfl ?_
        exact Wj [(0,_),(1,_),(4,_),(5,_),(55,_)] rfl ⟨_,rfl,rfl,by rw [decide_eq_true_iff] <;> omega⟩
  rintro _ _ ⟨d,rfl,rfl,hd⟩
  refine Wn rfl (fun hc => ?_) (fun hc => ?_)
  · rw [if_pos (hd.1 hc)]
    refine Wk (Wa rfl rfl (Wa rfl rfl (Wl rfl rfl fun h3 n3 x3 g3 => Wa rfl rfl (Wl rfl rfl fun h4 n4 x4 g4 => ?_))))
    obtain ⟨a,d,oa,oc,ms,X⟩ := X
    obtain ⟨X4,t4⟩ := X.ext0' (x3.then0 x4)
    refine Wc rfl (C113 X4 ((new (l := [127]) (n := 1) (Nat.le_refl _) x3 n3 g3 rfl).ext0 x4) (new (l := [127]) (n := 1) (by omega) x4 n4 g4 rfl) hne wf B (by decide) (by decide)) ?_
    rintro _ h5 g5
    exact Wj [] rfl (Wx.mk [] rfl (Rg.trans t4 g5))
  rw [if_neg (fun q => by rw [hd.2 q] at hc; cases hc)]
  clear hd hc
  refine Ww (fun e' h' => ∃ d,e' = [(0,ptr K.p),(1,.int .i64 op),(4,.int .u8 127),(5,.int .u8 126),(76,.bool d)] ∧ h = h' ∧ (d = true ↔ 106 ≤ op ∧ op ≤ 120)) ?_ ?_
  · refine Wk (Wa rfl rfl ?_)
    refine Wg (w := .bool (decide (op ≥ 106))) rfl rfl (by congr 1 <;> (rw [Bool.eq_iff_iff]; simp <;> omega)) ?_
    refine Wa rfl rfl ?_
    by_cases q1 : op ≥ 106
    · rw [show decide (op ≥ 106) = true from decide_eq_true q1]
      refine Wd rfl ?_
      refine Wa rfl rfl ?_
      refine Wd rfl ?_
      refine Wg (w := .bool (decide (op ≤ 120))) rfl rfl (by congr 1 <;> (rw [Bool.eq_iff_iff]; simp <;> omega)) ?_
      refine Wa rfl rfl ?_
      refine Wa rfl rfl ?_
      exact Wj [(0,_),(1,_),(4,_),(5,_),(76,_)] rfl ⟨_,rfl,rfl,by rw [decide_eq_true_iff] <;> omega⟩
    · rw [show decide (op ≥ 106) = false from decide_eq_false q1]
      refine Wb rfl ?_
      refine Wb rfl ?_
      refine Wa rfl rfl ?_
      refine Wa rfl rfl ?_
      exact Wj [(0,_),(1,_),(4,_),(5,_),(76,_)] rfl ⟨_,rfl,rfl,⟨fun q => (by cases q),fun q => by exfalso; omega⟩⟩
  rintro _ _ ⟨d,rfl,rfl,hd⟩
  refine Wn rfl (fun hc => ?_) (fun hc => ?_)
  · rw [if_pos (hd.1 hc)]
    refine Wk (Wa rfl rfl (Wa rfl rfl (Wa rfl rfl (Wl rfl rfl fun h3 n3 x3 g3 => Wa rfl rfl (Wl rfl rfl fun h4 n4 x4 g4 => ?_)))))
    obtain ⟨a,d,oa,oc,ms,X⟩ := X
    obtain ⟨X4,t4⟩ := X.ext0' (x3.then0 x4)
    refine Wc rfl (C113 X4 ((new (l := [127,127]) (n := 2) (Nat.le_refl _) x3 n3 g3 rfl).ext0 x4) (new (l := [127]) (n := 1) (by omega) x4 n4 g4 rfl) hne wf B (by decide) (by decide)) ?_
    rintro _ h5 g5
    exact Wj [] rfl (Wx.mk [] rfl (Rg.trans t4 g5))
  rw [if_neg (fun q => by rw [hd.2 q] at hc; cases hc)]
  clear hd hc
  refine Ww (fun e' h' => ∃ d,e' = [(0,ptr K.p),(1,.int .i64 op),(4,.int .u8 127),(5,.int .u8 126),(90,.bool d)] ∧ h = h' ∧ (d = true ↔ 121 ≤ op ∧ op ≤ 123 ∨ 194 ≤ op ∧ op ≤ 196)) ?_ ?_
  · refine Wk (Wa rfl rfl ?_)
    refine Wg (w := .bool (decide (op ≥ 121))) rfl rfl (by congr 1 <;> (rw [Bool.eq_iff_iff]; simp <;> omega)) ?_
    refine Wa rfl rfl ?_
    by_cases q1 : op ≥ 121
    · rw [show decide (op ≥ 121) = true from decide_eq_true q1]
      refine Wd rfl ?_
      refine Wa rfl rfl ?_
      refine Wd rfl ?_
      refine Wg (w := .bool (decide (op ≤ 123))) rfl rfl (by congr 1 <;> (rw [Bool.eq_iff_iff]; simp <;> omega)) ?_
      refine Wa rfl rfl ?_
      refine Wa rfl rfl ?_
      by_cases q2 : op ≤ 123
      · rw [show decide (op ≤ 123) = true from decide_eq_true q2]
        refine Wb rfl ?_
        refine Wb rfl ?_
        refine Wb rfl ?_
        refine Wb rfl ?_
        refine Wb rfl ?_
        refine Wb rfl ?_
        refine Wa rfl rfl ?_
        refine Wa rfl rfl ?_
        exact Wj [(0,_),(1,_),(4,_),(5,_),(90,_)] rfl ⟨_,rfl,rfl,⟨fun _ => by omega,fun _ => rfl⟩⟩
      · rw [show decide (op ≤ 123) = false from decide_eq_false q2]
        refine Wd rfl ?_
        refine Wa rfl rfl ?_
        refine Wd rfl ?_
        refine Wg (w := .bool (decide (op ≥ 194))) rfl rfl (by congr 1 <;> (rw [Bool.eq_iff_iff]; simp <;> omega)) ?_
        refine Wd rfl ?_
        refine Wa rfl rfl ?_
        by_cases q3 : op ≥ 194
        · rw [show decide (op ≥ 194) = true from decide_eq_true q3]
          refine Wd rfl ?_
          refine Wa rfl rfl ?_
          refine Wd rfl ?_
          refine Wg (w := .bool (decide (op ≤ 196))) rfl rfl (by congr 1 <;> (rw [Bool.eq_iff_iff]; simp <;> omega)) ?_
          refine Wd rfl ?_
          refine Wa rfl rfl ?_
          refine Wa rfl rfl ?_
          refine Wa rfl rfl ?_
          exact Wj [(0,_),(1,_),(4,_),(5,_),(90,_)] rfl ⟨_,rfl,rfl,by rw [decide_eq_true_iff] <;> omega⟩
        · rw [show decide (op ≥ 194) = false from decide_eq_false q3]
          refine Wb rfl ?_
          refine Wb rfl ?_
          refine Wd rfl ?_
          refine Wa rfl rfl ?_
          refine Wa rfl rfl ?_
          refine Wa rfl rfl ?_
          exact Wj [(0,_),(1,_),(4,_),(5,_),(90,_)] rfl ⟨_,rfl,rfl,⟨fun q => (by cases q),fun q => by exfalso; omega⟩⟩
    · rw [show decide (op ≥ 121) = false from decide_eq_false q1]
      refine Wb rfl ?_
      refine Wb rfl ?_
      refine Wa rfl rfl ?_
      refine Wa rfl rfl ?_
      refine Wd rfl ?_
      refine Wa rfl rfl ?_
      refine Wd rfl ?_
      refine Wg (w := .bool (decide (op ≥ 194))) rfl rfl (by congr 1 <;> (rw [Bool.eq_iff_iff]; simp <;> omega)) ?_
      refine Wd rfl ?_
      refine Wa rfl rfl ?_
      by_cases q4 : op ≥ 194
      · rw [show decide (op ≥ 194) = true from decide_eq_true q4]
        refine Wd rfl ?_
        refine Wa rfl rfl ?_
        refine Wd rfl ?_
        refine Wg (w := .bool (decide (op ≤ 196))) rfl rfl (by congr 1 <;> (rw [Bool.eq_iff_iff]; simp <;> omega)) ?_
        refine Wd rfl ?_
        refine Wa rfl rfl ?_
        refine Wa rfl rfl ?_
        refine Wa rfl rfl ?_
        exact Wj [(0,_),(1,_),(4,_),(5,_),(90,_)] rfl ⟨_,rfl,rfl,by rw [decide_eq_true_iff] <;> omega⟩
      · rw [show decide (op ≥ 194) = false from decide_eq_false q4]
        refine Wb rfl ?_
        refine Wb rfl ?_
        refine Wd rfl ?_
        refine Wa rfl rfl ?_
        refine Wa rfl rfl ?_
        refine Wa rfl rfl ?_
        exact Wj [(0,_),(1,_),(4,_),(5,_),(90,_)] rfl ⟨_,rfl,rfl,⟨fun q => (by cases q),fun q => by exfalso; omega⟩⟩
  rintro _ _ ⟨d,rfl,rfl,hd⟩
  refine Wn rfl (fun hc => ?_) (fun hc => ?_)
  · rw [if_pos (hd.1 hc)]
    refine Wk (Wa rfl rfl (Wa rfl rfl (Wl rfl rfl fun h3 n3 x3 g3 => Wa rfl rfl (Wl rfl rfl fun h4 n4 x4 g4 => ?_))))
    obtain ⟨a,d,oa,oc,ms,X⟩ := X
    obtain ⟨X4,t4⟩ := X.ext0' (x3.then0 x4)
    refine Wc rfl (C113 X4 ((new (l := [126]) (n := 1) (Nat.le_refl _) x3 n3 g3 rfl).ext0 x4) (new (l := [126]) (n := 1) (by omega) x4 n4 g4 rfl) hne wf B (by decide) (by decide)) ?_
    rintro _ h5 g5
    exact Wj [] rfl (Wx.mk [] rfl (Rg.trans t4 g5))
  rw [if_neg (fun q => by rw [hd.2 q] at hc; cases hc)]
  clear hd hc
  refine Ww (fun e' h' => ∃ d,e' = [(0,ptr K.p),(1,.int .i64 op),(4,.int .u8 127),(5,.int .u8 126),(111,.bool d)] ∧ h = h' ∧ (d = true ↔ 124 ≤ op ∧ op ≤ 138)) ?_ ?_
  · refine Wk (Wa rfl rfl ?_)
    refine Wg (w := .bool (decide (op ≥ 124))) rfl rfl (by congr 1 <;> (rw [Bool.eq_iff_iff]; simp <;> omega)) ?_
    refine Wa rfl rfl ?_
    by_cases q1 : op ≥ 124
    · rw [show decide (op ≥ 124) = true from decide_eq_true q1]
      refine Wd rfl ?_
      refine Wa rfl rfl ?_
      refine Wd rfl ?_
      refine Wg (w := .bool (decide (op ≤ 138))) rfl rfl (by congr 1 <;> (rw [Bool.eq_iff_iff]; simp <;> omega)) ?_
      refine Wa rfl rfl ?_
      refine Wa rfl rfl ?_
      exact Wj [(0,_),(1,_),(4,_),(5,_),(111,_)] rfl ⟨_,rfl,rfl,by rw [decide_eq_true_iff] <;> omega⟩
    · rw [show decide (op ≥ 124) = false from decide_eq_false q1]
      refine Wb rfl ?_
      refine Wb rfl ?_
      refine Wa rfl rfl ?_
      refine Wa rfl rfl ?_
      exact Wj [(0,_),(1,_),(4,_),(5,_),(111,_)] rfl ⟨_,rfl,rfl,⟨fun q => (by cases q),fun q => by exfalso; omega⟩⟩
  rintro _ _ ⟨d,rfl,rfl,hd⟩
  refine Wn rfl (fun hc => ?_) (fun hc => ?_)
  · rw [if_pos (hd.1 hc)]
    refine Wk (Wa rfl rfl (Wa rfl rfl (Wa rfl rfl (Wl rfl rfl fun h3 n3 x3 g3 => Wa rfl rfl (Wl rfl rfl fun h4 n4 x4 g4 => ?_)))))
    obtain ⟨a,d,oa,oc,ms,X⟩ := X
    obtain ⟨X4,t4⟩ := X.ext0' (x3.then0 x4)
    refine Wc rfl (C113 X4 ((new (l := [126,126]) (n := 2) (Nat.le_refl _) x3 n3 g3 rfl).ext0 x4) (new (l := [126]) (n := 1) (by omega) x4 n4 g4 rfl) hne wf B (by decide) (by decide)) ?_
    rintro _ h5 g5
    exact Wj [] rfl (Wx.mk [] rfl (Rg.trans t4 g5))
  rw [if_neg (fun q => by rw [hd.2 q] at hc; cases hc)]
  clear hd hc
  refine Ww (fun e' h' => ∃ d,e' = [(0,ptr K.p),(1,.int .i64 op),(4,.int .u8 127),(5,.int .u8 126),(125,.bool d)] ∧ h = h' ∧ (d = true ↔ op = 167)) ?_ ?_
  · refine Wk (Wa rfl rfl ?_)
    refine Wg (w := .bool (decide (op = 167))) rfl rfl (by congr 1 <;> (rw [Bool.eq_iff_iff]; simp <;> omega)) ?_
    refine Wa rfl rfl ?_
    exact Wj [(0,_),(1,_),(4,_),(5,_),(125,_)] rfl ⟨_,rfl,rfl,by rw [decide_eq_true_iff] <;> omega⟩
  rintro _ _ ⟨d,rfl,rfl,hd⟩
  refine Wn rfl (fun hc => ?_) (fun hc => ?_)
  · rw [if_pos (hd.1 hc)]
    refine Wk (Wa rfl rfl (Wa rfl rfl (Wl rfl rfl fun h3 n3 x3 g3 => Wa rfl rfl (Wl rfl rfl fun h4 n4 x4 g4 => ?_))))
    obtain ⟨a,d,oa,oc,ms,X⟩ := X
    obtain ⟨X4,t4⟩ := X.ext0' (x3.then0 x4)
    refine Wc rfl (C113 X4 ((new (l := [126]) (n := 1) (Nat.le_refl _) x3 n3 g3 rfl).ext0 x4) (new (l := [127]) (n := 1) (by omega) x4 n4 g4 rfl) hne wf B (by decide) (by decide)) ?_
    rintro _ h5 g5
    exact Wj [] rfl (Wx.mk [] rfl (Rg.trans t4 g5))
  rw [if_neg (fun q => by rw [hd.2 q] at hc; cases hc)]
  clear hd hc
  refine Ww (fun e' h' => ∃ d,e' = [(0,ptr K.p),(4,.int .u8 127),(5,.int .u8 126),(134,.bool d)] ∧ h = h' ∧ (d = true ↔ op = 172 ∨ op = 173)) ?_ ?_
  · refine Wk (Wa rfl rfl ?_)
    refine Wg (w := .bool (decide (op = 172))) rfl rfl (by congr 1 <;> (rw [Bool.eq_iff_iff]; simp <;> omega)) ?_
    refine Wa rfl rfl ?_
    by_cases q1 : op = 172
    · rw [show decide (op = 172) = true from decide_eq_true q1]
      refine Wb rfl ?_
      refine Wb rfl ?_
      refine Wa rfl rfl ?_
      refine Wa rfl rfl ?_
      exact Wj [(0,_),(4,_),(5,_),(134,_)] rfl ⟨_,rfl,rfl,⟨fun _ => by omega,fun _ => rfl⟩⟩
    · rw [show decide (op = 172) = false from decide_eq_false q1]
      refine Wd rfl ?_
      refine Wa rfl rfl ?_
      refine Wd rfl ?_
      refine Wg (w := .bool (decide (op = 173))) rfl rfl (by congr 1 <;> (rw [Bool.eq_iff_iff]; simp <;> omega)) ?_
      refine Wa rfl rfl ?_
      refine Wa rfl rfl ?_
      exact Wj [(0,_),(4,_),(5,_),(134,_)] rfl ⟨_,rfl,rfl,by rw [decide_eq_true_iff] <;> omega⟩
  rintro _ _ ⟨d,rfl,rfl,hd⟩
  refine Wn rfl (fun hc => ?_) (fun hc => ?_)
  · rw [if_pos (hd.1 hc)]
    refine Wk (Wa rfl rfl (Wa rfl rfl (Wl rfl rfl fun h3 n3 x3 g3 => Wa rfl rfl (Wl rfl rfl fun h4 n4 x4 g4 => ?_))))
    obtain ⟨a,d,oa,oc,ms,X⟩ := X
    obtain ⟨X4,t4⟩ := X.ext0' (x3.then0 x4)
    refine Wc rfl (C113 X4 ((new (l := [127]) (n := 1) (Nat.le_refl _) x3 n3 g3 rfl).ext0 x4) (new (l := [126]) (n := 1) (by omega) x4 n4 g4 rfl) hne wf B (by decide) (by decide)) ?_
    rintro _ h5 g5
    exact Wj [] rfl (Wx.mk [] rfl (Rg.trans t4 g5))
  rw [if_neg (fun q => by rw [hd.2 q] at hc; cases hc)]
  clear hd hc
  obtain ⟨a,d,oa,oc,ms,X⟩ := X
  refine Wk (Wa rfl rfl (Wa rfl rfl (Wa rfl rfl (Wm (l := [.bool true]) rfl rfl rfl rfl X.g (by rw [VR.cs_len]; decide) rfl fun h2 n2 x2 g2 => Wj [] rfl (Wx.mk [] rfl (X.bad1 x2 g2))))))
end

end
section
/- The document's checker: jumps. -/
theorem VS.branchesR_stop (last : List Nat) {s : VS} (h : s.bad = true) : ∀ ns : List Nat,VS.branchesR last ns s = s
  | [] => rfl
  | n :: r => by unfold VS.branchesR; rw [if_pos h]
theorem VS.branchesR_cons (last : List Nat) (n : Nat) (r : List Nat) (s : VS) : VS.branchesR last (n :: r) s = if s.bad = true then s else VS.branchesR last r (((s.label n).2.fails (decide ((s.label n).1.length ≠ last.length))).keeps (s.label n).1) := rfl
section
variable {K : VR} {M : Mo} {h : Heap} {O : Nat → Prop} {s : VS}
set_option maxHeartbeats 4000000 in
theorem C111 {x : IM} (X : Rk K h O s) (Y : MoX h O K.pm M K.m.l) (wf : VS.Wf s) (hne : s.op ≠ []) (hl : s.l.length ≤ 900000000) (ho : s.op.length ≤ 1000000) (ok : x.i.Ok) (z : VS.LP VS.short s) (sL : SlA h 1 x.la x.i.l.length x.lc (Up x.i.l)) (bL : ∀ i,Blk x.la i → i < h.next ∧ ¬ O i) (hop : x.i.op ≥ 12 ∧ x.i.op ≤ 17) :
    Fn Try.prog 111 [ptr K.p,.agg ⟨x.enc⟩] h fun v h' => Rg K h O h' (s.jumpR M x.i) := by
  have hka := ok.a
  have hkb := ok.b
  have hll := ok.ll
  refine fnK F111.fok rfl ?_
  refine Wi (Xp (cs := x.enc) rfl rfl fun h0 n0 x0 g0 => Wh [(0,_),(3,_)] rfl ?_)
  have R0 := Rq.start X Y wf hl ho x0 n0 g0
  have sL0 := sL.ext x0
  have bL0 : ∀ i,Blk x.la i → i < h0.next ∧ ¬ O i := fun i q => ⟨by have := (bL i q).1; omega,(bL i q).2⟩
  have fin : ∀ {r : VS} {h' : Heap},s.jumpR M x.i = r → Rg K h O h' r → Wx F111.res (fun v h' => Rg K h O h' (s.jumpR M x.i)) [] h' := fun e q => Wx.mk [] rfl (by rw [e]; exact q)
  refine Wi (Wa rfl rfl (We (v := .int .i64 x.i.op) rfl R0.g rfl (Wh [(0,_),(3,_),(9,_)] rfl ?_)))
  refine Yw ?_
  refine Wi (Wg (w := .bool (decide (x.i.op = 12))) rfl rfl (by congr 1) (Wa rfl rfl (Wh [(0,_),(3,_),(9,_),(10,_)] rfl ?_)))
  refine Wn rfl (fun hc => ?_) (fun hc => ?_)
  · have c0 : x.i.op = 12 := of_decide_eq_true hc
    have hs : s.jumpR M x.i = ((s.label x.i.a).2.popsR (s.label x.i.a).1).rests := by
      unfold VS.jumpR
      rw [if_pos c0]
    refine Wi (Wa rfl rfl (Wa rfl rfl (Wa rfl rfl (We (v := .int .u32 (x.i.a : Int)) rfl R0.g rfl (Wc rfl (R0.label ((VS.Kp.refl s).ne hne) (ok.a)) ?_)))))
    rintro _ h1 ⟨la1,lc1,O1,rfl,u1_a,R1,t1⟩
    have k1 : VS.Kp s (s.label x.i.a).2 := (VS.Kp.refl s).trans (VS.label_kp _ _)
    have q8 := VS.label_short (z.kp (show VS.Kp s s from (VS.Kp.refl s))) x.i.a
    refine Wc rfl (R1.pops (k1.ne hne) u1_a (by have h8 : _ ≤ 8 := q8; omega)) ?_
    rintro _ h2 ⟨O2,R2,t2⟩
    have u2_a := u1_a.turn t2.t
    have k2 : VS.Kp s ((s.label x.i.a).2.popsR (s.label x.i.a).1) := k1.trans (VS.popsR_kp _ _)
    refine Wh [(0,_)] rfl ?_
    refine Wk (Wa rfl rfl (Wc rfl (R2.dead (k2.ne hne)) ?_))
    rintro _ h3 v3
    refine Wj [] rfl ?_
    exact fin hs v3
  have c0 : ¬ x.i.op = 12 := of_decide_eq_false hc
  refine Wi (Wg (w := .bool (decide (x.i.op = 13))) rfl rfl (by congr 1) (Wa rfl rfl (Wh [(0,_),(3,_),(9,_),(20,_)] rfl ?_)))
  refine Wn rfl (fun hc => ?_) (fun hc => ?_)
  · have c1 : x.i.op = 13 := of_decide_eq_true hc
    have hs : s.jumpR M x.i = VS.fitsR ((s.popR 127).2.label x.i.a).1 ((s.popR 127).2.label x.i.a).1 ((s.popR 127).2.label x.i.a).2 := by
      unfold VS.jumpR
      rw [if_neg c0,if_pos c1]
    refine Wi (Wa rfl rfl (Wc rfl (R0.pop (t := 127) ((VS.Kp.refl s).ne hne)) ?_))
    rintro _ h4 ⟨rfl,O4,R4,t4⟩
    have k4 : VS.Kp s (s.popR (127)).2 := (VS.Kp.refl s).trans (VS.popR_kp _ _)
    refine Wh [(0,_),(3,_)] rfl ?_
    refine Wi (Wa rfl rfl (Wa rfl rfl (We (v := .int .u32 (x.i.a : Int)) rfl R4.g rfl (Wc rfl (R4.label (k4.ne hne) (ok.a)) ?_))))
    rintro _ h5 ⟨la5,lc5,O5,rfl,u5_a,R5,t5⟩
    have k5 : VS.Kp s ((s.popR (127)).2.label x.i.a).2 := k4.trans (VS.label_kp _ _)
    have q8 := VS.label_short (z.kp (show VS.Kp s (s.popR (127)).2 from k4)) x.i.a
    refine Wa rfl rfl (Wh [(0,_),(4,_)] rfl ?_)
    refine Wk (Wa rfl rfl (Wa rfl rfl (Wa rfl rfl (Wc rfl (R5.fits (k5.ne hne) u5_a u5_a (by have h8 : _ ≤ 8 := q8; omega) (by have h8 : _ ≤ 8 := q8; omega)) ?_))))
    rintro _ h6 v6
    refine Wj [] rfl ?_
    exact fin hs v6
  have c1 : ¬ x.i.op = 13 := of_decide_eq_false hc
  refine Wi (Wg (w := .bool (decide (x.i.op = 14))) rfl rfl (by congr 1) (Wa rfl rfl (Wh [(0,_),(3,_),(9,_),(32,_)] rfl ?_)))
  refine Wn rfl (fun hc => ?_) (fun hc => ?_)
  · have c2 : x.i.op = 14 := of_decide_eq_true hc
    have hs : s.jumpR M x.i = ((VS.branchesR ((s.popR 127).2.label x.i.a).1 x.i.l ((s.popR 127).2.label x.i.a).2).popsR ((s.popR 127).2.label x.i.a).1).rests := by
      unfold VS.jumpR
      rw [if_neg c0,if_neg c1,if_pos c2]
    refine Wi (Wa rfl rfl (Wc rfl (R0.pop (t := 127) hne) ?_))
    rintro _ h1 ⟨rfl,O1,R1,t1⟩
    have k1 := VS.popR_kp 127 s
    refine Wh [(0,_),(3,_)] rfl ?_
    refine Wi (Wa rfl rfl (Wa rfl rfl (We (v := .int .u32 (x.i.a : Int)) rfl R1.g rfl (Wc rfl (R1.label (k1.ne hne) ok.a) ?_))))
    rintro _ h2 ⟨la,lc,O2,rfl,u2,R2,t2⟩
    have k2 := k1.trans (VS.label_kp x.i.a (s.popR 127).2)
    have l8 := VS.label_short (z.kp k1) x.i.a
    generalize hlb : ((s.popR 127).2.label x.i.a).1 = lb at u2 l8 hs ⊢
    generalize hst : ((s.popR 127).2.label x.i.a).2 = st at R2 k2 hs ⊢
    have t02 := t1.trans t2
    refine Wa rfl rfl (Wh [(0,_),(3,_),(5,_)] rfl (?_))
    refine Xd (Wi (Wa rfl rfl (Wh [(0,_),(3,_),(5,_),(6,_)] rfl (?_))))
    refine Xa ?_
    refine Ym (fun k e h' => ∃ (i : Nat) (O' : Nat → Prop) (s' : VS),e = [(0,ptr K.p),(3,ptr h.next),(5,.slice la lb.length lc),(6,.int .i64 (i : Int))] ∧ i ≤ x.i.l.length ∧ k = x.i.l.length - i ∧
      Rq K M h O h.next x.enc (900000000 + 8 * i) h' O' s' ∧ VS.Kp s s' ∧ Stl h' O' la lb.length lc lb ∧ SlA h' 1 x.la x.i.l.length x.lc (Up x.i.l) ∧ (∀ i,Blk x.la i → i < h'.next ∧ ¬ O' i) ∧ VS.branchesR lb x.i.l st = VS.branchesR lb (x.i.l.drop i) s') ?_ (k := x.i.l.length) ⟨0,O2,st,rfl,by omega,rfl,R2,k2,u2,sL0.ext t02.t.ext fun i q => (bL0 i q).2,fun i q => Ya t02.t (bL0 i q),rfl⟩
    rintro k e' h3 ⟨i,O3,s3,rfl,hi,rfl,R3,k3,u3,sL3,bL3,law⟩
    obtain ⟨a3,c3',oa3,oc3,ms3,X3⟩ := id R3.X
    refine Xd (Ww (fun e' h' => ∃ d,e' = [(0,ptr K.p),(3,ptr h.next),(5,.slice la lb.length lc),(6,.int .i64 (i : Int)),(51,.bool d)] ∧ h3 = h' ∧ (d = true ↔ i < x.i.l.length ∧ s3.bad = false)) ?_ ?_)
    · refine Wk (Wa rfl rfl (Wa rfl rfl (We (v := .slice x.la x.i.l.length x.lc) rfl R3.g rfl (Wa rfl rfl (Wg (w := .bool (decide (i < x.i.l.length))) rfl rfl (by congr 1 <;> (rw [Bool.eq_iff_iff]; simp <;> omega)) (Wa rfl rfl ?_))))))
      by_cases hil : i < x.i.l.length
      · rw [decide_eq_true hil]
        refine Wd rfl (Wa rfl rfl (Wd rfl (Wa rfl rfl (Wd rfl (Wa rfl rfl (Wd rfl (We (v := .bool s3.bad) rfl X3.g rfl (Wd rfl (Wa rfl rfl (Wa rfl rfl (Wj [(0,_),(3,_),(5,_),(6,_),(51,_)] rfl ⟨_,rfl,rfl,by simp [hil]⟩)))))))))))
      · rw [decide_eq_false hil]
        exact Wb rfl (Wb rfl (Wb rfl (Wb rfl (Wb rfl (Wa rfl rfl (Wj [(0,_),(3,_),(5,_),(6,_),(51,_)] rfl ⟨_,rfl,rfl,by simp [hil]⟩))))))
    rintro _ _ ⟨d,rfl,rfl,hd⟩
    refine Wp rfl (fun hc => ?_) (fun hc => ?_)
    · obtain ⟨hil,hbf⟩ := hd.1 hc
      have hn : x.i.l[i] < 4294967296 := ok.l _ (List.getElem_mem hil)
      have e : (Up x.i.l)[(i : Int).toNat]? = some (.int .u32 ((x.i.l[i] : Nat) : Int)) := by rw [Int.toNat_natCast,List.getElem?_map,List.getElem?_eq_getElem hil]; rfl
      rw [List.drop_eq_getElem_cons hil] at law
      rw [VS.branchesR_cons] at law
      refine Wt (Xa ?_)
      refine Wi (Wa rfl rfl (Wa rfl rfl (We (v := .slice x.la x.i.l.length x.lc) rfl R3.g rfl (Wa rfl rfl (Xm rfl rfl sL3 ⟨by omega,by omega⟩ e fun p => Wc rfl (R3.label (k3.ne hne) hn) ?_)))))
      rintro _ h4 ⟨ma,mc',O4,rfl,u4,R4,t4⟩
      have k4 := k3.trans (VS.label_kp x.i.l[i] s3)
      have m8 := VS.label_short (z.kp k3) x.i.l[i]
      generalize hm : (s3.label x.i.l[i]).1 = lm at u4 m8 law ⊢
      generalize hs4 : (s3.label x.i.l[i]).2 = s4 at R4 k4 law ⊢
      refine Wa rfl rfl (Wh [(0,_),(3,_),(5,_),(6,_),(7,_)] rfl (?_))
      obtain ⟨a4,c4',oa4,oc4,ms4,X4⟩ := id R4.X
      obtain ⟨C,hC⟩ : ∃ C : Bool,C = decide (lm.length ≠ lb.length) := ⟨_,rfl⟩
      rw [← hC] at law
      refine Ww (fun e' h' => e' = [(0,ptr K.p),(3,ptr h.next),(5,.slice la lb.length lc),(6,.int .i64 (i : Int)),(7,.slice ma lm.length mc')] ∧ ∃ O',Rq K M h O h.next x.enc (900000000 + 8 * i) h' O' (s4.fails C) ∧ Tn K.toVK h4 h' O4 O') ?_ ?_
      · refine Wk (Wa rfl rfl ?_)
        refine Wa rfl rfl ?_
        refine Wa rfl rfl ?_
        refine Wa rfl rfl ?_
        refine We (v := .bool s4.bad) rfl X4.g rfl ?_
        refine Wa rfl rfl ?_
        cases hbd : s4.bad with
        | true =>
          refine Wb rfl ?_
          refine Wb rfl ?_
          refine Wb rfl ?_
          refine Wb rfl ?_
          refine Wb rfl ?_
          refine Wa rfl rfl ?_
          refine Wa rfl rfl ?_
          refine Wa rfl rfl ?_
          refine Wm (l := [.bool (true)]) rfl rfl rfl rfl X4.g (by rw [VR.cs_len]; decide) rfl fun hz nz xz gz => Wj [(0,_),(3,_),(5,_),(6,_),(7,_)] rfl ?_
          exact ⟨rfl,_,R4.flag X4 C xz gz (by rw [hbd,hC]; first | rfl | (simp [] <;> omega) | (simp <;> omega))⟩
        | false =>
          refine Wd rfl ?_
          refine Wa rfl rfl ?_
          refine Wd rfl ?_
          refine Wa rfl rfl ?_
          refine Wd rfl ?_
          refine Wa rfl rfl ?_
          refine Wd rfl ?_
          refine Wa rfl rfl ?_
          refine Wd rfl ?_
          refine Wg (w := .bool (decide (lm.length ≠ lb.length))) rfl rfl (by congr 1 <;> (rw [Bool.eq_iff_iff]; simp <;> omega)) ?_
          refine Wa rfl rfl ?_
          refine Wa rfl rfl ?_
          refine Wa rfl rfl ?_
          refine Wm (l := [.bool (decide (lm.length ≠ lb.length))]) rfl rfl rfl rfl X4.g (by rw [VR.cs_len]; decide) rfl fun hz nz xz gz => Wj [(0,_),(3,_),(5,_),(6,_),(7,_)] rfl ?_
          exact ⟨rfl,_,R4.flag X4 C xz gz (by rw [hbd,hC]; first | rfl | (simp [] <;> omega) | (simp <;> omega))⟩
      rintro _ h5 ⟨rfl,O5,R5,t5⟩
      have k5 := k4.trans (VS.fails_kp C s4)
      have B5 := R5.B
      have l5 := R5.l
      refine Wk (Wa rfl rfl (Wa rfl rfl (Wc rfl (C155 R5.X (u4.turn t5.t) (k5.ne hne) R5.w B5 (by omega) (by omega)) ?_)))
      rintro _ h6 ⟨O6,X6,t6⟩
      refine Wj [(0,_),(3,_),(5,_),(6,_)] rfl ?_
      have tt := (t4.trans t5).trans t6
      have k6 := k5.trans (VS.keeps_kp lm (s4.fails C))
      have g6 := VS.keeps_gr lm (s4.fails C)
      unfold VS.Gr at g6
      refine Wk (Wa rfl rfl (Wa rfl rfl (Wa rfl rfl (Wj [(0,_),(3,_),(5,_),(6,_)] rfl (?_)))))
      refine ⟨x.i.l.length - (i + 1),by omega,i + 1,O6,(s4.fails C).keeps lm,?_,by omega,rfl,R5.go X6 t6 ((VS.keeps_kp lm _).wf R5.w (k5.ne hne)) (by omega) (by omega) (by rw [(VS.keeps_kp lm (s4.fails C)).op]; exact R5.o),k6,u3.turn tt.t,sL3.ext tt.t.ext fun j q => (bL3 j q).2,fun j q => Ya tt.t (bL3 j q),?_⟩
      · rw [Ju (by omega)]
      · rw [law,if_neg (by rw [hbf]; simp)]
    · have hd2 : ¬ (i < x.i.l.length ∧ s3.bad = false) := fun q => by rw [hd.2 q] at hc; cases hc
      have e3 : VS.branchesR lb x.i.l st = s3 := by
        rw [law]
        by_cases hil : i < x.i.l.length
        · exact VS.branchesR_stop lb (by cases hb : s3.bad with | true => rfl | false => exact absurd ⟨hil,hb⟩ hd2) _
        · rw [List.drop_eq_nil_iff.2 (by omega)]; rfl
      rw [e3] at hs
      refine Xv (Xu ?_)
      refine Wi (Wa rfl rfl (Wa rfl rfl (Wc rfl (R3.pops (k3.ne hne) u3 (by omega)) ?_)))
      rintro _ h4 ⟨O4,R4,t4⟩
      refine Wh [(0,_)] rfl ?_
      refine Wk (Wa rfl rfl (Wc rfl (R4.dead ((k3.trans (VS.popsR_kp _ _)).ne hne)) ?_))
      rintro _ h5 v5
      exact Wj [] rfl (fin hs v5)
  have c2 : ¬ x.i.op = 14 := of_decide_eq_false hc
  refine Wi (Wg (w := .bool (decide (x.i.op = 15))) rfl rfl (by congr 1) (Wa rfl rfl (Wh [(0,_),(3,_),(9,_),(83,_)] rfl ?_)))
  refine Wn rfl (fun hc => ?_) (fun hc => ?_)
  · have c3 : x.i.op = 15 := of_decide_eq_true hc
    have hs : s.jumpR M x.i = (s.popsR (s.op.headD ⟨0,[],[],0,false⟩).to).rests := by
      unfold VS.jumpR
      rw [if_neg c0,if_neg c1,if_neg c2,if_pos c3]
    obtain ⟨a,c,oa,oc,ms,X0⟩ := id R0.X
    have hpos : 0 < s.op.length := List.length_pos_iff.2 hne
    have hml := X0.len
    have hol := R0.o
    obtain ⟨id,off,vs,ez,ro,rfl,og,ol,ow,_⟩ := X0.o.sl.at hpos
    have emb : (ms[0]'(by omega)).b = s.op.headD ⟨0,[],[],0,false⟩ := by
      have h2 : (ms.map BM.b)[0]? = s.op[0]? := by rw [X0.mb]
      rw [List.getElem?_map,List.getElem?_eq_getElem (by omega),List.getElem?_eq_getElem hpos] at h2
      have h3 : (ms[0]'(by omega)).b = s.op[0] := by simpa using h2
      rw [h3,headD_el]
    have hm0 : ms[0]'(by omega) ∈ ms := List.getElem_mem _
    have sm := X0.st _ hm0
    have s8 : (s.op.headD ⟨0,[],[],0,false⟩).to.length ≤ 8 := (z _ (headD_in hne _)).2
    have hv : vs[off + 2]? = some (.slice (ms[0]'(by omega)).ta (ms[0]'(by omega)).b.to.length (ms[0]'(by omega)).tc) := by
      have h2 : ((vs.drop off).take (s.op.length * 5))[2]? = some (.slice (ms[0]'(by omega)).ta (ms[0]'(by omega)).b.to.length (ms[0]'(by omega)).tc) := by
        rw [← ow]
        match ms,hml with
        | y :: r,_ => rfl
        | [],q => simp at q; omega
      rw [List.getElem?_take_of_lt (by omega),List.getElem?_drop] at h2
      exact h2
    have sm2 := sm.2
    rw [emb] at sm2 hv
    refine Wi (Wa rfl rfl (Wa rfl rfl (Wa rfl rfl (Wa rfl rfl (We (v := .slice (some ⟨id,off,none⟩) s.op.length oc) rfl X0.g rfl (Yk rfl rfl ⟨by omega,by omega⟩ (Wa rfl rfl (We rfl og (by simpa using hv) (Wc rfl (R0.pops hne sm2 (by omega)) ?_)))))))))
    rintro _ h1 ⟨O1,R1,t1⟩
    refine Wh [(0,_)] rfl ?_
    refine Wk (Wa rfl rfl (Wc rfl (R1.dead ((VS.popsR_kp _ s).ne hne)) ?_))
    rintro _ h2 v2
    exact Wj [] rfl (fin hs v2)
  have c3 : ¬ x.i.op = 15 := of_decide_eq_false hc
  refine Wi (Wg (w := .bool (decide (x.i.op = 16))) rfl rfl (by congr 1) (Wa rfl rfl (Wh [(0,_),(3,_),(9,_),(96,_)] rfl ?_)))
  refine Wn rfl (fun hc => ?_) (fun hc => ?_)
  · have c4 : x.i.op = 16 := of_decide_eq_true hc
    have hs : s.jumpR M x.i = (if x.i.a < M.funcs.length then (if M.funcs.getD x.i.a 0 < M.types.length then VS.fitsR (M.types.getD (M.funcs.getD x.i.a 0) ([],[])).1 (M.types.getD (M.funcs.getD x.i.a 0) ([],[])).2 s else s.fails true) else s.fails true) := by
      unfold VS.jumpR
      rw [if_neg c0,if_neg c1,if_neg c2,if_neg c3,if_pos c4]
    obtain ⟨a,d,oa,oc,ms,X0⟩ := id R0.X
    obtain ⟨fa,fc,f1,f2,f3⟩ := R0.Y.fu
    have hfl := R0.Y.sz.2.1
    refine Xd (Wi (Wa rfl rfl (We (v := .int .u32 (x.i.a : Int)) rfl R0.g rfl (Wg (w := .int .u64 ((x.i.a : Nat) : Int)) rfl rfl (by rw [Qd (by omega)]) (Wa rfl rfl (Wa rfl rfl (Wa rfl rfl (Wa rfl rfl (We (v := .slice fa M.funcs.length fc) rfl X0.g f1 (Wa rfl rfl (Wg (w := .int .u64 ((M.funcs.length : Nat) : Int)) rfl rfl (by rw [Qd (by omega)]) (Wg (w := .bool (decide (¬ x.i.a < M.funcs.length))) rfl rfl (by congr 1 <;> (rw [Bool.eq_iff_iff]; simp <;> omega)) (Wh [(0,_),(3,_),(108,_)] rfl ?_)))))))))))))
    by_cases hin : x.i.a < M.funcs.length
    · refine Wp rfl (fun hc => absurd hin (of_decide_eq_true hc)) (fun _ => Wt ?_)
      rw [if_pos hin] at hs
      have ef : (Up M.funcs)[(x.i.a : Int).toNat]? = some (.int .u32 ((M.funcs.getD x.i.a 0 : Nat) : Int)) := by
        rw [Int.toNat_natCast,List.getElem?_map,List.getElem?_eq_getElem hin]
        simp [List.getD,hin]
      have hf : M.funcs.getD x.i.a 0 < 4294967296 := by
        have : M.funcs.getD x.i.a 0 = M.funcs[x.i.a] := by simp [List.getD,hin]
        rw [this]
        exact R0.Y.fb _ (List.getElem_mem hin)
      refine Wk (Wa rfl rfl (Wa rfl rfl (Wa rfl rfl (Wa rfl rfl (Wa rfl rfl (We (v := .slice fa M.funcs.length fc) rfl X0.g f1 (Wa rfl rfl (We (v := .int .u32 (x.i.a : Int)) rfl R0.g rfl (Xm rfl rfl f2 ⟨by omega,by omega⟩ ef fun p => Wc rfl (R0.typeOf hne hf) ?_)))))))))
      rintro _ h2 v2
      exact Wj [] rfl (fin hs v2)
    · refine Wp rfl (fun _ => ?_) (fun hc => absurd hc (by rw [decide_eq_true hin]; simp))
      rw [if_neg hin] at hs
      refine Xd (Wi (Wa rfl rfl (Wa rfl rfl (Wa rfl rfl (Wm (l := [.bool true]) rfl rfl rfl rfl X0.g (by rw [VR.cs_len]; decide) rfl fun h2 n2 x2 g2 => Wh [] rfl ?_)))))
      exact Xo (fin hs (Rg.trans R0.T (X0.bad1 x2 g2)))
  have c4 : ¬ x.i.op = 16 := of_decide_eq_false hc
  refine Wi (Wg (w := .bool (decide (x.i.op = 17))) rfl rfl (by congr 1) (Wa rfl rfl (Wh [(0,_),(3,_),(123,_)] rfl ?_)))
  refine Wn rfl (fun hc => ?_) (fun hc => ?_)
  · have c5 : x.i.op = 17 := of_decide_eq_true hc
    have hs : s.jumpR M x.i = (if x.i.b < M.tables.length ∧ M.tables.getD x.i.b 0 = 112 then (if x.i.a < M.types.length then VS.fitsR (M.types.getD x.i.a ([],[])).1 (M.types.getD x.i.a ([],[])).2 (s.popR 127).2 else (s.popR 127).2.fails true) else s.fails true) := by
      unfold VS.jumpR
      rw [if_neg c0,if_neg c1,if_neg c2,if_neg c3,if_neg c4,if_pos c5]
    obtain ⟨a,d,oa,oc,ms,X0⟩ := id R0.X
    obtain ⟨ta,tc,tl,f1,f2,f3,f4⟩ := R0.Y.tb
    have hfl := R0.Y.sz.2.2.1
    refine Xd (Ww (fun e' h' => ∃ d,e' = [(0,ptr K.p),(3,ptr h.next),(148,.bool d)] ∧ h0 = h' ∧ (d = true ↔ ¬ (x.i.b < M.tables.length ∧ M.tables.getD x.i.b 0 = 112))) ?_ ?_)
    · refine Wk (Wa rfl rfl (We (v := .int .u32 (x.i.b : Int)) rfl R0.g rfl (Wg (w := .int .u64 ((x.i.b : Nat) : Int)) rfl rfl (by rw [Qd (by omega)]) (Wa rfl rfl (Wa rfl rfl (Wa rfl rfl (Wa rfl rfl (We (v := .slice ta M.tables.length tc) rfl X0.g f1 (Wa rfl rfl (Wg (w := .int .u64 ((M.tables.length : Nat) : Int)) rfl rfl (by rw [Qd (by omega)]) (Wg (w := .bool (decide (¬ x.i.b < M.tables.length))) rfl rfl (by congr 1 <;> (rw [Bool.eq_iff_iff]; simp <;> omega)) (Wa rfl rfl ?_))))))))))))
      by_cases hin : x.i.b < M.tables.length
      · rw [show decide (¬ x.i.b < M.tables.length) = false from decide_eq_false (fun q => q hin)]
        obtain ⟨id,off,vs,ez,ro,rfl,go,gl,gw,gi⟩ := f2.at (by omega)
        have v0 : vs[off + (x.i.b : Int).toNat * 4]? = some (.int .u8 (M.tables.getD x.i.b 0 : Int)) := by
          rw [Int.toNat_natCast,gi _ (by omega),f4 _ hin]
          simp [List.getD,hin]
        refine Wd rfl (Wa rfl rfl (Wd rfl (Wa rfl rfl (Wd rfl (Wa rfl rfl (Wd rfl (Wa rfl rfl (Wd rfl (We (v := .slice (some ⟨id,off,none⟩) M.tables.length tc) rfl X0.g f1 (Wd rfl (Wa rfl rfl (Wd rfl (We (v := .int .u32 (x.i.b : Int)) rfl R0.g rfl ?_)))))))))))))
        refine Wd rfl (Yk rfl rfl ⟨by omega,by omega⟩ (Wd rfl (Wa rfl rfl (Wd rfl (We rfl go v0 ?_)))))
        exact Wd rfl (Wg (w := .bool (decide (M.tables.getD x.i.b 0 ≠ 112))) rfl rfl (by congr 1 <;> (rw [Bool.eq_iff_iff]; simp <;> omega)) (Wa rfl rfl (Wj [(0,_),(3,_),(148,_)] rfl ⟨_,rfl,rfl,by rw [decide_eq_true_iff]; exact ⟨fun q r => q r.2,fun q r => q ⟨hin,r⟩⟩⟩)))
      · rw [show decide (¬ x.i.b < M.tables.length) = true from decide_eq_true hin]
        exact Wb rfl (Wb rfl (Wb rfl (Wb rfl (Wb rfl (Wb rfl (Wb rfl (Wb rfl (Wb rfl (Wb rfl (Wb rfl (Wa rfl rfl (Wj [(0,_),(3,_),(148,_)] rfl ⟨_,rfl,rfl,⟨fun _ q => hin q.1,fun _ => rfl⟩⟩))))))))))))
    rintro _ _ ⟨d,rfl,rfl,hd⟩
    refine Wp rfl (fun hc => ?_) (fun hc => ?_)
    · rw [if_neg (hd.1 hc)] at hs
      refine Xd (Wi (Wa rfl rfl (Wa rfl rfl (Wa rfl rfl (Wm (l := [.bool true]) rfl rfl rfl rfl X0.g (by rw [VR.cs_len]; decide) rfl fun h2 n2 x2 g2 => Wh [] rfl ?_)))))
      exact Xo (fin hs (Rg.trans R0.T (X0.bad1 x2 g2)))
    · have hin : x.i.b < M.tables.length ∧ M.tables.getD x.i.b 0 = 112 := Classical.byContradiction fun q => by rw [hd.2 q] at hc; cases hc
      rw [if_pos hin] at hs
      refine Wt (Wi (Wa rfl rfl (Wc rfl (R0.pop (t := 127) hne) ?_)))
      rintro _ h1 ⟨rfl,O1,R1,t1⟩
      refine Wh [(0,_),(3,_)] rfl ?_
      refine Wk (Wa rfl rfl (Wa rfl rfl (We (v := .int .u32 (x.i.a : Int)) rfl R1.g rfl (Wc rfl (R1.typeOf ((VS.popR_kp 127 s).ne hne) ok.a) ?_))))
      rintro _ h2 v2
      exact Wj [] rfl (fin hs v2)
  have c5 : ¬ x.i.op = 17 := of_decide_eq_false hc
  exfalso; omega
end

end
section
/- The document's checker: an instruction. -/
theorem VS.typedR_kp (M : Mo) (t : Int) (s : VS) : VS.Kp s (s.typedR M t).2 := by
  unfold VS.typedR
  split
  · exact VS.Kp.refl s
  split
  · exact VS.Kp.refl s
  split
  · exact VS.Kp.refl s
  · exact VS.fails_kp true s
theorem VS.typedR_gr (M : Mo) (t : Int) (s : VS) : VS.Gr 0 s (s.typedR M t).2 := by
  unfold VS.typedR
  split
  · exact Nat.le_refl _
  split
  · exact Nat.le_refl _
  split
  · exact Nat.le_refl _
  · exact Nat.le_refl _
theorem VS.leaveR_wf {s : VS} (w : VS.Wf s) (h : s.op ≠ []) : VS.Wf s.leaveR.2 := by
  have w' := (VS.popsR_kp s.top.to s).wf w h
  exact ⟨w'.up.sublist (List.dropLast_sublist _),fun b hb => w'.le b (List.dropLast_subset _ hb)⟩
theorem VS.leaveR_l (s : VS) : s.leaveR.2.l.length ≤ s.l.length := by
  have := VS.popsR_gr s.top.to s
  unfold VS.Gr at this
  exact this
theorem VS.leaveR_o (s : VS) : s.leaveR.2.op.length ≤ s.op.length := by
  show (s.popsR s.top.to).op.dropLast.length ≤ _
  rw [(VS.popsR_kp s.top.to s).op,List.length_dropLast]; omega
theorem VS.typedR_short {M : Mo} (hM : VS.Mo.Lp VS.short M) (t : Int) (s : VS) : (s.typedR M t).1.1.length ≤ 8 ∧ (s.typedR M t).1.2.length ≤ 8 := by
  unfold VS.typedR
  split
  · exact ⟨Nat.zero_le _,Nat.zero_le _⟩
  split
  · exact ⟨Nat.zero_le _,by show 1 ≤ 8; omega⟩
  split
  · rename_i hl
    have e : M.types.getD t.toNat ([],[]) = M.types[t.toNat] := by simp [List.getD,hl]
    rw [e]
    exact hM.2 _ (List.getElem_mem hl)
  · exact ⟨Nat.zero_le _,Nat.zero_le _⟩
theorem opsC_w : ∀ op ∈ opsC,¬ 0 < VS.width op := by decide
theorem Ins.Kn.moves {x : Ins} (k : x.Kn) (h : VS.width x.op > 0) : x.op ∈ Uh := by
  rcases k with q | q | q
  · exact absurd h (opsC_w _ q)
  · exact q
  · exact absurd h (opsN_w _ q)
abbrev VS.byt (l : List Nat) : Prop := ∀ t ∈ l,t < 256
theorem bys_ints (xs : List Nat) : bys xs = Kk .u8 (xs.map fun (x : Nat) => (x : Int)) := by simp [bys,Kk]
theorem text_ne {a b : List Nat} (ha : VS.byt a) (hb : VS.byt b) : (!((⟨⟨Qc (a.map fun (x : Nat) => (x : Int))⟩⟩ : ByteArray).toList == (⟨⟨Qc (b.map fun (x : Nat) => (x : Int))⟩⟩ : ByteArray).toList)) = decide (a ≠ b) := by
  have e1 : ∀ l : List UInt8,(⟨⟨l⟩⟩ : ByteArray).toList = l := fun l => by simp [ByteArray.toList_eq]
  rw [e1,e1]
  by_cases h : a = b
  · subst h; simp
  · rw [decide_eq_true h]
    have : ¬ Qc (a.map fun (x : Nat) => (x : Int)) = Qc (b.map fun (x : Nat) => (x : Int)) := fun q => by
      have q2 := bytesOf_inj (fun y hy => by obtain ⟨n,hn,rfl⟩ := List.mem_map.1 hy; have := ha n hn; omega) (fun y hy => by obtain ⟨n,hn,rfl⟩ := List.mem_map.1 hy; have := hb n hn; omega) q
      have q3 := congrArg (List.map Int.toNat) q2
      simp only [List.map_map,Function.comp_def,Int.toNat_natCast,List.map_id'] at q3
      exact h q3
    simp [this]
section
variable {K : VR} {M : Mo} {h : Heap} {O : Nat → Prop} {s : VS}
theorem Rq.leave {h0 : Heap} {O0 : Nat → Prop} {b N : Nat} {xe : List Value} (R : Rq K M h0 O0 b xe N h O s) (hne : s.op ≠ []) (z : VS.LP VS.short s) : Fn Try.prog 110 [ptr K.p] h fun v h' => ∃ (m : BM) (O' : Nat → Prop),m.b = s.leaveR.1 ∧ v = .agg ⟨m.enc⟩ ∧ m.St h' O' ∧ Rk K h' O' s.leaveR.2 ∧ Tn K.toVK h h' O O' :=
  C110 R.X hne R.w R.B z
set_option maxHeartbeats 8000000 in
theorem C63 {x : IM} (X : Rk K h O s) (Y : MoX h O K.pm M K.m.l) (wf : VS.Wf s) (hne : s.op ≠ []) (hl : s.l.length ≤ 900000000) (ho : s.op.length ≤ 1000000) (ok : x.i.Ok) (kn : x.i.Kn) (z : VS.LP VS.short s) (zb : VS.LP VS.byt s) (sL : SlA h 1 x.la x.i.l.length x.lc (Up x.i.l)) (bL : ∀ i,Blk x.la i → i < h.next ∧ ¬ O i) (hL : K.L.length ≤ 1000000) (hD : K.D = M.decl) (hcn : M.count < 18446744073709551616) :
    Fn Try.prog 63 [ptr K.p,.agg ⟨x.enc⟩] h fun v h' => Rg K h O h' (s.oneR M K.L x.i) := by
  have hka := ok.a
  have hkb := ok.b
  have hll := ok.ll
  refine fnK F63.fok rfl ?_
  refine Wi (Xp (cs := x.enc) rfl rfl fun hb nb xb gb => Wh [(0,_),(3,_)] rfl ?_)
  have Rb := Rq.start X Y wf hl ho xb nb gb
  refine Wi (Wl rfl rfl fun h0 n0 x0 g0 => Wa rfl rfl (Wh [(0,_),(3,_),(4,_)] rfl ?_))
  obtain ⟨R0,t0⟩ := Rb.ext0 x0
  have f4 := Rb.new (l := [127]) (n := 1) (c := 1) n0 g0 rfl
  have sL0 := (sL.ext xb).ext x0
  have bL0 : ∀ i,Blk x.la i → i < h0.next ∧ ¬ O i := fun i q => ⟨by have := (bL i q).1; omega,(bL i q).2⟩
  have B0 := R0.B
  have fin : ∀ {r : VS} {h' : Heap},s.oneR M K.L x.i = r → Rg K h O h' r → Wx F63.res (fun v h' => Rg K h O h' (s.oneR M K.L x.i)) [] h' := fun e q => Wx.mk [] rfl (by rw [e]; exact q)
  refine Wi (Wa rfl rfl (We (v := .int .i64 x.i.op) rfl R0.g rfl (Wa rfl rfl (Wh [(0,_),(3,_),(4,_),(5,_)] rfl ?_))))
  refine Yw ?_
  refine Ww (fun e' h' => ∃ d,e' = [(0,ptr K.p),(3,ptr h.next),(4,.slice (some ⟨hb.next,0,none⟩) 1 1),(5,.int .i64 x.i.op),(20,.bool d)] ∧ h0 = h' ∧ (d = true ↔ x.i.op = 0)) ?_ ?_
  · refine Wk (Wa rfl rfl ?_)
    refine Wg (w := .bool (decide (x.i.op = 0))) rfl rfl (by congr 1 <;> (rw [Bool.eq_iff_iff]; simp <;> omega)) ?_
    refine Wa rfl rfl ?_
    exact Wj [(0,_),(3,_),(4,_),(5,_),(20,_)] rfl ⟨_,rfl,rfl,by rw [decide_eq_true_iff] <;> omega⟩
  rintro _ _ ⟨d,rfl,rfl,hd⟩
  refine Wn rfl (fun hc => ?_) (fun hc => ?_)
  · have cc := hd.1 hc
    have hs : s.oneR M K.L x.i = s.rests := by
      unfold VS.oneR
      rw [if_pos cc]
    refine Wk (Wa rfl rfl (Wc rfl (R0.dead ((VS.Kp.refl s).ne hne)) ?_))
    rintro _ h1 v1
    refine Wj [] rfl ?_
    exact fin hs v1
  have c0 : ¬ (x.i.op = 0) := fun q => by rw [hd.2 q] at hc; cases hc
  clear hd hc
  refine Ww (fun e' h' => ∃ d,e' = [(0,ptr K.p),(3,ptr h.next),(4,.slice (some ⟨hb.next,0,none⟩) 1 1),(5,.int .i64 x.i.op),(25,.bool d)] ∧ h0 = h' ∧ (d = true ↔ x.i.op = 1)) ?_ ?_
  · refine Wk (Wa rfl rfl ?_)
    refine Wg (w := .bool (decide (x.i.op = 1))) rfl rfl (by congr 1 <;> (rw [Bool.eq_iff_iff]; simp <;> omega)) ?_
    refine Wa rfl rfl ?_
    exact Wj [(0,_),(3,_),(4,_),(5,_),(25,_)] rfl ⟨_,rfl,rfl,by rw [decide_eq_true_iff] <;> omega⟩
  rintro _ _ ⟨d,rfl,rfl,hd⟩
  refine Wn rfl (fun hc => ?_) (fun hc => ?_)
  · have cc := hd.1 hc
    have hs : s.oneR M K.L x.i = s := by
      unfold VS.oneR
      rw [if_neg c0,if_pos cc]
    exact Ye (fin hs R0.done)
  have c1 : ¬ (x.i.op = 1) := fun q => by rw [hd.2 q] at hc; cases hc
  clear hd hc
  refine Ww (fun e' h' => ∃ d,e' = [(0,ptr K.p),(3,ptr h.next),(4,.slice (some ⟨hb.next,0,none⟩) 1 1),(5,.int .i64 x.i.op),(28,.bool d)] ∧ h0 = h' ∧ (d = true ↔ x.i.op ≥ 2 ∧ x.i.op ≤ 4)) ?_ ?_
  · refine Wk (Wa rfl rfl ?_)
    refine Wg (w := .bool (decide (x.i.op ≥ 2))) rfl rfl (by congr 1 <;> (rw [Bool.eq_iff_iff]; simp <;> omega)) ?_
    refine Wa rfl rfl ?_
    by_cases q1 : x.i.op ≥ 2
    · rw [show decide (x.i.op ≥ 2) = true from decide_eq_true q1]
      refine Wd rfl ?_
      refine Wa rfl rfl ?_
      refine Wd rfl ?_
      refine Wg (w := .bool (decide (x.i.op ≤ 4))) rfl rfl (by congr 1 <;> (rw [Bool.eq_iff_iff]; simp <;> omega)) ?_
      refine Wa rfl rfl ?_
      refine Wa rfl rfl ?_
      exact Wj [(0,_),(3,_),(4,_),(5,_),(28,_)] rfl ⟨_,rfl,rfl,by rw [decide_eq_true_iff] <;> omega⟩
    · rw [show decide (x.i.op ≥ 2) = false from decide_eq_false q1]
      refine Wb rfl ?_
      refine Wb rfl ?_
      refine Wa rfl rfl ?_
      refine Wa rfl rfl ?_
      exact Wj [(0,_),(3,_),(4,_),(5,_),(28,_)] rfl ⟨_,rfl,rfl,⟨fun q => (by cases q),fun q => by exfalso; omega⟩⟩
  rintro _ _ ⟨d,rfl,rfl,hd⟩
  refine Wn rfl (fun hc => ?_) (fun hc => ?_)
  · have cc := hd.1 hc
    have hs : s.oneR M K.L x.i = s.blkR M x.i := by
      unfold VS.oneR
      rw [if_neg c0,if_neg c1,if_pos cc]
    unfold VS.blkR at hs
    dsimp only at hs
    refine Wi (Wa rfl rfl (Wa rfl rfl (We (v := .int .i64 x.i.t) rfl R0.g rfl (Wc rfl (C107 R0.X R0.Y ok.t) ?_))))
    rintro _ h1 ⟨fa,fc,ta,tc,O1,rfl,X1,t1,uf,ut⟩
    have k1 := VS.typedR_kp M x.i.t s
    have R1 := R0.kp hne k1 (VS.typedR_gr M x.i.t s) X1 t1
    obtain ⟨q8,q9⟩ := VS.typedR_short Y.s8 x.i.t s
    clear X1
    generalize hty : s.typedR M x.i.t = ty at hs R1 uf ut q8 q9 k1 ⊢
    refine Wa rfl rfl (Wa rfl rfl (Wa rfl rfl (Wa rfl rfl (Wa rfl rfl (Wh [(0,_),(5,_),(6,_),(7,_)] rfl ?_)))))
    refine Ww (fun e' h' => (∃ w,e' = (0,ptr K.p) :: (5,.int .i64 x.i.op) :: (6,.slice fa ty.1.1.length fc) :: (7,.slice ta ty.1.2.length tc) :: w) ∧ ∃ O',Rq K M h O h.next x.enc 900000000 h' O' (if x.i.op = 4 then (ty.2.popR 127).2 else ty.2) ∧ Tn K.toVK h1 h' O1 O') ?_ ?_
    · refine Wi (Wa rfl rfl (Wg (w := .bool (decide (x.i.op = 4))) rfl rfl (by congr 1) (Wh [(0,_),(5,_),(6,_),(7,_),(43,_)] rfl ?_)))
      refine Wn rfl (fun hc => ?_) (fun hc => ?_)
      · refine Wk (Wa rfl rfl (Wc rfl (R1.pop (t := 127) (k1.ne hne)) ?_))
        rintro _ h2 ⟨rfl,O2,R2,t2⟩
        refine Wj [(0,_),(5,_),(6,_),(7,_)] rfl ?_
        rw [if_pos (of_decide_eq_true hc)]
        exact ⟨⟨[],rfl⟩,O2,R2,t2⟩
      · refine Ye ?_
        rw [if_neg (of_decide_eq_false hc)]
        exact ⟨⟨_,rfl⟩,O1,R1,Tn.refl _ _ _⟩
    rintro _ h2 ⟨⟨w,rfl⟩,O2,R2,t2⟩
    have k2 : VS.Kp s (if x.i.op = 4 then (ty.2.popR 127).2 else ty.2) := by
      split
      · exact k1.trans (VS.popR_kp _ _)
      · exact k1
    generalize hs2 : (if x.i.op = 4 then (ty.2.popR 127).2 else ty.2) = s2 at hs R2 k2
    have uf2 := uf.turn t2.t
    have ut2 := ut.turn t2.t
    refine Wi (Wa rfl rfl (Wa rfl rfl (Wc rfl (R2.pops (k2.ne hne) uf2 (by omega)) ?_)))
    rintro _ h3 ⟨O3,R3,t3⟩
    refine Wh [(0,_),(5,_),(6,_),(7,_)] rfl ?_
    refine Wk (Wa rfl rfl (Wa rfl rfl (Wa rfl rfl (Wa rfl rfl (Wc rfl (R3.enter (uf2.turn t3.t) (ut2.turn t3.t) (by omega)) ?_)))))
    rintro _ h4 v4
    exact Wj [] rfl (fin hs v4)
  have c2 : ¬ (x.i.op ≥ 2 ∧ x.i.op ≤ 4) := fun q => by rw [hd.2 q] at hc; cases hc
  clear hd hc
  refine Ww (fun e' h' => ∃ d,e' = [(0,ptr K.p),(3,ptr h.next),(4,.slice (some ⟨hb.next,0,none⟩) 1 1),(5,.int .i64 x.i.op),(54,.bool d)] ∧ h0 = h' ∧ (d = true ↔ x.i.op = 5)) ?_ ?_
  · refine Wk (Wa rfl rfl ?_)
    refine Wg (w := .bool (decide (x.i.op = 5))) rfl rfl (by congr 1 <;> (rw [Bool.eq_iff_iff]; simp <;> omega)) ?_
    refine Wa rfl rfl ?_
    exact Wj [(0,_),(3,_),(4,_),(5,_),(54,_)] rfl ⟨_,rfl,rfl,by rw [decide_eq_true_iff] <;> omega⟩
  rintro _ _ ⟨d,rfl,rfl,hd⟩
  refine Wn rfl (fun hc => ?_) (fun hc => ?_)
  · have cc := hd.1 hc
    have hs : s.oneR M K.L x.i = s.elsR := by
      unfold VS.oneR
      rw [if_neg c0,if_neg c1,if_neg c2,if_pos cc]
    unfold VS.elsR at hs
    refine Wi (Wa rfl rfl (Wc rfl (R0.leave hne z) ?_))
    rintro _ h1 ⟨m,O1,e1,rfl,st1,X1,t1⟩
    have R1 := R0.go X1 t1 (VS.leaveR_wf wf hne) (Nat.le_trans (VS.leaveR_l s) hl) (by decide) (Nat.le_trans (VS.leaveR_o s) ho)
    clear X1
    refine Xl fun h2 n2 x2 g2 => ?_
    refine Wm (l := m.enc) rfl rfl rfl rfl g2 (by simp) rfl fun h3 n3 x3 g3 => Wh [(0,_),(8,_)] rfl ?_
    have xx := x2.then x3 (fun i q => .inr (by omega))
    obtain ⟨R3,t3⟩ := R1.ext0 xx
    have st3 := st1.turn t3.t
    have z3 : ¬ O1 h1.next := fun q => by have := R1.olt _ q; omega
    replace g3 : At h3 h1.next (.cells m.enc 0 false) := g3
    have etop : s.leaveR.1 = s.top := rfl
    have m8 : m.b.fr.length ≤ 8 ∧ m.b.to.length ≤ 8 := by
      rw [e1,etop]
      exact z _ (VS.top_mem hne)
    rw [← e1] at hs
    obtain ⟨a3,d3,oa3,oc3,ms3,X3⟩ := id R3.X
    obtain ⟨C,hC⟩ : ∃ C : Bool,C = decide (m.b.op ≠ 4) := ⟨_,rfl⟩
    rw [← hC] at hs
    refine Ww (fun e' h' => e' = [(0,ptr K.p),(8,ptr h1.next)] ∧ ∃ O',Rq K M h O h.next x.enc 900000000 h' O' (s.leaveR.2.fails C) ∧ Tn K.toVK h3 h' O1 O') ?_ ?_
    · refine Wk (Wa rfl rfl ?_)
      refine Wa rfl rfl ?_
      refine Wa rfl rfl ?_
      refine Wa rfl rfl ?_
      refine We (v := .bool s.leaveR.2.bad) rfl X3.g rfl ?_
      refine Wa rfl rfl ?_
      cases hbd : s.leaveR.2.bad with
      | true =>
        refine Wb rfl ?_
        refine Wb rfl ?_
        refine Wb rfl ?_
        refine Wa rfl rfl ?_
        refine Wa rfl rfl ?_
        refine Wa rfl rfl ?_
        refine Wm (l := [.bool (true)]) rfl rfl rfl rfl X3.g (by rw [VR.cs_len]; decide) rfl fun hz nz xz gz => Wj [(0,_),(8,_)] rfl ?_
        exact ⟨rfl,_,R3.flag X3 C xz gz (by rw [hbd,hC]; first | rfl | (simp [] <;> omega) | (simp <;> omega) | (simp_all [VS.own]))⟩
      | false =>
        refine Wd rfl ?_
        refine Wa rfl rfl ?_
        refine Wd rfl ?_
        refine We (v := .int .i64 m.b.op) rfl g3 rfl ?_
        refine Wd rfl ?_
        refine Wg (w := .bool (decide (m.b.op ≠ 4))) rfl rfl (by congr 1 <;> (rw [Bool.eq_iff_iff]; simp <;> omega)) ?_
        refine Wa rfl rfl ?_
        refine Wa rfl rfl ?_
        refine Wa rfl rfl ?_
        refine Wm (l := [.bool (decide (m.b.op ≠ 4))]) rfl rfl rfl rfl X3.g (by rw [VR.cs_len]; decide) rfl fun hz nz xz gz => Wj [(0,_),(8,_)] rfl ?_
        exact ⟨rfl,_,R3.flag X3 C xz gz (by rw [hbd,hC]; first | rfl | (simp [] <;> omega) | (simp <;> omega) | (simp_all [VS.own]))⟩
    rintro _ h4 ⟨rfl,O4,R4,t4⟩
    have g4 := g3.ext t4.t.ext z3
    have st4 := st3.turn t4.t
    refine Wk (Wa rfl rfl (Wa rfl rfl (We (v := .slice m.fa m.b.fr.length m.fc) rfl g4 rfl (Wa rfl rfl (We (v := .slice m.ta m.b.to.length m.tc) rfl g4 rfl (Wc rfl (R4.enter (op := 5) st4.1 st4.2 (by omega)) ?_))))))
    rintro _ h5 v5
    exact Wj [] rfl (fin hs v5)
  have c3 : ¬ (x.i.op = 5) := fun q => by rw [hd.2 q] at hc; cases hc
  clear hd hc
  refine Ww (fun e' h' => ∃ d,e' = [(0,ptr K.p),(3,ptr h.next),(4,.slice (some ⟨hb.next,0,none⟩) 1 1),(5,.int .i64 x.i.op),(77,.bool d)] ∧ h0 = h' ∧ (d = true ↔ x.i.op = 11)) ?_ ?_
  · refine Wk (Wa rfl rfl ?_)
    refine Wg (w := .bool (decide (x.i.op = 11))) rfl rfl (by congr 1 <;> (rw [Bool.eq_iff_iff]; simp <;> omega)) ?_
    refine Wa rfl rfl ?_
    exact Wj [(0,_),(3,_),(4,_),(5,_),(77,_)] rfl ⟨_,rfl,rfl,by rw [decide_eq_true_iff] <;> omega⟩
  rintro _ _ ⟨d,rfl,rfl,hd⟩
  refine Wn rfl (fun hc => ?_) (fun hc => ?_)
  · have cc := hd.1 hc
    have hs : s.oneR M K.L x.i = s.endsR := by
      unfold VS.oneR
      rw [if_neg c0,if_neg c1,if_neg c2,if_neg c3,if_pos cc]
    unfold VS.endsR at hs
    refine Wi (Wa rfl rfl (Wc rfl (R0.leave hne z) ?_))
    rintro _ h1 ⟨m,O1,e1,rfl,st1,X1,t1⟩
    have R1 := R0.go X1 t1 (VS.leaveR_wf wf hne) (Nat.le_trans (VS.leaveR_l s) hl) (by decide) (Nat.le_trans (VS.leaveR_o s) ho)
    clear X1
    refine Xl fun h2 n2 x2 g2 => ?_
    refine Wm (l := m.enc) rfl rfl rfl rfl g2 (by simp) rfl fun h3 n3 x3 g3 => Wh [(0,_),(9,_)] rfl ?_
    have xx := x2.then x3 (fun i q => .inr (by omega))
    obtain ⟨R3,t3⟩ := R1.ext0 xx
    have st3 := st1.turn t3.t
    have z3 : ¬ O1 h1.next := fun q => by have := R1.olt _ q; omega
    replace g3 : At h3 h1.next (.cells m.enc 0 false) := g3
    have etop : s.leaveR.1 = s.top := rfl
    have m8 : m.b.fr.length ≤ 8 ∧ m.b.to.length ≤ 8 := by
      rw [e1,etop]
      exact z _ (VS.top_mem hne)
    rw [← e1] at hs
    obtain ⟨a3,d3,oa3,oc3,ms3,X3⟩ := id R3.X
    have m8b : VS.byt m.b.fr ∧ VS.byt m.b.to := by
      rw [e1,etop]
      exact zb _ (VS.top_mem hne)
    obtain ⟨C,hC⟩ : ∃ C : Bool,C = decide (m.b.op = 4 ∧ m.b.fr ≠ m.b.to) := ⟨_,rfl⟩
    rw [← hC] at hs
    refine Ww (fun e' h' => (∃ w,e' = (0,ptr K.p) :: (9,ptr h1.next) :: w) ∧ ∃ O',Rq K M h O h.next x.enc 900000000 h' O' (s.leaveR.2.fails C) ∧ Tn K.toVK h3 h' O1 O') ?_ ?_
    · refine Wi (Wa rfl rfl (We (v := .int .i64 m.b.op) rfl g3 rfl (Wg (w := .bool (decide (m.b.op = 4))) rfl rfl (by congr 1) (Wh [(0,_),(9,_),(84,_)] rfl ?_))))
      refine Wn rfl (fun hc => ?_) (fun hc => ?_)
      · have h4 := of_decide_eq_true hc
        refine Wk (Wa rfl rfl ?_)
        refine Wa rfl rfl ?_
        refine Wa rfl rfl ?_
        refine Wa rfl rfl ?_
        refine We (v := .bool s.leaveR.2.bad) rfl X3.g rfl ?_
        refine Wa rfl rfl ?_
        cases hbd : s.leaveR.2.bad with
        | true =>
          refine Wb rfl ?_
          refine Wb rfl ?_
          refine Wb rfl ?_
          refine Wb rfl ?_
          refine Wb rfl ?_
          refine Wb rfl ?_
          refine Wb rfl ?_
          refine Wa rfl rfl ?_
          refine Wa rfl rfl ?_
          refine Wa rfl rfl ?_
          refine Wm (l := [.bool (true)]) rfl rfl rfl rfl X3.g (by rw [VR.cs_len]; decide) rfl fun hz nz xz gz => Wj [(0,_),(9,_)] rfl ?_
          exact ⟨⟨[],rfl⟩,_,R3.flag X3 C xz gz (by rw [hbd,hC]; first | rfl | (simp [] <;> omega) | (simp <;> omega) | (simp_all [VS.own]))⟩
        | false =>
          refine Wd rfl ?_
          refine Wa rfl rfl ?_
          refine Wd rfl ?_
          refine We (v := .slice m.fa m.b.fr.length m.fc) rfl g3 rfl ?_
          refine Wd rfl ?_
          refine Wops_toStr rfl (by have := st3.1.1; rw [bys_ints] at this; exact this) ?_
          refine Wd rfl ?_
          refine Wa rfl rfl ?_
          refine Wd rfl ?_
          refine We (v := .slice m.ta m.b.to.length m.tc) rfl g3 rfl ?_
          refine Wd rfl ?_
          refine Wops_toStr rfl (by have := st3.2.1; rw [bys_ints] at this; exact this) ?_
          refine Wd rfl ?_
          refine Wops_strne rfl rfl (text_ne m8b.1 m8b.2) ?_
          refine Wa rfl rfl ?_
          refine Wa rfl rfl ?_
          refine Wa rfl rfl ?_
          refine Wm (l := [.bool (decide (m.b.fr ≠ m.b.to))]) rfl rfl rfl rfl X3.g (by rw [VR.cs_len]; decide) rfl fun hz nz xz gz => Wj [(0,_),(9,_)] rfl ?_
          exact ⟨⟨[],rfl⟩,_,R3.flag X3 C xz gz (by rw [hbd,hC]; first | rfl | (simp [] <;> omega) | (simp <;> omega) | (simp_all [VS.own]))⟩
      · have h4 := of_decide_eq_false hc
        refine Ye ⟨⟨_,rfl⟩,O1,?_,Tn.refl _ _ _⟩
        have : s.leaveR.2.fails C = s.leaveR.2 := by rw [hC]; simp [VS.fails,h4]
        rw [this]; exact R3
    rintro _ h4 ⟨⟨w,rfl⟩,O4,R4,t4⟩
    have g4 := g3.ext t4.t.ext z3
    have st4 := st3.turn t4.t
    dsimp only at hs
    generalize hs4 : s.leaveR.2.fails C = s4 at hs R4
    obtain ⟨a4,d4,oa4,oc4,ms4,X4⟩ := id R4.X
    have hol := R4.o
    refine Wi (Wa rfl rfl (Wa rfl rfl (Wa rfl rfl (We (v := .slice oa4 s4.op.length oc4) rfl X4.g rfl (Wa rfl rfl (Wg (w := .bool (decide (s4.op ≠ []))) rfl rfl (by congr 1; rw [Bool.eq_iff_iff]; simp [← List.length_pos_iff]) (Wh [(0,_),(9,_),(106,_)] rfl ?_)))))))
    refine Wn rfl (fun hc => ?_) (fun hc => ?_)
    · have ne4 := of_decide_eq_true hc
      rw [if_neg ne4] at hs
      refine Wk (Wa rfl rfl (Wa rfl rfl (We (v := .slice m.ta m.b.to.length m.tc) rfl g4 rfl (Wc rfl (R4.push ne4 st4.2.1 (by omega) (by omega)) ?_))))
      rintro _ h5 ⟨O5,R5,t5⟩
      exact Wj [] rfl (fin hs R5.done)
    · have e4 : s4.op = [] := by simpa using hc
      rw [if_pos e4] at hs
      exact Ye (fin hs R4.done)
  have c4 : ¬ (x.i.op = 11) := fun q => by rw [hd.2 q] at hc; cases hc
  clear hd hc
  refine Ww (fun e' h' => ∃ d,e' = [(0,ptr K.p),(3,ptr h.next),(4,.slice (some ⟨hb.next,0,none⟩) 1 1),(5,.int .i64 x.i.op),(111,.bool d)] ∧ h0 = h' ∧ (d = true ↔ x.i.op ≥ 12 ∧ x.i.op ≤ 17)) ?_ ?_
  · refine Wk (Wa rfl rfl ?_)
    refine Wg (w := .bool (decide (x.i.op ≥ 12))) rfl rfl (by congr 1 <;> (rw [Bool.eq_iff_iff]; simp <;> omega)) ?_
    refine Wa rfl rfl ?_
    by_cases q1 : x.i.op ≥ 12
    · rw [show decide (x.i.op ≥ 12) = true from decide_eq_true q1]
      refine Wd rfl ?_
      refine Wa rfl rfl ?_
      refine Wd rfl ?_
      refine Wg (w := .bool (decide (x.i.op ≤ 17))) rfl rfl (by congr 1 <;> (rw [Bool.eq_iff_iff]; simp <;> omega)) ?_
      refine Wa rfl rfl ?_
      refine Wa rfl rfl ?_
      exact Wj [(0,_),(3,_),(4,_),(5,_),(111,_)] rfl ⟨_,rfl,rfl,by rw [decide_eq_true_iff] <;> omega⟩
    · rw [show decide (x.i.op ≥ 12) = false from decide_eq_false q1]
      refine Wb rfl ?_
      refine Wb rfl ?_
      refine Wa rfl rfl ?_
      refine Wa rfl rfl ?_
      exact Wj [(0,_),(3,_),(4,_),(5,_),(111,_)] rfl ⟨_,rfl,rfl,⟨fun q => (by cases q),fun q => by exfalso; omega⟩⟩
  rintro _ _ ⟨d,rfl,rfl,hd⟩
  refine Wn rfl (fun hc => ?_) (fun hc => ?_)
  · have cc := hd.1 hc
    have hs : s.oneR M K.L x.i = s.jumpR M x.i := by
      unfold VS.oneR
      rw [if_neg c0,if_neg c1,if_neg c2,if_neg c3,if_neg c4,if_pos cc]
    refine Wk (Wa rfl rfl (Xh (l := x.enc) rfl R0.g (Nat.le_refl 6) rfl (Wc rfl (C111 R0.X R0.Y wf hne hl ho ok z sL0 bL0 cc) ?_)))
    rintro _ h2 v2
    exact Wj [] rfl (fin hs (Rg.trans R0.T v2))
  have c5 : ¬ (x.i.op ≥ 12 ∧ x.i.op ≤ 17) := fun q => by rw [hd.2 q] at hc; cases hc
  clear hd hc
  refine Ww (fun e' h' => ∃ d,e' = [(0,ptr K.p),(3,ptr h.next),(4,.slice (some ⟨hb.next,0,none⟩) 1 1),(5,.int .i64 x.i.op),(121,.bool d)] ∧ h0 = h' ∧ (d = true ↔ x.i.op = 26)) ?_ ?_
  · refine Wk (Wa rfl rfl ?_)
    refine Wg (w := .bool (decide (x.i.op = 26))) rfl rfl (by congr 1 <;> (rw [Bool.eq_iff_iff]; simp <;> omega)) ?_
    refine Wa rfl rfl ?_
    exact Wj [(0,_),(3,_),(4,_),(5,_),(121,_)] rfl ⟨_,rfl,rfl,by rw [decide_eq_true_iff] <;> omega⟩
  rintro _ _ ⟨d,rfl,rfl,hd⟩
  refine Wn rfl (fun hc => ?_) (fun hc => ?_)
  · have cc := hd.1 hc
    have hs : s.oneR M K.L x.i = (s.popR 0).2 := by
      unfold VS.oneR
      rw [if_neg c0,if_neg c1,if_neg c2,if_neg c3,if_neg c4,if_neg c5,if_pos cc]
    refine Wk (Wa rfl rfl (Wc rfl (R0.pop (t := 0) ((VS.Kp.refl s).ne hne)) ?_))
    rintro _ h2 ⟨rfl,O2,R2,t2⟩
    have f4_2 := f4.turn t2.t
    have k2 : VS.Kp s (s.popR (0)).2 := (VS.Kp.refl s).trans (VS.popR_kp _ _)
    refine Wj [] rfl ?_
    exact fin hs R2.done
  have c6 : ¬ (x.i.op = 26) := fun q => by rw [hd.2 q] at hc; cases hc
  clear hd hc
  refine Ww (fun e' h' => ∃ d,e' = [(0,ptr K.p),(3,ptr h.next),(4,.slice (some ⟨hb.next,0,none⟩) 1 1),(5,.int .i64 x.i.op),(126,.bool d)] ∧ h0 = h' ∧ (d = true ↔ x.i.op = 27)) ?_ ?_
  · refine Wk (Wa rfl rfl ?_)
    refine Wg (w := .bool (decide (x.i.op = 27))) rfl rfl (by congr 1 <;> (rw [Bool.eq_iff_iff]; simp <;> omega)) ?_
    refine Wa rfl rfl ?_
    exact Wj [(0,_),(3,_),(4,_),(5,_),(126,_)] rfl ⟨_,rfl,rfl,by rw [decide_eq_true_iff] <;> omega⟩
  rintro _ _ ⟨d,rfl,rfl,hd⟩
  refine Wn rfl (fun hc => ?_) (fun hc => ?_)
  · have cc := hd.1 hc
    have hs : s.oneR M K.L x.i = s.chooseR := by
      unfold VS.oneR
      rw [if_neg c0,if_neg c1,if_neg c2,if_neg c3,if_neg c4,if_neg c5,if_neg c6,if_pos cc]
    unfold VS.chooseR at hs
    refine Wi (Wa rfl rfl (Wc rfl (R0.pop (t := 127) hne) ?_))
    rintro _ h1 ⟨rfl,O1,R1,t1⟩
    have k1 := VS.popR_kp 127 s
    refine Wh [(0,_)] rfl ?_
    refine Wi (Wa rfl rfl (Wc rfl (R1.pop (t := 0) (k1.ne hne)) ?_))
    rintro _ h2 ⟨rfl,O2,R2,t2⟩
    have k2 := k1.trans (VS.popR_kp 0 _)
    refine Wa rfl rfl (Wh [(0,_),(10,_)] rfl ?_)
    refine Wi (Wa rfl rfl (Wc rfl (R2.pop (t := 0) (k2.ne hne)) ?_))
    rintro _ h3 ⟨rfl,O3,R3,t3⟩
    have k3 := k2.trans (VS.popR_kp 0 _)
    refine Wa rfl rfl (Wh [(0,_),(10,_),(11,_)] rfl ?_)
    dsimp only at hs
    generalize hA : ((s.popR 127).2.popR 0).1 = A at hs ⊢
    generalize hB : (((s.popR 127).2.popR 0).2.popR 0).1 = B at hs ⊢
    generalize h3s : (((s.popR 127).2.popR 0).2.popR 0).2 = s3 at hs R3 k3
    obtain ⟨a3,d3,oa3,oc3,ms3,X3⟩ := id R3.X
    obtain ⟨C,hC⟩ : ∃ C : Bool,C = (VS.own A || VS.own B || decide (A ≠ B ∧ A ≠ 0 ∧ B ≠ 0)) := ⟨_,rfl⟩
    rw [← hC] at hs
    refine Ww (fun e' h' => e' = [(0,ptr K.p),(10,.int .u8 (A : Int)),(11,.int .u8 (B : Int))] ∧ ∃ O',Rq K M h O h.next x.enc 900000000 h' O' (s3.fails C) ∧ Tn K.toVK h3 h' O3 O') ?_ ?_
    · refine Wk (Wa rfl rfl ?_)
      refine Wa rfl rfl ?_
      refine Wa rfl rfl ?_
      refine Wa rfl rfl ?_
      refine We (v := .bool s3.bad) rfl X3.g rfl ?_
      refine Wa rfl rfl ?_
      cases hbd : s3.bad with
      | true =>
        refine Wb rfl ?_
        refine Wb rfl ?_
        refine Wa rfl rfl ?_
        refine Wa rfl rfl ?_
        refine Wb rfl ?_
        refine Wb rfl ?_
        refine Wa rfl rfl ?_
        refine Wa rfl rfl ?_
        refine Wb rfl ?_
        refine Wb rfl ?_
        refine Wb rfl ?_
        refine Wb rfl ?_
        refine Wb rfl ?_
        refine Wb rfl ?_
        refine Wb rfl ?_
        refine Wb rfl ?_
        refine Wb rfl ?_
        refine Wb rfl ?_
        refine Wb rfl ?_
        refine Wa rfl rfl ?_
        refine Wa rfl rfl ?_
        refine Wa rfl rfl ?_
        refine Wm (l := [.bool (true)]) rfl rfl rfl rfl X3.g (by rw [VR.cs_len]; decide) rfl fun hz nz xz gz => Wj [(0,_),(10,_),(11,_)] rfl ?_
        exact ⟨rfl,_,R3.flag X3 C xz gz (by rw [hbd,hC]; first | rfl | (simp [] <;> omega) | (simp <;> omega) | (simp_all [VS.own]))⟩
      | false =>
        refine Wd rfl ?_
        refine Wa rfl rfl ?_
        refine Wd rfl ?_
        refine Wc rfl C112 ?_
        rintro _ _ ⟨rfl,rfl⟩
        refine Wa rfl rfl ?_
        refine Wa rfl rfl ?_
        cases q2 : VS.own A with
        | true =>
          refine Wb rfl ?_
          refine Wb rfl ?_
          refine Wa rfl rfl ?_
          refine Wa rfl rfl ?_
          refine Wb rfl ?_
          refine Wb rfl ?_
          refine Wb rfl ?_
          refine Wb rfl ?_
          refine Wb rfl ?_
          refine Wb rfl ?_
          refine Wb rfl ?_
          refine Wb rfl ?_
          refine Wb rfl ?_
          refine Wb rfl ?_
          refine Wb rfl ?_
          refine Wa rfl rfl ?_
          refine Wa rfl rfl ?_
          refine Wa rfl rfl ?_
          refine Wm (l := [.bool (true)]) rfl rfl rfl rfl X3.g (by rw [VR.cs_len]; decide) rfl fun hz nz xz gz => Wj [(0,_),(10,_),(11,_)] rfl ?_
          exact ⟨rfl,_,R3.flag X3 C xz gz (by rw [hbd,hC]; first | rfl | (simp [q2] <;> omega) | (simp <;> omega) | (simp_all [VS.own]))⟩
        | false =>
          refine Wd rfl ?_
          refine Wa rfl rfl ?_
          refine Wd rfl ?_
          refine Wc rfl C112 ?_
          rintro _ _ ⟨rfl,rfl⟩
          refine Wa rfl rfl ?_
          refine Wa rfl rfl ?_
          cases q3 : VS.own B with
          | true =>
            refine Wb rfl ?_
            refine Wb rfl ?_
            refine Wb rfl ?_
            refine Wb rfl ?_
            refine Wb rfl ?_
            refine Wb rfl ?_
            refine Wb rfl ?_
            refine Wb rfl ?_
            refine Wb rfl ?_
            refine Wb rfl ?_
            refine Wb rfl ?_
            refine Wa rfl rfl ?_
            refine Wa rfl rfl ?_
            refine Wa rfl rfl ?_
            refine Wm (l := [.bool (true)]) rfl rfl rfl rfl X3.g (by rw [VR.cs_len]; decide) rfl fun hz nz xz gz => Wj [(0,_),(10,_),(11,_)] rfl ?_
            exact ⟨rfl,_,R3.flag X3 C xz gz (by rw [hbd,hC]; first | rfl | (simp [q2,q3] <;> omega) | (simp <;> omega) | (simp_all [VS.own]))⟩
          | false =>
            refine Wd rfl ?_
            refine Wa rfl rfl ?_
            refine Wd rfl ?_
            refine Wa rfl rfl ?_
            refine Wd rfl ?_
            refine Wg (w := .bool (decide (A ≠ B))) rfl rfl (by congr 1 <;> (rw [Bool.eq_iff_iff]; simp <;> omega)) ?_
            refine Wd rfl ?_
            refine Wa rfl rfl ?_
            by_cases q4 : A ≠ B
            · rw [show decide (A ≠ B) = true from decide_eq_true q4]
              refine Wd rfl ?_
              refine Wa rfl rfl ?_
              refine Wd rfl ?_
              refine Wg (w := .bool (decide (A ≠ 0))) rfl rfl (by congr 1 <;> (rw [Bool.eq_iff_iff]; simp <;> omega)) ?_
              refine Wd rfl ?_
              refine Wa rfl rfl ?_
              refine Wd rfl ?_
              refine Wa rfl rfl ?_
              by_cases q5 : A ≠ 0
              · rw [show decide (A ≠ 0) = true from decide_eq_true q5]
                refine Wd rfl ?_
                refine Wa rfl rfl ?_
                refine Wd rfl ?_
                refine Wg (w := .bool (decide (B ≠ 0))) rfl rfl (by congr 1 <;> (rw [Bool.eq_iff_iff]; simp <;> omega)) ?_
                refine Wd rfl ?_
                refine Wa rfl rfl ?_
                refine Wa rfl rfl ?_
                refine Wa rfl rfl ?_
                refine Wa rfl rfl ?_
                refine Wm (l := [.bool (decide (B ≠ 0))]) rfl rfl rfl rfl X3.g (by rw [VR.cs_len]; decide) rfl fun hz nz xz gz => Wj [(0,_),(10,_),(11,_)] rfl ?_
                exact ⟨rfl,_,R3.flag X3 C xz gz (by rw [hbd,hC]; first | rfl | (simp [q2,q3,q4,q5] <;> omega) | (simp <;> omega) | (simp_all [VS.own]))⟩
              · rw [show decide (A ≠ 0) = false from decide_eq_false q5]
                refine Wb rfl ?_
                refine Wb rfl ?_
                refine Wd rfl ?_
                refine Wa rfl rfl ?_
                refine Wa rfl rfl ?_
                refine Wa rfl rfl ?_
                refine Wa rfl rfl ?_
                refine Wm (l := [.bool (false)]) rfl rfl rfl rfl X3.g (by rw [VR.cs_len]; decide) rfl fun hz nz xz gz => Wj [(0,_),(10,_),(11,_)] rfl ?_
                exact ⟨rfl,_,R3.flag X3 C xz gz (by rw [hbd,hC]; first | rfl | (simp [q2,q3,q4,q5] <;> omega) | (simp <;> omega) | (simp_all [VS.own]))⟩
            · rw [show decide (A ≠ B) = false from decide_eq_false q4]
              refine Wb rfl ?_
              refine Wb rfl ?_
              refine Wd rfl ?_
              refine Wa rfl rfl ?_
              refine Wd rfl ?_
              refine Wa rfl rfl ?_
              refine Wb rfl ?_
              refine Wb rfl ?_
              refine Wd rfl ?_
              refine Wa rfl rfl ?_
              refine Wa rfl rfl ?_
              refine Wa rfl rfl ?_
              refine Wa rfl rfl ?_
              refine Wm (l := [.bool (false)]) rfl rfl rfl rfl X3.g (by rw [VR.cs_len]; decide) rfl fun hz nz xz gz => Wj [(0,_),(10,_),(11,_)] rfl ?_
              exact ⟨rfl,_,R3.flag X3 C xz gz (by rw [hbd,hC]; first | rfl | (simp [q2,q3,q4] <;> omega) | (simp <;> omega) | (simp_all [VS.own]))⟩
    rintro _ h4 ⟨rfl,O4,R4,t4⟩
    refine Wk (Wa rfl rfl (Wa rfl rfl (Wa rfl rfl (Wg (w := .int .u8 ((max A B : Nat) : Int)) rfl rfl (by congr 1; omega) (Wl rfl rfl fun h5 n5 x5 g5 => ?_)))))
    obtain ⟨R5,t5⟩ := R4.ext0 x5
    refine Wc rfl (R5.push ((k3.trans (VS.fails_kp C s3)).ne hne) (R4.new (l := [max A B]) (n := 1) (c := 1) n5 g5 rfl).1 (by decide) (by omega)) ?_
    rintro _ h6 ⟨O6,R6,t6⟩
    exact Wj [] rfl (fin hs R6.done)
  have c7 : ¬ (x.i.op = 27) := fun q => by rw [hd.2 q] at hc; cases hc
  clear hd hc
  refine Ww (fun e' h' => ∃ d,e' = [(0,ptr K.p),(3,ptr h.next),(4,.slice (some ⟨hb.next,0,none⟩) 1 1),(5,.int .i64 x.i.op),(169,.bool d)] ∧ h0 = h' ∧ (d = true ↔ x.i.op = 28)) ?_ ?_
  · refine Wk (Wa rfl rfl ?_)
    refine Wg (w := .bool (decide (x.i.op = 28))) rfl rfl (by congr 1 <;> (rw [Bool.eq_iff_iff]; simp <;> omega)) ?_
    refine Wa rfl rfl ?_
    exact Wj [(0,_),(3,_),(4,_),(5,_),(169,_)] rfl ⟨_,rfl,rfl,by rw [decide_eq_true_iff] <;> omega⟩
  rintro _ _ ⟨d,rfl,rfl,hd⟩
  refine Wn rfl (fun hc => ?_) (fun hc => ?_)
  · have cc := hd.1 hc
    have hs : s.oneR M K.L x.i = VS.fitsR [x.i.a % 256,x.i.a % 256,127] [x.i.a % 256] s := by
      unfold VS.oneR
      rw [if_neg c0,if_neg c1,if_neg c2,if_neg c3,if_neg c4,if_neg c5,if_neg c6,if_neg c7,if_pos cc]
    refine Wi (Wa rfl rfl (We (v := .int .u32 (x.i.a : Int)) rfl R0.g rfl (Wg (w := .int .u8 ((x.i.a % 256 : Nat) : Int)) rfl rfl (by simp [IntKind.wrap,IntKind.signed,IntKind.bits]) (Wa rfl rfl (Wh [(0,_),(12,_)] rfl ?_)))))
    refine Wk (Wa rfl rfl (Wa rfl rfl (Wa rfl rfl (Wl rfl rfl fun h3 n3 x3 g3 => ?_))))
    have sl3 : SlA h3 1 (some ⟨h0.next,0,none⟩) 3 1 (bys [x.i.a % 256,x.i.a % 256,127]) := SlA.mk' (n := 3) (c := 1) (sz := 1) (off := 0) g3 (Nat.le_refl 3) (.inr (.inr rfl))
    have f3 : Stl h3 O (some ⟨h0.next,0,none⟩) 3 1 [x.i.a % 256,x.i.a % 256,127] := ⟨sl3,fun i q => by rw [Blk.at] at q; subst q; exact ⟨by omega,fun q => by have := R0.olt _ q; omega⟩⟩
    obtain ⟨R3,t3⟩ := R0.ext0 x3
    have f4_3 := f4.turn t3.t
    refine Wa rfl rfl (Wl rfl rfl fun h4 n4 x4 g4 => ?_)
    have sl4 : SlA h4 1 (some ⟨h3.next,0,none⟩) 1 1 (bys [x.i.a % 256]) := SlA.mk' (n := 1) (c := 1) (sz := 1) (off := 0) g4 (Nat.le_refl 1) (.inr (.inr rfl))
    have f4 : Stl h4 O (some ⟨h3.next,0,none⟩) 1 1 [x.i.a % 256] := ⟨sl4,fun i q => by rw [Blk.at] at q; subst q; exact ⟨by omega,fun q => by have := R3.olt _ q; omega⟩⟩
    obtain ⟨R4,t4⟩ := R3.ext0 x4
    have f4_4 := f4_3.turn t4.t
    have f3_4 := f3.turn t4.t
    refine Wc rfl (R4.fits ((VS.Kp.refl s).ne hne) f3_4 f4 (by decide) (by decide)) ?_
    rintro _ h5 v5
    refine Wj [] rfl ?_
    exact fin hs v5
  have c8 : ¬ (x.i.op = 28) := fun q => by rw [hd.2 q] at hc; cases hc
  clear hd hc
  refine Ww (fun e' h' => ∃ d,e' = [(0,ptr K.p),(3,ptr h.next),(4,.slice (some ⟨hb.next,0,none⟩) 1 1),(5,.int .i64 x.i.op),(182,.bool d)] ∧ h0 = h' ∧ (d = true ↔ x.i.op ≥ 32 ∧ x.i.op ≤ 36)) ?_ ?_
  · refine Wk (Wa rfl rfl ?_)
    refine Wg (w := .bool (decide (x.i.op ≥ 32))) rfl rfl (by congr 1 <;> (rw [Bool.eq_iff_iff]; simp <;> omega)) ?_
    refine Wa rfl rfl ?_
    by_cases q1 : x.i.op ≥ 32
    · rw [show decide (x.i.op ≥ 32) = true from decide_eq_true q1]
      refine Wd rfl ?_
      refine Wa rfl rfl ?_
      refine Wd rfl ?_
      refine Wg (w := .bool (decide (x.i.op ≤ 36))) rfl rfl (by congr 1 <;> (rw [Bool.eq_iff_iff]; simp <;> omega)) ?_
      refine Wa rfl rfl ?_
      refine Wa rfl rfl ?_
      exact Wj [(0,_),(3,_),(4,_),(5,_),(182,_)] rfl ⟨_,rfl,rfl,by rw [decide_eq_true_iff] <;> omega⟩
    · rw [show decide (x.i.op ≥ 32) = false from decide_eq_false q1]
      refine Wb rfl ?_
      refine Wb rfl ?_
      refine Wa rfl rfl ?_
      refine Wa rfl rfl ?_
      exact Wj [(0,_),(3,_),(4,_),(5,_),(182,_)] rfl ⟨_,rfl,rfl,⟨fun q => (by cases q),fun q => by exfalso; omega⟩⟩
  rintro _ _ ⟨d,rfl,rfl,hd⟩
  refine Wn rfl (fun hc => ?_) (fun hc => ?_)
  · have cc := hd.1 hc
    have hs : s.oneR M K.L x.i = s.namesR M K.L x.i := by
      unfold VS.oneR
      rw [if_neg c0,if_neg c1,if_neg c2,if_neg c3,if_neg c4,if_neg c5,if_neg c6,if_neg c7,if_neg c8,if_pos cc]
    refine Wk (Wa rfl rfl (Xh (l := x.enc) rfl R0.g (Nat.le_refl 6) rfl (Wc rfl (C114 R0.X R0.Y wf hne hl ho ok hL cc) ?_)))
    rintro _ h2 v2
    exact Wj [] rfl (fin hs (Rg.trans R0.T v2))
  have c9 : ¬ (x.i.op ≥ 32 ∧ x.i.op ≤ 36) := fun q => by rw [hd.2 q] at hc; cases hc
  clear hd hc
  refine Ww (fun e' h' => ∃ d,e' = [(0,ptr K.p),(3,ptr h.next),(4,.slice (some ⟨hb.next,0,none⟩) 1 1),(5,.int .i64 x.i.op),(192,.bool d)] ∧ h0 = h' ∧ (d = true ↔ x.i.op = 37 ∨ x.i.op = 38 ∨ x.i.op ≥ 64524 ∧ x.i.op ≤ 64529)) ?_ ?_
  · refine Wk (Wa rfl rfl ?_)
    refine Wg (w := .bool (decide (x.i.op = 37))) rfl rfl (by congr 1 <;> (rw [Bool.eq_iff_iff]; simp <;> omega)) ?_
    refine Wa rfl rfl ?_
    by_cases q1 : x.i.op = 37
    · rw [show decide (x.i.op = 37) = true from decide_eq_true q1]
      refine Wb rfl ?_
      refine Wb rfl ?_
      refine Wa rfl rfl ?_
      refine Wa rfl rfl ?_
      refine Wb rfl ?_
      refine Wb rfl ?_
      refine Wb rfl ?_
      refine Wb rfl ?_
      refine Wb rfl ?_
      refine Wb rfl ?_
      refine Wa rfl rfl ?_
      refine Wa rfl rfl ?_
      exact Wj [(0,_),(3,_),(4,_),(5,_),(192,_)] rfl ⟨_,rfl,rfl,⟨fun _ => by omega,fun _ => rfl⟩⟩
    · rw [show decide (x.i.op = 37) = false from decide_eq_false q1]
      refine Wd rfl ?_
      refine Wa rfl rfl ?_
      refine Wd rfl ?_
      refine Wg (w := .bool (decide (x.i.op = 38))) rfl rfl (by congr 1 <;> (rw [Bool.eq_iff_iff]; simp <;> omega)) ?_
      refine Wa rfl rfl ?_
      refine Wa rfl rfl ?_
      by_cases q2 : x.i.op = 38
      · rw [show decide (x.i.op = 38) = true from decide_eq_true q2]
        refine Wb rfl ?_
        refine Wb rfl ?_
        refine Wb rfl ?_
        refine Wb rfl ?_
        refine Wb rfl ?_
        refine Wb rfl ?_
        refine Wa rfl rfl ?_
        refine Wa rfl rfl ?_
        exact Wj [(0,_),(3,_),(4,_),(5,_),(192,_)] rfl ⟨_,rfl,rfl,⟨fun _ => by omega,fun _ => rfl⟩⟩
      · rw [show decide (x.i.op = 38) = false from decide_eq_false q2]
        refine Wd rfl ?_
        refine Wa rfl rfl ?_
        refine Wd rfl ?_
        refine Wg (w := .bool (decide (x.i.op ≥ 64524))) rfl rfl (by congr 1 <;> (rw [Bool.eq_iff_iff]; simp <;> omega)) ?_
        refine Wd rfl ?_
        refine Wa rfl rfl ?_
        by_cases q3 : x.i.op ≥ 64524
        · rw [show decide (x.i.op ≥ 64524) = true from decide_eq_true q3]
          refine Wd rfl ?_
          refine Wa rfl rfl ?_
          refine Wd rfl ?_
          refine Wg (w := .bool (decide (x.i.op ≤ 64529))) rfl rfl (by congr 1 <;> (rw [Bool.eq_iff_iff]; simp <;> omega)) ?_
          refine Wd rfl ?_
          refine Wa rfl rfl ?_
          refine Wa rfl rfl ?_
          refine Wa rfl rfl ?_
          exact Wj [(0,_),(3,_),(4,_),(5,_),(192,_)] rfl ⟨_,rfl,rfl,by rw [decide_eq_true_iff] <;> omega⟩
        · rw [show decide (x.i.op ≥ 64524) = false from decide_eq_false q3]
          refine Wb rfl ?_
          refine Wb rfl ?_
          refine Wd rfl ?_
          refine Wa rfl rfl ?_
          refine Wa rfl rfl ?_
          refine Wa rfl rfl ?_
          exact Wj [(0,_),(3,_),(4,_),(5,_),(192,_)] rfl ⟨_,rfl,rfl,⟨fun q => (by cases q),fun q => by exfalso; omega⟩⟩
  rintro _ _ ⟨d,rfl,rfl,hd⟩
  refine Wn rfl (fun hc => ?_) (fun hc => ?_)
  · have cc := hd.1 hc
    have hs : s.oneR M K.L x.i = s.tablesR M x.i := by
      unfold VS.oneR
      rw [if_neg c0,if_neg c1,if_neg c2,if_neg c3,if_neg c4,if_neg c5,if_neg c6,if_neg c7,if_neg c8,if_neg c9,if_pos cc]
    refine Wk (Wa rfl rfl (Xh (l := x.enc) rfl R0.g (Nat.le_refl 6) rfl (Wc rfl (C115 R0.X R0.Y wf hne hl ho ok cc) ?_)))
    rintro _ h2 v2
    exact Wj [] rfl (fin hs (Rg.trans R0.T v2))
  have c10 : ¬ (x.i.op = 37 ∨ x.i.op = 38 ∨ x.i.op ≥ 64524 ∧ x.i.op ≤ 64529) := fun q => by rw [hd.2 q] at hc; cases hc
  clear hd hc
  refine Ww (fun e' h' => ∃ d,e' = [(0,ptr K.p),(3,ptr h.next),(4,.slice (some ⟨hb.next,0,none⟩) 1 1),(5,.int .i64 x.i.op),(210,.bool d)] ∧ h0 = h' ∧ (d = true ↔ x.i.op = 208)) ?_ ?_
  · refine Wk (Wa rfl rfl ?_)
    refine Wg (w := .bool (decide (x.i.op = 208))) rfl rfl (by congr 1 <;> (rw [Bool.eq_iff_iff]; simp <;> omega)) ?_
    refine Wa rfl rfl ?_
    exact Wj [(0,_),(3,_),(4,_),(5,_),(210,_)] rfl ⟨_,rfl,rfl,by rw [decide_eq_true_iff] <;> omega⟩
  rintro _ _ ⟨d,rfl,rfl,hd⟩
  refine Wn rfl (fun hc => ?_) (fun hc => ?_)
  · have cc := hd.1 hc
    have hs : s.oneR M K.L x.i = s.push [x.i.a % 256] := by
      unfold VS.oneR
      rw [if_neg c0,if_neg c1,if_neg c2,if_neg c3,if_neg c4,if_neg c5,if_neg c6,if_neg c7,if_neg c8,if_neg c9,if_neg c10,if_pos cc]
    refine Wk (Wa rfl rfl (Wa rfl rfl (We (v := .int .u32 (x.i.a : Int)) rfl R0.g rfl (Wg (w := .int .u8 ((x.i.a % 256 : Nat) : Int)) rfl rfl (by simp [IntKind.wrap,IntKind.signed,IntKind.bits]) (Wl rfl rfl fun h6 n6 x6 g6 => ?_)))))
    have sl6 : SlA h6 1 (some ⟨h0.next,0,none⟩) 1 1 (bys [x.i.a % 256]) := SlA.mk' (n := 1) (c := 1) (sz := 1) (off := 0) g6 (Nat.le_refl 1) (.inr (.inr rfl))
    have f6 : Stl h6 O (some ⟨h0.next,0,none⟩) 1 1 [x.i.a % 256] := ⟨sl6,fun i q => by rw [Blk.at] at q; subst q; exact ⟨by omega,fun q => by have := R0.olt _ q; omega⟩⟩
    obtain ⟨R6,t6⟩ := R0.ext0 x6
    have f4_6 := f4.turn t6.t
    refine Wc rfl (R6.push ((VS.Kp.refl s).ne hne) f6.1 (by decide) (by omega)) ?_
    rintro _ h7 ⟨O7,R7,t7⟩
    have f4_7 := f4_6.turn t7.t
    have f6_7 := f6.turn t7.t
    have k7 : VS.Kp s (s.push [x.i.a % 256]) := (VS.Kp.refl s).trans (VS.push_kp _ _)
    refine Wj [] rfl ?_
    exact fin hs R7.done
  have c11 : ¬ (x.i.op = 208) := fun q => by rw [hd.2 q] at hc; cases hc
  clear hd hc
  refine Ww (fun e' h' => ∃ d,e' = [(0,ptr K.p),(3,ptr h.next),(4,.slice (some ⟨hb.next,0,none⟩) 1 1),(5,.int .i64 x.i.op),(219,.bool d)] ∧ h0 = h' ∧ (d = true ↔ x.i.op = 209)) ?_ ?_
  · refine Wk (Wa rfl rfl ?_)
    refine Wg (w := .bool (decide (x.i.op = 209))) rfl rfl (by congr 1 <;> (rw [Bool.eq_iff_iff]; simp <;> omega)) ?_
    refine Wa rfl rfl ?_
    exact Wj [(0,_),(3,_),(4,_),(5,_),(219,_)] rfl ⟨_,rfl,rfl,by rw [decide_eq_true_iff] <;> omega⟩
  rintro _ _ ⟨d,rfl,rfl,hd⟩
  refine Wn rfl (fun hc => ?_) (fun hc => ?_)
  · have cc := hd.1 hc
    have hs : s.oneR M K.L x.i = ((s.popR 0).2.fails (decide ((s.popR 0).1 ≠ 0 ∧ ¬ ((s.popR 0).1 = 112 ∨ (s.popR 0).1 = 111)))).push [127] := by
      unfold VS.oneR
      rw [if_neg c0,if_neg c1,if_neg c2,if_neg c3,if_neg c4,if_neg c5,if_neg c6,if_neg c7,if_neg c8,if_neg c9,if_neg c10,if_neg c11,if_pos cc]
    refine Wi (Wa rfl rfl (Wc rfl (R0.pop (t := 0) hne) ?_))
    rintro _ h1 ⟨rfl,O1,R1,t1⟩
    have k1 := VS.popR_kp 0 s
    refine Wa rfl rfl (Wh [(0,_),(13,_)] rfl ?_)
    generalize hA : (s.popR 0).1 = A at hs ⊢
    generalize h1s : (s.popR 0).2 = s1 at hs R1 k1
    obtain ⟨a1,d1,oa1,oc1,ms1,X1⟩ := id R1.X
    obtain ⟨C,hC⟩ : ∃ C : Bool,C = decide (A ≠ 0 ∧ ¬ (A = 112 ∨ A = 111)) := ⟨_,rfl⟩
    rw [← hC] at hs
    refine Ww (fun e' h' => e' = [(0,ptr K.p)] ∧ ∃ O',Rq K M h O h.next x.enc 900000000 h' O' (s1.fails C) ∧ Tn K.toVK h1 h' O1 O') ?_ ?_
    · refine Wk (Wa rfl rfl ?_)
      refine Wa rfl rfl ?_
      refine Wa rfl rfl ?_
      refine Wa rfl rfl ?_
      refine We (v := .bool s1.bad) rfl X1.g rfl ?_
      refine Wa rfl rfl ?_
      cases hbd : s1.bad with
      | true =>
        refine Wb rfl ?_
        refine Wb rfl ?_
        refine Wb rfl ?_
        refine Wb rfl ?_
        refine Wb rfl ?_
        refine Wb rfl ?_
        refine Wb rfl ?_
        refine Wa rfl rfl ?_
        refine Wa rfl rfl ?_
        refine Wa rfl rfl ?_
        refine Wm (l := [.bool (true)]) rfl rfl rfl rfl X1.g (by rw [VR.cs_len]; decide) rfl fun hz nz xz gz => Wj [(0,_)] rfl ?_
        exact ⟨rfl,_,R1.flag X1 C xz gz (by rw [hbd,hC]; first | rfl | (simp [] <;> omega) | (simp <;> omega) | (simp_all [VS.own]))⟩
      | false =>
        refine Wd rfl ?_
        refine Wa rfl rfl ?_
        refine Wd rfl ?_
        refine Wg (w := .bool (decide (A ≠ 0))) rfl rfl (by congr 1 <;> (rw [Bool.eq_iff_iff]; simp <;> omega)) ?_
        refine Wd rfl ?_
        refine Wa rfl rfl ?_
        by_cases q2 : A ≠ 0
        · rw [show decide (A ≠ 0) = true from decide_eq_true q2]
          refine Wd rfl ?_
          refine Wa rfl rfl ?_
          refine Wd rfl ?_
          refine Wc rfl C112 ?_
          rintro _ _ ⟨rfl,rfl⟩
          refine Wd rfl ?_
          refine Wa rfl rfl ?_
          refine Wd rfl ?_
          refine Wa rfl rfl ?_
          refine Wa rfl rfl ?_
          refine Wa rfl rfl ?_
          refine Wa rfl rfl ?_
          refine Wm (l := [.bool (!VS.own A)]) rfl rfl rfl rfl X1.g (by rw [VR.cs_len]; decide) rfl fun hz nz xz gz => Wj [(0,_)] rfl ?_
          exact ⟨rfl,_,R1.flag X1 C xz gz (by rw [hbd,hC]; first | rfl | (simp [q2] <;> omega) | (simp <;> omega) | (simp_all [VS.own]))⟩
        · rw [show decide (A ≠ 0) = false from decide_eq_false q2]
          refine Wb rfl ?_
          refine Wb rfl ?_
          refine Wb rfl ?_
          refine Wd rfl ?_
          refine Wa rfl rfl ?_
          refine Wa rfl rfl ?_
          refine Wa rfl rfl ?_
          refine Wa rfl rfl ?_
          refine Wm (l := [.bool (false)]) rfl rfl rfl rfl X1.g (by rw [VR.cs_len]; decide) rfl fun hz nz xz gz => Wj [(0,_)] rfl ?_
          exact ⟨rfl,_,R1.flag X1 C xz gz (by rw [hbd,hC]; first | rfl | (simp [q2] <;> omega) | (simp <;> omega) | (simp_all [VS.own]))⟩
    rintro _ h4 ⟨rfl,O4,R4,t4⟩
    refine Wk (Wa rfl rfl (Wl rfl rfl fun h5 n5 x5 g5 => ?_))
    obtain ⟨R5,t5⟩ := R4.ext0 x5
    refine Wc rfl (R5.push ((k1.trans (VS.fails_kp C s1)).ne hne) (R4.new (l := [127]) (n := 1) (c := 1) n5 g5 rfl).1 (by decide) (by omega)) ?_
    rintro _ h6 ⟨O6,R6,t6⟩
    exact Wj [] rfl (fin hs R6.done)
  have c12 : ¬ (x.i.op = 209) := fun q => by rw [hd.2 q] at hc; cases hc
  clear hd hc
  refine Ww (fun e' h' => ∃ d,e' = [(0,ptr K.p),(3,ptr h.next),(4,.slice (some ⟨hb.next,0,none⟩) 1 1),(5,.int .i64 x.i.op),(243,.bool d)] ∧ h0 = h' ∧ (d = true ↔ x.i.op = 210)) ?_ ?_
  · refine Wk (Wa rfl rfl ?_)
    refine Wg (w := .bool (decide (x.i.op = 210))) rfl rfl (by congr 1 <;> (rw [Bool.eq_iff_iff]; simp <;> omega)) ?_
    refine Wa rfl rfl ?_
    exact Wj [(0,_),(3,_),(4,_),(5,_),(243,_)] rfl ⟨_,rfl,rfl,by rw [decide_eq_true_iff] <;> omega⟩
  rintro _ _ ⟨d,rfl,rfl,hd⟩
  refine Wn rfl (fun hc => ?_) (fun hc => ?_)
  · have cc := hd.1 hc
    have hs : s.oneR M K.L x.i = (s.fails (decide (¬ x.i.a < M.decl.length ∨ M.decl.getD x.i.a false = false))).push [112] := by
      unfold VS.oneR
      rw [if_neg c0,if_neg c1,if_neg c2,if_neg c3,if_neg c4,if_neg c5,if_neg c6,if_neg c7,if_neg c8,if_neg c9,if_neg c10,if_neg c11,if_neg c12,if_pos cc]
    rw [← hD] at hs
    have hdl := Y.dl
    have hds := Y.sz.2.1
    rw [← hD] at hdl
    obtain ⟨a0,d0,oa0,oc0,ms0,X0⟩ := id R0.X
    obtain ⟨C,hC⟩ : ∃ C : Bool,C = decide (¬ x.i.a < K.D.length ∨ K.D.getD x.i.a false = false) := ⟨_,rfl⟩
    rw [← hC] at hs
    refine Ww (fun e' h' => e' = [(0,ptr K.p)] ∧ ∃ O',Rq K M h O h.next x.enc 900000000 h' O' (s.fails C) ∧ Tn K.toVK h0 h' O O') ?_ ?_
    · refine Wk (Wa rfl rfl ?_)
      refine Wa rfl rfl ?_
      refine Wa rfl rfl ?_
      refine Wa rfl rfl ?_
      refine We (v := .bool s.bad) rfl X0.g rfl ?_
      refine Wa rfl rfl ?_
      cases hbd : s.bad with
      | true =>
        refine Wb rfl ?_
        refine Wb rfl ?_
        refine Wb rfl ?_
        refine Wb rfl ?_
        refine Wb rfl ?_
        refine Wb rfl ?_
        refine Wb rfl ?_
        refine Wb rfl ?_
        refine Wb rfl ?_
        refine Wb rfl ?_
        refine Wa rfl rfl ?_
        refine Wa rfl rfl ?_
        refine Wb rfl ?_
        refine Wb rfl ?_
        refine Wb rfl ?_
        refine Wb rfl ?_
        refine Wb rfl ?_
        refine Wb rfl ?_
        refine Wb rfl ?_
        refine Wb rfl ?_
        refine Wb rfl ?_
        refine Wa rfl rfl ?_
        refine Wa rfl rfl ?_
        refine Wa rfl rfl ?_
        refine Wm (l := [.bool (true)]) rfl rfl rfl rfl X0.g (by rw [VR.cs_len]; decide) rfl fun hz nz xz gz => Wj [(0,_)] rfl ?_
        exact ⟨rfl,_,R0.flag X0 C xz gz (by rw [hbd,hC]; first | rfl | (simp [] <;> omega) | (simp <;> omega) | (simp_all [VS.own]))⟩
      | false =>
        refine Wd rfl ?_
        refine Wa rfl rfl ?_
        refine Wd rfl ?_
        refine We (v := .int .u32 (x.i.a : Int)) rfl R0.g rfl ?_
        refine Wd rfl ?_
        refine Wg (w := .int .u64 ((x.i.a : Nat) : Int)) rfl rfl (by rw [Qd (by omega)]) ?_
        refine Wd rfl ?_
        refine Wa rfl rfl ?_
        refine Wd rfl ?_
        refine Wa rfl rfl ?_
        refine Wd rfl ?_
        refine Wa rfl rfl ?_
        refine Wd rfl ?_
        refine We (v := .slice K.da K.D.length K.dc) rfl X0.g rfl ?_
        refine Wd rfl ?_
        refine Wa rfl rfl ?_
        refine Wd rfl ?_
        refine Wg (w := .int .u64 ((K.D.length : Nat) : Int)) rfl rfl (by rw [Qd (by omega)]) ?_
        refine Wd rfl ?_
        refine Wg (w := .bool (decide (x.i.a ≥ K.D.length))) rfl rfl (by congr 1 <;> (rw [Bool.eq_iff_iff]; simp <;> omega)) ?_
        refine Wa rfl rfl ?_
        refine Wa rfl rfl ?_
        by_cases q2 : x.i.a ≥ K.D.length
        · rw [show decide (x.i.a ≥ K.D.length) = true from decide_eq_true q2]
          refine Wb rfl ?_
          refine Wb rfl ?_
          refine Wb rfl ?_
          refine Wb rfl ?_
          refine Wb rfl ?_
          refine Wb rfl ?_
          refine Wb rfl ?_
          refine Wb rfl ?_
          refine Wb rfl ?_
          refine Wa rfl rfl ?_
          refine Wa rfl rfl ?_
          refine Wa rfl rfl ?_
          refine Wm (l := [.bool (true)]) rfl rfl rfl rfl X0.g (by rw [VR.cs_len]; decide) rfl fun hz nz xz gz => Wj [(0,_)] rfl ?_
          exact ⟨rfl,_,R0.flag X0 C xz gz (by rw [hbd,hC]; first | rfl | (simp [q2] <;> omega) | (simp <;> omega) | (simp_all [VS.own]))⟩
        · rw [show decide (x.i.a ≥ K.D.length) = false from decide_eq_false q2]
          refine Wd rfl ?_
          refine Wa rfl rfl ?_
          refine Wd rfl ?_
          refine Wa rfl rfl ?_
          refine Wd rfl ?_
          refine Wa rfl rfl ?_
          refine Wd rfl ?_
          refine We (v := .slice K.da K.D.length K.dc) rfl X0.g rfl ?_
          refine Wd rfl ?_
          refine Wa rfl rfl ?_
          refine Wd rfl ?_
          refine We (v := .int .u32 (x.i.a : Int)) rfl R0.g rfl ?_
          refine Wd rfl ?_
          have hel : x.i.a < K.D.length := by omega
          refine Wops_idxG (u := .bool (K.D.getD x.i.a false)) rfl rfl X0.dec.1 ⟨by omega,by omega⟩ (by rw [Int.toNat_natCast,List.getElem?_map,List.getElem?_eq_getElem hel]; simp [List.getD,hel]) (fun p => rfl) fun p => ?_
          refine Wd rfl ?_
          refine Wa rfl rfl ?_
          refine Wa rfl rfl ?_
          refine Wa rfl rfl ?_
          refine Wa rfl rfl ?_
          refine Wm (l := [.bool (!K.D.getD x.i.a false)]) rfl rfl rfl rfl X0.g (by rw [VR.cs_len]; decide) rfl fun hz nz xz gz => Wj [(0,_)] rfl ?_
          exact ⟨rfl,_,R0.flag X0 C xz gz (by rw [hbd,hC]; first | rfl | (simp [q2] <;> omega) | (simp <;> omega) | (simp_all [VS.own]))⟩
    rintro _ h4 ⟨rfl,O4,R4,t4⟩
    refine Wk (Wa rfl rfl (Wl rfl rfl fun h5 n5 x5 g5 => ?_))
    obtain ⟨R5,t5⟩ := R4.ext0 x5
    refine Wc rfl (R5.push ((VS.fails_kp C s).ne hne) (R4.new (l := [112]) (n := 1) (c := 1) n5 g5 rfl).1 (by decide) (by omega)) ?_
    rintro _ h6 ⟨O6,R6,t6⟩
    exact Wj [] rfl (fin hs R6.done)
  have c13 : ¬ (x.i.op = 210) := fun q => by rw [hd.2 q] at hc; cases hc
  clear hd hc
  refine Ww (fun e' h' => ∃ d,e' = [(0,ptr K.p),(3,ptr h.next),(4,.slice (some ⟨hb.next,0,none⟩) 1 1),(5,.int .i64 x.i.op),(279,.bool d)] ∧ h0 = h' ∧ (d = true ↔ x.i.op = 65)) ?_ ?_
  · refine Wk (Wa rfl rfl ?_)
    refine Wg (w := .bool (decide (x.i.op = 65))) rfl rfl (by congr 1 <;> (rw [Bool.eq_iff_iff]; simp <;> omega)) ?_
    refine Wa rfl rfl ?_
    exact Wj [(0,_),(3,_),(4,_),(5,_),(279,_)] rfl ⟨_,rfl,rfl,by rw [decide_eq_true_iff] <;> omega⟩
  rintro _ _ ⟨d,rfl,rfl,hd⟩
  refine Wn rfl (fun hc => ?_) (fun hc => ?_)
  · have cc := hd.1 hc
    have hs : s.oneR M K.L x.i = s.push [127] := by
      unfold VS.oneR
      rw [if_neg c0,if_neg c1,if_neg c2,if_neg c3,if_neg c4,if_neg c5,if_neg c6,if_neg c7,if_neg c8,if_neg c9,if_neg c10,if_neg c11,if_neg c12,if_neg c13,if_pos cc]
    refine Wk (Wa rfl rfl (Wl rfl rfl fun h8 n8 x8 g8 => ?_))
    have sl8 : SlA h8 1 (some ⟨h0.next,0,none⟩) 1 1 (bys [127]) := SlA.mk' (n := 1) (c := 1) (sz := 1) (off := 0) g8 (Nat.le_refl 1) (.inr (.inr rfl))
    have f8 : Stl h8 O (some ⟨h0.next,0,none⟩) 1 1 [127] := ⟨sl8,fun i q => by rw [Blk.at] at q; subst q; exact ⟨by omega,fun q => by have := R0.olt _ q; omega⟩⟩
    obtain ⟨R8,t8⟩ := R0.ext0 x8
    have f4_8 := f4.turn t8.t
    refine Wc rfl (R8.push ((VS.Kp.refl s).ne hne) f8.1 (by decide) (by omega)) ?_
    rintro _ h9 ⟨O9,R9,t9⟩
    have f4_9 := f4_8.turn t9.t
    have f8_9 := f8.turn t9.t
    have k9 : VS.Kp s (s.push [127]) := (VS.Kp.refl s).trans (VS.push_kp _ _)
    refine Wj [] rfl ?_
    exact fin hs R9.done
  have c14 : ¬ (x.i.op = 65) := fun q => by rw [hd.2 q] at hc; cases hc
  clear hd hc
  refine Ww (fun e' h' => ∃ d,e' = [(0,ptr K.p),(3,ptr h.next),(4,.slice (some ⟨hb.next,0,none⟩) 1 1),(5,.int .i64 x.i.op),(285,.bool d)] ∧ h0 = h' ∧ (d = true ↔ x.i.op = 66)) ?_ ?_
  · refine Wk (Wa rfl rfl ?_)
    refine Wg (w := .bool (decide (x.i.op = 66))) rfl rfl (by congr 1 <;> (rw [Bool.eq_iff_iff]; simp <;> omega)) ?_
    refine Wa rfl rfl ?_
    exact Wj [(0,_),(3,_),(4,_),(5,_),(285,_)] rfl ⟨_,rfl,rfl,by rw [decide_eq_true_iff] <;> omega⟩
  rintro _ _ ⟨d,rfl,rfl,hd⟩
  refine Wn rfl (fun hc => ?_) (fun hc => ?_)
  · have cc := hd.1 hc
    have hs : s.oneR M K.L x.i = s.push [126] := by
      unfold VS.oneR
      rw [if_neg c0,if_neg c1,if_neg c2,if_neg c3,if_neg c4,if_neg c5,if_neg c6,if_neg c7,if_neg c8,if_neg c9,if_neg c10,if_neg c11,if_neg c12,if_neg c13,if_neg c14,if_pos cc]
    refine Wk (Wa rfl rfl (Wl rfl rfl fun h10 n10 x10 g10 => ?_))
    have sl10 : SlA h10 1 (some ⟨h0.next,0,none⟩) 1 1 (bys [126]) := SlA.mk' (n := 1) (c := 1) (sz := 1) (off := 0) g10 (Nat.le_refl 1) (.inr (.inr rfl))
    have f10 : Stl h10 O (some ⟨h0.next,0,none⟩) 1 1 [126] := ⟨sl10,fun i q => by rw [Blk.at] at q; subst q; exact ⟨by omega,fun q => by have := R0.olt _ q; omega⟩⟩
    obtain ⟨R10,t10⟩ := R0.ext0 x10
    have f4_10 := f4.turn t10.t
    refine Wc rfl (R10.push ((VS.Kp.refl s).ne hne) f10.1 (by decide) (by omega)) ?_
    rintro _ h11 ⟨O11,R11,t11⟩
    have f4_11 := f4_10.turn t11.t
    have f10_11 := f10.turn t11.t
    have k11 : VS.Kp s (s.push [126]) := (VS.Kp.refl s).trans (VS.push_kp _ _)
    refine Wj [] rfl ?_
    exact fin hs R11.done
  have c15 : ¬ (x.i.op = 66) := fun q => by rw [hd.2 q] at hc; cases hc
  clear hd hc
  refine Ww (fun e' h' => ∃ d,e' = [(0,ptr K.p),(3,ptr h.next),(4,.slice (some ⟨hb.next,0,none⟩) 1 1),(5,.int .i64 x.i.op),(291,.bool d)] ∧ h0 = h' ∧ (d = true ↔ x.i.op = 63)) ?_ ?_
  · refine Wk (Wa rfl rfl ?_)
    refine Wg (w := .bool (decide (x.i.op = 63))) rfl rfl (by congr 1 <;> (rw [Bool.eq_iff_iff]; simp <;> omega)) ?_
    refine Wa rfl rfl ?_
    exact Wj [(0,_),(3,_),(4,_),(5,_),(291,_)] rfl ⟨_,rfl,rfl,by rw [decide_eq_true_iff] <;> omega⟩
  rintro _ _ ⟨d,rfl,rfl,hd⟩
  refine Wn rfl (fun hc => ?_) (fun hc => ?_)
  · have cc := hd.1 hc
    have hs : s.oneR M K.L x.i = (s.memory M).push [127] := by
      unfold VS.oneR
      rw [if_neg c0,if_neg c1,if_neg c2,if_neg c3,if_neg c4,if_neg c5,if_neg c6,if_neg c7,if_neg c8,if_neg c9,if_neg c10,if_neg c11,if_neg c12,if_neg c13,if_neg c14,if_neg c15,if_pos cc]
    refine Wi (Wa rfl rfl (Wc rfl (R0.memory ((VS.Kp.refl s).ne hne)) ?_))
    rintro _ h12 ⟨O12,R12,t12⟩
    have f4_12 := f4.turn t12.t
    have k12 : VS.Kp s (s.memory M) := (VS.Kp.refl s).trans (VS.memory_kp _ _)
    refine Wh [(0,_)] rfl ?_
    refine Wk (Wa rfl rfl (Wl rfl rfl fun h13 n13 x13 g13 => ?_))
    have sl13 : SlA h13 1 (some ⟨h12.next,0,none⟩) 1 1 (bys [127]) := SlA.mk' (n := 1) (c := 1) (sz := 1) (off := 0) g13 (Nat.le_refl 1) (.inr (.inr rfl))
    have f13 : Stl h13 O12 (some ⟨h12.next,0,none⟩) 1 1 [127] := ⟨sl13,fun i q => by rw [Blk.at] at q; subst q; exact ⟨by omega,fun q => by have := R12.olt _ q; omega⟩⟩
    obtain ⟨R13,t13⟩ := R12.ext0 x13
    have f4_13 := f4_12.turn t13.t
    refine Wc rfl (R13.push (k12.ne hne) f13.1 (by decide) (by omega)) ?_
    rintro _ h14 ⟨O14,R14,t14⟩
    have f4_14 := f4_13.turn t14.t
    have f13_14 := f13.turn t14.t
    have k14 : VS.Kp s ((s.memory M).push [127]) := k12.trans (VS.push_kp _ _)
    refine Wj [] rfl ?_
    exact fin hs R14.done
  have c16 : ¬ (x.i.op = 63) := fun q => by rw [hd.2 q] at hc; cases hc
  clear hd hc
  refine Ww (fun e' h' => ∃ d,e' = [(0,ptr K.p),(3,ptr h.next),(4,.slice (some ⟨hb.next,0,none⟩) 1 1),(5,.int .i64 x.i.op),(299,.bool d)] ∧ h0 = h' ∧ (d = true ↔ x.i.op = 64)) ?_ ?_
  · refine Wk (Wa rfl rfl ?_)
    refine Wg (w := .bool (decide (x.i.op = 64))) rfl rfl (by congr 1 <;> (rw [Bool.eq_iff_iff]; simp <;> omega)) ?_
    refine Wa rfl rfl ?_
    exact Wj [(0,_),(3,_),(4,_),(5,_),(299,_)] rfl ⟨_,rfl,rfl,by rw [decide_eq_true_iff] <;> omega⟩
  rintro _ _ ⟨d,rfl,rfl,hd⟩
  refine Wn rfl (fun hc => ?_) (fun hc => ?_)
  · have cc := hd.1 hc
    have hs : s.oneR M K.L x.i = VS.fitsR [127] [127] (s.memory M) := by
      unfold VS.oneR
      rw [if_neg c0,if_neg c1,if_neg c2,if_neg c3,if_neg c4,if_neg c5,if_neg c6,if_neg c7,if_neg c8,if_neg c9,if_neg c10,if_neg c11,if_neg c12,if_neg c13,if_neg c14,if_neg c15,if_neg c16,if_pos cc]
    refine Wi (Wa rfl rfl (Wc rfl (R0.memory ((VS.Kp.refl s).ne hne)) ?_))
    rintro _ h15 ⟨O15,R15,t15⟩
    have f4_15 := f4.turn t15.t
    have k15 : VS.Kp s (s.memory M) := (VS.Kp.refl s).trans (VS.memory_kp _ _)
    refine Wh [(0,_),(4,_)] rfl ?_
    refine Wk (Wa rfl rfl (Wa rfl rfl (Wa rfl rfl (Wc rfl (R15.fits (k15.ne hne) f4_15 f4_15 (by decide) (by decide)) ?_))))
    rintro _ h16 v16
    refine Wj [] rfl ?_
    exact fin hs v16
  have c17 : ¬ (x.i.op = 64) := fun q => by rw [hd.2 q] at hc; cases hc
  clear hd hc
  refine Ww (fun e' h' => ∃ d,e' = [(0,ptr K.p),(3,ptr h.next),(5,.int .i64 x.i.op),(308,.bool d)] ∧ h0 = h' ∧ (d = true ↔ VS.width x.i.op > 0)) ?_ ?_
  · refine Wk (Wa rfl rfl (Wc rfl (C102 kn) ?_))
    rintro _ _ ⟨rfl,rfl⟩
    exact Wg (w := .bool (decide (VS.width x.i.op > 0))) rfl rfl (by congr 1 <;> (rw [Bool.eq_iff_iff]; simp <;> omega)) (Wa rfl rfl (Wj [(0,_),(3,_),(5,_),(308,_)] rfl ⟨_,rfl,rfl,by rw [decide_eq_true_iff]⟩))
  rintro _ _ ⟨d,rfl,rfl,hd⟩
  refine Wn rfl (fun hc => ?_) (fun hc => ?_)
  · have cc := hd.1 hc
    have hs : s.oneR M K.L x.i = s.movesR M x.i := by
      unfold VS.oneR
      rw [if_neg c0,if_neg c1,if_neg c2,if_neg c3,if_neg c4,if_neg c5,if_neg c6,if_neg c7,if_neg c8,if_neg c9,if_neg c10,if_neg c11,if_neg c12,if_neg c13,if_neg c14,if_neg c15,if_neg c16,if_neg c17,if_pos cc]
    refine Wk (Wa rfl rfl (Xh (l := x.enc) rfl R0.g (Nat.le_refl 6) rfl (Wc rfl (C117 R0.X R0.Y wf hne hl ho ok (kn.moves cc)) ?_)))
    rintro _ h2 v2
    exact Wj [] rfl (fin hs (Rg.trans R0.T v2))
  have c18 : ¬ (VS.width x.i.op > 0) := fun q => by rw [hd.2 q] at hc; cases hc
  clear hd hc
  refine Ww (fun e' h' => ∃ d,e' = [(0,ptr K.p),(3,ptr h.next),(5,.int .i64 x.i.op),(315,.bool d)] ∧ h0 = h' ∧ (d = true ↔ x.i.op ≥ 64520 ∧ x.i.op ≤ 64523)) ?_ ?_
  · refine Wk (Wa rfl rfl ?_)
    refine Wg (w := .bool (decide (x.i.op ≥ 64520))) rfl rfl (by congr 1 <;> (rw [Bool.eq_iff_iff]; simp <;> omega)) ?_
    refine Wa rfl rfl ?_
    by_cases q1 : x.i.op ≥ 64520
    · rw [show decide (x.i.op ≥ 64520) = true from decide_eq_true q1]
      refine Wd rfl ?_
      refine Wa rfl rfl ?_
      refine Wd rfl ?_
      refine Wg (w := .bool (decide (x.i.op ≤ 64523))) rfl rfl (by congr 1 <;> (rw [Bool.eq_iff_iff]; simp <;> omega)) ?_
      refine Wa rfl rfl ?_
      refine Wa rfl rfl ?_
      exact Wj [(0,_),(3,_),(5,_),(315,_)] rfl ⟨_,rfl,rfl,by rw [decide_eq_true_iff] <;> omega⟩
    · rw [show decide (x.i.op ≥ 64520) = false from decide_eq_false q1]
      refine Wb rfl ?_
      refine Wb rfl ?_
      refine Wa rfl rfl ?_
      refine Wa rfl rfl ?_
      exact Wj [(0,_),(3,_),(5,_),(315,_)] rfl ⟨_,rfl,rfl,⟨fun q => (by cases q),fun q => by exfalso; omega⟩⟩
  rintro _ _ ⟨d,rfl,rfl,hd⟩
  refine Wn rfl (fun hc => ?_) (fun hc => ?_)
  · have cc := hd.1 hc
    have hs : s.oneR M K.L x.i = s.bulkR M x.i := by
      unfold VS.oneR
      rw [if_neg c0,if_neg c1,if_neg c2,if_neg c3,if_neg c4,if_neg c5,if_neg c6,if_neg c7,if_neg c8,if_neg c9,if_neg c10,if_neg c11,if_neg c12,if_neg c13,if_neg c14,if_neg c15,if_neg c16,if_neg c17,if_neg c18,if_pos cc]
    refine Wk (Wa rfl rfl (Xh (l := x.enc) rfl R0.g (Nat.le_refl 6) rfl (Wc rfl (C118 R0.X R0.Y wf hne hl ho ok hcn) ?_)))
    rintro _ h2 v2
    exact Wj [] rfl (fin hs (Rg.trans R0.T v2))
  have c19 : ¬ (x.i.op ≥ 64520 ∧ x.i.op ≤ 64523) := fun q => by rw [hd.2 q] at hc; cases hc
  clear hd hc
  have hs : s.oneR M K.L x.i = VS.numR x.i.op s := by
    unfold VS.oneR
    rw [if_neg c0,if_neg c1,if_neg c2,if_neg c3,if_neg c4,if_neg c5,if_neg c6,if_neg c7,if_neg c8,if_neg c9,if_neg c10,if_neg c11,if_neg c12,if_neg c13,if_neg c14,if_neg c15,if_neg c16,if_neg c17,if_neg c18,if_neg c19]
  refine Wk (Wa rfl rfl (Wa rfl rfl (Wc rfl (C119 R0.X hne wf hl ho) ?_)))
  rintro _ h2 v2
  exact Wj [] rfl (fin hs (Rg.trans R0.T v2))
end

end
section
/- The document's checker: a body. -/
theorem Qk {P : Program} {d : Option Nat} {r : List SOp} {e : Env} {h : Heap} {Q : Env → Heap → Prop} {off id ez n t : Nat} {a : Arg} {vs l : List Value} {ro : Bool} (ha : a.ev e = some (.pointer (some ⟨id,off,none⟩))) (ht : e.get t = some (.agg ⟨l⟩)) (hg : h.get id = some (.cells vs ez ro)) (hl : off + n ≤ vs.length) (hv : (vs.drop off).take n = l) (hs : Yh (.agg ⟨l⟩) (.agg ⟨l⟩) = true) (hq : Xe P r (e.put d Xg) h Q) :
    Xe P (⟨d,none,.chk n true a t⟩ :: r) e h Q := by
  refine Wa (v := Xg) (h' := h) rfl ?_ hq
  have hb : (off + n).ble vs.length = true := Nat.ble_eq_true_of_le hl
  simp only [SO.run,ha,ht,ldV,rd,hg,hb,cond_true,hv,Option.map_some,hs]
theorem VS.runR_cons (M : Mo) (L : List Nat) (x : Ins) (r : List Ins) (s : VS) : VS.runR M L (x :: r) s = if s.bad = true then false else if s.op = [] then false else VS.runR M L r (s.oneR M L x) := rfl
structure VS.Gs (s : VS) (i : Nat) : Prop where
  w : VS.Wf s
  z : VS.LP VS.short s
  zb : VS.LP VS.byt s
  zn : VS.NZ s
  l : s.l.length ≤ 8008 * i
  p : s.op.length ≤ i + 1
theorem VS.one_gs {M : Mo} (hM : VS.Mo.Lp VS.short M) (hMb : VS.Mo.Lp VS.byt M) (hMn : VS.Mo.Lp VS.nz M) (hd : M.decl.length = M.funcs.length) (L : List Nat) (x : Ins) (hx : x.l.length ≤ 1000) (hn : x.op = 2 ∨ x.op = 3 ∨ x.op = 4 → VS.nz [((x.t + 128) % 256).toNat]) {s : VS} {i : Nat} (g : VS.Gs s i) (h : s.op ≠ []) (hb : (s.oneR M L x).bad = false) : VS.Gs (s.oneR M L x) (i + 1) := by
  rcases VS.one_al M L x g.w h g.zn hd with ⟨a,_⟩ | a
  · rw [a] at hb; cases hb
  rw [a]
  have gs := VS.one_gd (P := VS.short) hM L x s (fun _ => by show 1 ≤ 8; omega) g.w h
  have gb := VS.one_gd (P := VS.byt) hMb L x s (fun _ t q => by
    rw [List.mem_singleton] at q; subst q
    omega) g.w h
  have gn := VS.one_gd (P := VS.nz) hMn L x s hn g.w h
  have gr := VS.one_gr hM L x h g.z
  have ol := VS.one_ol (M := M) L x h
  unfold VS.Gr at gr
  unfold VS.Ol at ol
  have := g.l
  have := g.p
  exact ⟨gs.1,gs.2 g.z,gb.2 g.zb,gn.2 g.zn,by omega,by omega⟩
theorem C19 {h : Heap} {m : M13} {M : Mo} {ps L0 rs : List Nat} {pa ra la ba : Option Addr} {pc rc lc bc : Nat} {bl : List IM} (Y : MoY h M m.l) (hM : VS.Mo.Lp VS.short M) (hMb : VS.Mo.Lp VS.byt M) (hMn : VS.Mo.Lp VS.nz M) (hdl : M.decl.length = M.funcs.length) (hsame : Yh (.agg ⟨m.l⟩) (.agg ⟨m.l⟩) = true) (hcn : M.count < 18446744073709551616)
    (dR : ∀ h',h.next ≤ h'.next → (∀ i,i < h.next → h'.get i = h.get i) → Fn Try.prog 61 [.agg ⟨m.l⟩] h' fun v h'' => ∃ a c,v = .slice a M.decl.length c ∧ SlA h'' 1 a M.decl.length c (M.decl.map Value.bool) ∧ (∀ i,Blk a i → i < h''.next) ∧ Xk h' h'')
    (sp : SlA h 1 pa ps.length pc (bys ps)) (bp : ∀ i,Blk pa i → i < h.next) (sr : SlA h 1 ra rs.length rc (bys rs)) (br : ∀ i,Blk ra i → i < h.next) (sl : SlA h 1 la L0.length lc (bys L0)) (bl' : ∀ i,Blk la i → i < h.next) (sb : SlA h 6 ba bl.length bc (en IM.enc bl)) (bb : ∀ i,Blk ba i → i < h.next) (si : ∀ x ∈ bl,x.Lies h) (sn : ∀ x ∈ bl,x.i.op = 2 ∨ x.i.op = 3 ∨ x.i.op = 4 → VS.nz [((x.i.t + 128) % 256).toNat])
    (hp : ps.length ≤ 400000) (hl0 : L0.length ≤ 400000) (hr : rs.length ≤ 8) (hrb : VS.byt rs) (hrn : VS.nz rs) (hb : bl.length ≤ 100000) :
    Fn Try.prog 19 [.agg ⟨m.l⟩,.agg ⟨[.slice pa ps.length pc,.slice ra rs.length rc]⟩,.agg ⟨[.slice la L0.length lc,.slice ba bl.length bc]⟩] h fun v h' => v = .int .i64 (if VS.runR M (ps ++ L0) (bl.map IM.i) (VS.start rs) = true then 0 else 6) ∧ Xk h h' := by
  refine fnK F19.fok rfl ?_
  refine Wi (Xp (cs := m.l) rfl rfl fun h1 n1 x1 g1 => Xp (cs := [.slice pa ps.length pc,.slice ra rs.length rc]) rfl rfl fun h2 n2 x2 g2 => Xp (cs := [.slice la L0.length lc,.slice ba bl.length bc]) rfl rfl fun h3 n3 x3 g3 => Wa rfl rfl (Wh [(3,_),(4,_),(5,_)] rfl ?_))
  have x02 : Xk h h2 := x1.then0 x2
  have x03 : Xk h h3 := x02.then0 x3
  have g13 : At h3 h.next (.cells m.l 0 false) := At.ext (At.ext g1 x2 (fun q => q)) x3 (fun q => q)
  have g23 : At h3 h1.next (.cells [.slice pa ps.length pc,.slice ra rs.length rc] 0 false) := At.ext g2 x3 (fun q => q)
  replace g3 : At h3 h2.next (.cells [.slice la L0.length lc,.slice ba bl.length bc] 0 false) := g3
  refine Wi (Xh (l := m.l) rfl g13 (Nat.le_refl 13) rfl (Wl (l := []) rfl rfl fun h4 n4 x4 g4 => ?_))
  have x04 := x03.then0 x4
  have g14 := g13.ext x4 fun q => q
  have g24 := g23.ext x4 fun q => q
  have g34 := g3.ext x4 fun q => q
  refine Wa rfl rfl (We (v := .slice pa ps.length pc) rfl g24 rfl (Wa rfl rfl (We (v := .slice la L0.length lc) rfl g34 rfl (Xh (l := m.l) rfl g14 (Nat.le_refl 13) rfl ?_))))
  refine Zf rfl rfl (OwS.new (n := 0) g4 rfl) rfl (sp.ext x04).first ⟨by omega,by omega⟩ (by simp) (Vy _) (by decide) fun h5 a5 c5 x5 o5 b5 => ?_
  have x35 : Xk h3 h5 := x4.then x5 fun i q => .inr (by rw [Blk.at] at q; omega)
  have g15 := g13.ext x35 fun q => q
  have g35 := g3.ext x35 fun q => q
  refine Qk rfl rfl g15 (Nat.le_refl 13) rfl hsame (Vi (v := .slice la L0.length lc) rfl rfl g35 rfl sl.same (Qk rfl rfl g15 (Nat.le_refl 13) rfl hsame ?_))
  refine Zf rfl rfl o5 rfl ((sl.ext x03).ext x35).first ⟨by omega,by omega⟩ (by simp) (Vy _) (by decide) fun h6 a6 c6 x6 o6 b6 => ?_
  have x36 : Xk h3 h6 := x35.then x6 fun i q => (b5 i q).elim (fun r => .inr (by rw [Blk.at] at r; omega)) fun r => .inr (by omega)
  have x06 := x03.then0 x36
  have g16 := g13.ext x36 fun q => q
  refine Qk rfl rfl g16 (Nat.le_refl 13) rfl hsame (Qk rfl rfl g16 (Nat.le_refl 13) rfl hsame (Wc rfl (dR h6 x06.next fun i hi => x06.get i hi fun e => e) ?_))
  rintro _ h7 ⟨da,dc,rfl,sd,bd,x7⟩
  have x37 := x36.then0 x7
  have g17 := g13.ext x37 fun q => q
  refine Qk rfl rfl g17 (Nat.le_refl 13) rfl hsame ?_
  have eS : [] ++ bys ps ++ bys L0 = bys (ps ++ L0) := by simp
  have eN : 0 + ps.length + L0.length = (ps ++ L0).length := by simp
  rw [eS,eN] at o6
  rw [eN]
  have x07 := x06.then0 x7
  generalize hK : (⟨⟨h7.next,h.next,a6,c6,ps ++ L0,fun j => j < h7.next⟩,m,da,dc,M.decl⟩ : VR) = K
  refine Wa rfl rfl (Xp (cs := K.cs Zy Zy (.bool false)) rfl (by subst hK; rfl) fun h8 n8 x8 g8 => Wa rfl rfl (Wh [(4,_),(5,_),(7,_)] rfl ?_))
  have x08 := x07.then0 x8
  have x38 := x37.then0 x8
  have e1 : K.p = h7.next := by subst hK; rfl
  have e2 : K.pm = h.next := by subst hK; rfl
  have e3 : K.L = ps ++ L0 := by subst hK; rfl
  have e4 : ∀ j,K.R j ↔ j < h7.next := by subst hK; exact fun j => Iff.rfl
  have e5 : K.m = m := by subst hK; rfl
  have e6 : K.D = M.decl := by subst hK; rfl
  have hn37 := x37.next
  have hn67 := x7.next
  have g18 := g13.ext x38 fun q => q
  have g28 := g23.ext x38 fun q => q
  have g38 := g3.ext x38 fun q => q
  have X0 : Rk K h8 (fun j => j = h7.next) ⟨[],[],false⟩ := by
    refine ⟨none,0,none,0,[],rfl,?_,OwS.none,OwS.none,fun i q => ?_,fun i q => ?_,fun i q r => ?_,fun i q => ?_,Blk.none,Blk.none,fun i q => absurd q Blk.none,fun m hm => (by cases hm),?_,?_⟩
    · rw [e1]; exact g8
    · rcases q with q | q | q
      · rw [e1] at q; exact q
      · exact absurd q Blk.none
      · exact absurd q Blk.none
    · have q' : i = h7.next := q
      omega
    · rw [e4] at r
      rcases q with q | q | q
      · rw [e1] at q; omega
      · exact absurd q Blk.none
      · exact absurd q Blk.none
    · rw [e4] at q; omega
    · subst hK
      refine ⟨(o6.sl.ext x7).ext x8,fun i q => ⟨?_,fun r => ?_⟩⟩
      · have := o6.lt q; show i < h8.next; omega
      · have := o6.lt q
        have r' : i = h7.next := r
        omega
    · subst hK
      refine ⟨sd.ext x8,fun i q => ⟨?_,fun r => ?_⟩⟩
      · have := bd i q; show i < h8.next; omega
      · have := bd i q
        have r' : i = h7.next := r
        omega
  have Y0 : MoX h8 (fun j => j = h7.next) K.pm M K.m.l := by
    rw [e2,e5]
    have hnx := x07.next
    refine Y h8 _ h.next x08.next (fun i hi => x08.get i hi fun e => e) (fun i q => ?_) g18 (fun q => ?_)
    · have q' : i = h7.next := q
      omega
    · have q' : h.next = h7.next := q
      have := x03.next
      omega
  have sr8 : Stl h8 (fun j => j = h7.next) ra rs.length rc rs := ⟨sr.ext x08,fun i q => ⟨by have := br i q; have := x08.next; omega,fun r => by have r' : i = h7.next := r; have := br i q; have := x07.next; omega⟩⟩
  rw [← e1]
  refine Wi (Wa rfl rfl (Wa rfl rfl (We (v := .slice ra rs.length rc) rfl g28 rfl (Wc rfl (C62 (op := 2) X0 Stl.none sr8 ⟨by decide,by decide⟩ (by decide)) ?_))))
  rintro _ h9 ⟨O9,X9,t9⟩
  refine Wh [(5,_),(7,_)] rfl ?_
  have es : VS.opens 2 [] rs ⟨[],[],false⟩ = VS.start rs := rfl
  rw [es] at X9
  have Y9 := Y0.turn t9.t
  have x79 : Xk h7 h9 := ⟨by have := x8.next; have := t9.t.ext.next; omega,fun i hi _ => by rw [t9.k i ((e4 i).2 hi),x8.get i hi fun e => e]⟩
  have o9 : ∀ i,O9 i → h7.next ≤ i := fun i q => (t9.t.own i q).elim (fun r => by have r' : i = h7.next := r; omega) fun r => by have := x8.next; omega
  have g3_ : ∀ {h' : Heap},Xk h7 h' → At h' h2.next (.cells [.slice la L0.length lc,.slice ba bl.length bc] 0 false) := fun x => (g3.ext x37 fun q => q).ext x fun q => q
  refine Ww (fun e' h' => (∃ r,e' = (5,ptr h2.next) :: (7,ptr K.p) :: r ∨ e' = [(7,ptr K.p)]) ∧ ∃ (O' : Nat → Prop) (s : VS),Rk K h' O' s ∧ Xk h7 h' ∧ VS.runR M (ps ++ L0) (bl.map IM.i) (VS.start rs) = (!s.bad && decide (s.op = []))) ?_ ?_
  · refine Wi (Wa rfl rfl (Wh [(5,_),(7,_),(8,_)] rfl ?_))
    refine Yw ?_
    refine Ym (fun k e h' => ∃ (i : Nat) (O' : Nat → Prop) (s : VS),e = [(5,ptr h2.next),(7,ptr K.p),(8,.int .i64 (i : Int))] ∧ i ≤ bl.length ∧ k = bl.length - i ∧
      Rk K h' O' s ∧ MoX h' O' K.pm M K.m.l ∧ (s.bad = false → VS.Gs s i) ∧ Xk h7 h' ∧ (∀ j,O' j → h7.next ≤ j) ∧ VS.runR M (ps ++ L0) (bl.map IM.i) (VS.start rs) = VS.runR M (ps ++ L0) ((bl.map IM.i).drop i) s) ?_ (k := bl.length) ⟨0,O9,_,rfl,by omega,rfl,X9,Y9,fun _ => ?_,x79,o9,rfl⟩
    rotate_left
    · have g0 : ∀ {P : List Nat → Prop},P [] → P rs → VS.LP P (VS.start rs) := fun p q b hb => by
        have hb' : b ∈ [(⟨2,[],rs,0,false⟩ : VB)] := hb
        rw [List.mem_singleton] at hb'; subst hb'; exact ⟨p,q⟩
      exact ⟨(VS.start_ok rs hrn).1,g0 (by show 0 ≤ 8; omega) hr,g0 (fun t q => by cases q) hrb,(VS.start_ok rs hrn).2.2.1,Nat.zero_le _,Nat.le_refl _⟩
    rintro k e' h10 ⟨i,O10,s,rfl,hi,rfl,X10,Y10,q10,x10,o10,r10⟩
    have g310 := g3_ x10
    obtain ⟨a1,d1,oa1,oc1,ms1,XX⟩ := id X10
    refine Xd (Ww (fun e' h' => ∃ d,e' = [(5,ptr h2.next),(7,ptr K.p),(8,.int .i64 (i : Int)),(36,.bool d)] ∧ h10 = h' ∧ (d = true ↔ i < bl.length ∧ s.bad = false)) ?_ ?_)
    · refine Wk (Wa rfl rfl (Wa rfl rfl (We (v := .slice ba bl.length bc) rfl g310 rfl (Wa rfl rfl (Wg (w := .bool (decide (i < bl.length))) rfl rfl (by congr 1 <;> (rw [Bool.eq_iff_iff]; simp <;> omega)) (Wa rfl rfl ?_))))))
      by_cases hil : i < bl.length
      · rw [decide_eq_true hil]
        refine Wd rfl (Wa rfl rfl (Wd rfl (Wa rfl rfl (Wd rfl (Wa rfl rfl (Wd rfl (We (v := .bool s.bad) rfl XX.g rfl (Wd rfl (Wa rfl rfl (Wa rfl rfl (Wj [(5,_),(7,_),(8,_),(36,_)] rfl ⟨_,rfl,rfl,by simp [hil]⟩)))))))))))
      · rw [decide_eq_false hil]
        exact Wb rfl (Wb rfl (Wb rfl (Wb rfl (Wb rfl (Wa rfl rfl (Wj [(5,_),(7,_),(8,_),(36,_)] rfl ⟨_,rfl,rfl,by simp [hil]⟩))))))
    rintro _ _ ⟨d,rfl,rfl,hd⟩
    refine Wp rfl (fun hc => ?_) (fun hc => ?_)
    · obtain ⟨hil,hbf⟩ := hd.1 hc
      have G10 := q10 hbf
      have l10 := G10.l
      have p10 := G10.p
      have hx08 := x07.next
      obtain ⟨sLx,bLx,okx,knx⟩ := si _ (List.getElem_mem hil)
      have snx := sn _ (List.getElem_mem hil)
      generalize hx : bl[i] = x at sLx bLx okx knx snx
      have x010 := x07.then0 x10
      have er : (bl.map IM.i).drop i = x.i :: (bl.map IM.i).drop (i + 1) := by
        rw [List.drop_eq_getElem_cons (by simpa using hil)]
        simp [hx]
      rw [er] at r10
      rw [VS.runR_cons] at r10
      rw [if_neg (show ¬ s.bad = true by rw [hbf]; simp)] at r10
      refine Wt (Xa ?_)
      refine Xd (Wi (Wa rfl rfl (Wa rfl rfl (Wa rfl rfl (We (v := .slice oa1 s.op.length oc1) rfl XX.g rfl (Wa rfl rfl (Wg (w := .bool (decide (s.op = []))) rfl rfl (by congr 1; rw [Bool.eq_iff_iff]; simp) (Wh [(5,_),(7,_),(8,_),(44,_)] rfl ?_))))))))
      refine Wp rfl (fun hc2 => ?_) (fun hc2 => ?_)
      · have he := of_decide_eq_true hc2
        rw [if_pos he] at r10
        refine Xd (Wi (Wa rfl rfl (Wa rfl rfl (Wa rfl rfl (Wm (l := [.bool true]) rfl rfl rfl rfl XX.g (by rw [VR.cs_len]; decide) rfl fun h11 n11 x11 g11 => Wh [(7,_)] rfl ?_)))))
        obtain ⟨O11,X11,t11⟩ := XX.bad1 x11 g11
        refine Xv (bx_ne rfl (Xu ?_))
        refine ⟨⟨[],.inr rfl⟩,O11,s.fails true,X11,⟨by have := x10.next; have := t11.t.ext.next; omega,fun j hj _ => by rw [t11.k j ((e4 j).2 hj),x10.get j hj fun e => e]⟩,?_⟩
        rw [r10]; simp [VS.fails]
      · have hne : s.op ≠ [] := by simpa using hc2
        rw [if_neg hne] at r10
        refine Wt (Wk (Wa rfl rfl (Wa rfl rfl (We (v := .slice ba bl.length bc) rfl g310 rfl (Wa rfl rfl (Kb IM.enc_len rfl rfl (sb.ext x010) rfl hil fun p => ?_))))))
        rw [hx]
        refine Wc rfl (C63 X10 Y10 G10.w hne (by omega) (by omega) okx knx G10.z G10.zb (sLx.ext x010) (fun j q => ⟨by have := bLx j q; have := x010.next; omega,fun r => by have := o10 j r; have := bLx j q; omega⟩) (by rw [e3,List.length_append]; omega) e6 hcn) ?_
        rintro _ h11 ⟨O11,X11,t11⟩
        rw [e3] at X11
        have x711 : Xk h7 h11 := ⟨by have := x10.next; have := t11.t.ext.next; omega,fun j hj _ => by rw [t11.k j ((e4 j).2 hj),x10.get j hj fun e => e]⟩
        have o11 : ∀ j,O11 j → h7.next ≤ j := fun j q => (t11.t.own j q).elim (o10 j) fun r => by have := x10.next; omega
        refine Wj [(5,_),(7,_),(8,_)] rfl ?_
        refine Wk (Wa rfl rfl (Wa rfl rfl (Wa rfl rfl (Wj [(5,_),(7,_),(8,_)] rfl ?_))))
        exact ⟨bl.length - (i + 1),by omega,i + 1,O11,_,by rw [Ju (by omega)],by omega,rfl,X11,Y10.turn t11.t,fun hb => VS.one_gs hM hMb hMn hdl _ _ okx.ll snx G10 hne hb,x711,o11,r10⟩
    · have hd2 : ¬ (i < bl.length ∧ s.bad = false) := fun q => by rw [hd.2 q] at hc; cases hc
      refine Xv (Xu ?_)
      refine ⟨⟨_,.inl rfl⟩,O10,s,X10,x10,?_⟩
      rw [r10]
      by_cases hil : i < bl.length
      · have hb1 : s.bad = true := by cases hb : s.bad with | true => rfl | false => exact absurd ⟨hil,hb⟩ hd2
        rw [List.drop_eq_getElem_cons (by simpa using hil)]
        unfold VS.runR
        rw [if_pos hb1,hb1]; rfl
      · rw [List.drop_eq_nil_iff.2 (by simp; omega)]; rfl
  · rintro e' h12 ⟨he,O12,s,X12,x12,r12⟩
    obtain ⟨a2,d2,oa2,oc2,ms2,XX⟩ := X12
    have xE : Xk h h12 := x07.then0 x12
    refine Xd (Ww (fun e' h' => (∃ d : Bool,e' = [(66,.bool d)] ∧ d = !(!s.bad && decide (s.op = []))) ∧ h12 = h') ?_ ?_)
    · have hG : ∀ {e' : Env},e'.get 7 = some (ptr K.p) → True := fun _ => trivial
      rcases he with ⟨r,rfl | rfl⟩
      all_goals
        refine Wk (Wa rfl rfl (Wa rfl rfl (Wa rfl rfl (We (v := .bool s.bad) rfl XX.g rfl (Wa rfl rfl ?_)))))
        cases cb : s.bad with
        | true =>
          exact Wb rfl (Wb rfl (Wb rfl (Wb rfl (Wb rfl (Wb rfl (Wa rfl rfl (Wj [(66,_)] rfl ⟨⟨true,rfl,by simp⟩,rfl⟩)))))))
        | false =>
          exact Wd rfl (Wa rfl rfl (Wd rfl (Wa rfl rfl (Wd rfl (Wa rfl rfl (Wd rfl (We (v := .slice oa2 s.op.length oc2) rfl XX.g rfl (Wd rfl (Wa rfl rfl (Wd rfl (Wg (w := .bool (decide (s.op ≠ []))) rfl rfl (by congr 1; rw [Bool.eq_iff_iff]; simp [← List.length_pos_iff]) (Wa rfl rfl (Wj [(66,_)] rfl ⟨⟨decide (s.op ≠ []),rfl,by simp⟩,rfl⟩)))))))))))))
    rintro _ _ ⟨⟨d,rfl,hd⟩,rfl⟩
    refine Wp rfl (fun hc => ?_) (fun hc => ?_)
    · refine Xd (Wi (Wa rfl rfl (Wh [(6,_)] rfl ?_)))
      refine Xo (Wx.mk _ rfl ⟨?_,xE⟩)
      have : (!s.bad && decide (s.op = [])) = false := by
        rw [hc] at hd
        cases hq : (!s.bad && decide (s.op = []))
        · rfl
        · rw [hq] at hd; cases hd
      rw [r12,this]; rfl
    · refine Wt (Wi (Wa rfl rfl (Wh [(6,_)] rfl ?_)))
      refine Xn (Wx.mk _ rfl ⟨?_,xE⟩)
      have : (!s.bad && decide (s.op = [])) = true := by
        rw [hc] at hd
        cases hq : (!s.bad && decide (s.op = []))
        · rw [hq] at hd; cases hd
        · rfl
      rw [r12,this]; rfl

end
end Go.Dx.SYtpkefdoleieloaa
