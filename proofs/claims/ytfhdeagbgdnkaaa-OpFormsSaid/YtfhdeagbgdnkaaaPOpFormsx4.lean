-- PRINTED BY print.sh 35421559b90ae4d0a3588c463048766b98c2df88dd9212a6774a882060cdf62d: not written by this session
import Derived.Test.YtfhdeagbgdnkaaaPOpFormsx0
import Derived.Test.YtfhdeagbgdnkaaaPOpFormsx1
import Derived.Test.YtfhdeagbgdnkaaaPOpFormsx2
import Derived.Test.YtfhdeagbgdnkaaaPOpFormsx3
namespace Go.Proofs.Ytfhdeagbgdnkaaa.POpForms
open Go.RowKit Go.Proofs.YtfhdeagbgdnkaaaW.PrintWords Go.Proofs.YtfhdeagbgdnkaaaW.PrintLast Go.Proofs.YtfhdeagbgdnkaaaW.PrintMore
attribute [local go_sem] max2_int min2_int max_two min_two max_three min_three max_four min_four   -- for this text's walks alone
set_option linter.unusedVariables false
set_option linter.unusedSimpArgs false

/-! ### op_Kind: function 16 -/
mutual
def op_Kind.j0 : Nat → Int → Int → Bool → Option (Int × Int)
  | 0, _, _, _ => none
  | k + 1, x0, x4, x5 => if x5 = true then (some (1, 0)) else (if x4 = 17 then (op_Kind.j1 k x0 x4 (x4 == 17)) else (if x4 = 64524 then (op_Kind.j1 k x0 x4 (x4 == 64524)) else (if x4 = 64526 then (op_Kind.j1 k x0 x4 (x4 == 64526)) else (if x4 = 64520 then (op_Kind.j1 k x0 x4 (x4 == 64520)) else (op_Kind.j1 k x0 x4 (x4 == 64522))))))
def op_Kind.j1 : Nat → Int → Int → Bool → Option (Int × Int)
  | 0, _, _, _ => none
  | k + 1, x0, x4, x25 => if x25 = true then (some (2, 0)) else (if x4 = 65 then (some (3, 0)) else (if x4 = 66 then (some (4, 0)) else (if x4 = 2 then (op_Kind.j2 k x0 x4 (x4 == 2)) else (if x4 = 3 then (op_Kind.j2 k x0 x4 (x4 == 3)) else (op_Kind.j2 k x0 x4 (x4 == 4))))))
def op_Kind.j2 : Nat → Int → Int → Bool → Option (Int × Int)
  | 0, _, _, _ => none
  | k + 1, x0, x4, x35 => if x35 = true then (some (6, 0)) else (if x4 = 14 then (some (7, 0)) else (if x4 = 28 then (some (8, 0)) else (if x4 = 208 then (some (8, 0)) else ((op_Width.f k x0).bind fun t101 => (if t101 > 0 then (some (5, 0)) else (if x0 ≥ 0 then ((op_none.f k x0).bind fun t102 => (op_Kind.j3 k x0 t102)) else (op_Kind.j3 k x0 false)))))))
def op_Kind.j3 : Nat → Int → Bool → Option (Int × Int)
  | 0, _, _ => none
  | k + 1, x0, x48 => if x48 = true then (some (0, 0)) else ((op_float.f k x0).bind fun t103 => (if t103 = true then (some (0, 5)) else (some (0, 2))))
end
def op_Kind.f (k : Nat) (a0 : Int) : Option (Int × Int) := if a0 = 12 then (op_Kind.j0 k a0 a0 (a0 == 12)) else (if a0 = 13 then (op_Kind.j0 k a0 a0 (a0 == 13)) else (if a0 = 16 then (op_Kind.j0 k a0 a0 (a0 == 16)) else (if a0 = 32 then (op_Kind.j0 k a0 a0 (a0 == 32)) else (if a0 = 33 then (op_Kind.j0 k a0 a0 (a0 == 33)) else (if a0 = 34 then (op_Kind.j0 k a0 a0 (a0 == 34)) else (if a0 = 35 then (op_Kind.j0 k a0 a0 (a0 == 35)) else (if a0 = 36 then (op_Kind.j0 k a0 a0 (a0 == 36)) else (if a0 = 37 then (op_Kind.j0 k a0 a0 (a0 == 37)) else (if a0 = 38 then (op_Kind.j0 k a0 a0 (a0 == 38)) else (if a0 = 210 then (op_Kind.j0 k a0 a0 (a0 == 210)) else (if a0 = 64521 then (op_Kind.j0 k a0 a0 (a0 == 64521)) else (if a0 = 64525 then (op_Kind.j0 k a0 a0 (a0 == 64525)) else (if a0 = 64527 then (op_Kind.j0 k a0 a0 (a0 == 64527)) else (if a0 = 64528 then (op_Kind.j0 k a0 a0 (a0 == 64528)) else (if a0 = 64529 then (op_Kind.j0 k a0 a0 (a0 == 64529)) else (if a0 = 63 then (op_Kind.j0 k a0 a0 (a0 == 63)) else (if a0 = 64 then (op_Kind.j0 k a0 a0 (a0 == 64)) else (op_Kind.j0 k a0 a0 (a0 == 64523)))))))))))))))))))
theorem op_Kind.mono_l : ∀ k, (∀ y0 y1 y2, LeO (op_Kind.j0 k y0 y1 y2) (op_Kind.j0 (k + 1) y0 y1 y2)) ∧ (∀ y0 y1 y2, LeO (op_Kind.j1 k y0 y1 y2) (op_Kind.j1 (k + 1) y0 y1 y2)) ∧ (∀ y0 y1 y2, LeO (op_Kind.j2 k y0 y1 y2) (op_Kind.j2 (k + 1) y0 y1 y2)) ∧ (∀ y0 y1, LeO (op_Kind.j3 k y0 y1) (op_Kind.j3 (k + 1) y0 y1))
  | 0 => ⟨fun _ _ _ r h => by simp [op_Kind.j0] at h, fun _ _ _ r h => by simp [op_Kind.j1] at h, fun _ _ _ r h => by simp [op_Kind.j2] at h, fun _ _ r h => by simp [op_Kind.j3] at h⟩
  | k + 1 => by
    obtain ⟨ih0, ih1, ih2, ih3⟩ := op_Kind.mono_l k
    refine ⟨?_, ?_, ?_, ?_⟩
    · intro y0 y1 y2
      unfold op_Kind.j0
      repeat' first
      | (with_reducible exact ih0 _ _ _)
      | (with_reducible exact ih1 _ _ _)
      | (with_reducible exact ih2 _ _ _)
      | (with_reducible exact ih3 _ _)
      | (with_reducible exact op_Width.mono _ _)
      | (with_reducible exact op_float.mono _ _)
      | (with_reducible exact op_none.mono _ _)
      | (with_reducible exact LeO.refl _)
      | (with_reducible exact LeO.none _)
      | (with_reducible refine LeO.ite ?_ ?_)
      | (with_reducible refine LeO.bind ?_ (fun _ => ?_))
      | exact ih0 _ _ _
      | exact ih1 _ _ _
      | exact ih2 _ _ _
      | exact ih3 _ _
      | exact op_Width.mono _ _
      | exact op_float.mono _ _
      | exact op_none.mono _ _
      | exact LeO.none _
      | refine LeO.ite ?_ ?_
      | refine LeO.bind ?_ (fun _ => ?_)
    · intro y0 y1 y2
      unfold op_Kind.j1
      repeat' first
      | (with_reducible exact ih0 _ _ _)
      | (with_reducible exact ih1 _ _ _)
      | (with_reducible exact ih2 _ _ _)
      | (with_reducible exact ih3 _ _)
      | (with_reducible exact op_Width.mono _ _)
      | (with_reducible exact op_float.mono _ _)
      | (with_reducible exact op_none.mono _ _)
      | (with_reducible exact LeO.refl _)
      | (with_reducible exact LeO.none _)
      | (with_reducible refine LeO.ite ?_ ?_)
      | (with_reducible refine LeO.bind ?_ (fun _ => ?_))
      | exact ih0 _ _ _
      | exact ih1 _ _ _
      | exact ih2 _ _ _
      | exact ih3 _ _
      | exact op_Width.mono _ _
      | exact op_float.mono _ _
      | exact op_none.mono _ _
      | exact LeO.none _
      | refine LeO.ite ?_ ?_
      | refine LeO.bind ?_ (fun _ => ?_)
    · intro y0 y1 y2
      unfold op_Kind.j2
      repeat' first
      | (with_reducible exact ih0 _ _ _)
      | (with_reducible exact ih1 _ _ _)
      | (with_reducible exact ih2 _ _ _)
      | (with_reducible exact ih3 _ _)
      | (with_reducible exact op_Width.mono _ _)
      | (with_reducible exact op_float.mono _ _)
      | (with_reducible exact op_none.mono _ _)
      | (with_reducible exact LeO.refl _)
      | (with_reducible exact LeO.none _)
      | (with_reducible refine LeO.ite ?_ ?_)
      | (with_reducible refine LeO.bind ?_ (fun _ => ?_))
      | exact ih0 _ _ _
      | exact ih1 _ _ _
      | exact ih2 _ _ _
      | exact ih3 _ _
      | exact op_Width.mono _ _
      | exact op_float.mono _ _
      | exact op_none.mono _ _
      | exact LeO.none _
      | refine LeO.ite ?_ ?_
      | refine LeO.bind ?_ (fun _ => ?_)
    · intro y0 y1
      unfold op_Kind.j3
      repeat' first
      | (with_reducible exact ih0 _ _ _)
      | (with_reducible exact ih1 _ _ _)
      | (with_reducible exact ih2 _ _ _)
      | (with_reducible exact ih3 _ _)
      | (with_reducible exact op_Width.mono _ _)
      | (with_reducible exact op_float.mono _ _)
      | (with_reducible exact op_none.mono _ _)
      | (with_reducible exact LeO.refl _)
      | (with_reducible exact LeO.none _)
      | (with_reducible refine LeO.ite ?_ ?_)
      | (with_reducible refine LeO.bind ?_ (fun _ => ?_))
      | exact ih0 _ _ _
      | exact ih1 _ _ _
      | exact ih2 _ _ _
      | exact ih3 _ _
      | exact op_Width.mono _ _
      | exact op_float.mono _ _
      | exact op_none.mono _ _
      | exact LeO.none _
      | refine LeO.ite ?_ ?_
      | refine LeO.bind ?_ (fun _ => ?_)
theorem op_Kind.mono : ∀ a0 k, LeO (op_Kind.f k a0) (op_Kind.f (k + 1) a0) := by
  intro a0 k
  obtain ⟨ih0, ih1, ih2, ih3⟩ := op_Kind.mono_l k
  unfold op_Kind.f
  repeat' first
      | (with_reducible exact ih0 _ _ _)
      | (with_reducible exact ih1 _ _ _)
      | (with_reducible exact ih2 _ _ _)
      | (with_reducible exact ih3 _ _)
      | (with_reducible exact op_Width.mono _ _)
      | (with_reducible exact op_float.mono _ _)
      | (with_reducible exact op_none.mono _ _)
      | (with_reducible exact LeO.refl _)
      | (with_reducible exact LeO.none _)
      | (with_reducible refine LeO.ite ?_ ?_)
      | (with_reducible refine LeO.bind ?_ (fun _ => ?_))
      | exact ih0 _ _ _
      | exact ih1 _ _ _
      | exact ih2 _ _ _
      | exact ih3 _ _
      | exact op_Width.mono _ _
      | exact op_float.mono _ _
      | exact op_none.mono _ _
      | exact LeO.none _
      | refine LeO.ite ?_ ?_
      | refine LeO.bind ?_ (fun _ => ?_)
set_option maxHeartbeats 8000000 in
set_option maxRecDepth 100000 in
theorem op_Kind.calls (k : Nat) (a0 : Int) (r1 : Int) (r2 : Int) (w : World) (h : op_Kind.f k a0 = some (r1, r2)) :
    Calls Try.prog 16 #[.int .i64 a0] w fun e w' => e = .returned (.tuple #[.int .i64 r1, .int .i64 r2]) ∧ Drawn0 w w' := by
  have H : (if a0 = 12 then (op_Kind.j0 k a0 a0 (a0 == 12)) else (if a0 = 13 then (op_Kind.j0 k a0 a0 (a0 == 13)) else (if a0 = 16 then (op_Kind.j0 k a0 a0 (a0 == 16)) else (if a0 = 32 then (op_Kind.j0 k a0 a0 (a0 == 32)) else (if a0 = 33 then (op_Kind.j0 k a0 a0 (a0 == 33)) else (if a0 = 34 then (op_Kind.j0 k a0 a0 (a0 == 34)) else (if a0 = 35 then (op_Kind.j0 k a0 a0 (a0 == 35)) else (if a0 = 36 then (op_Kind.j0 k a0 a0 (a0 == 36)) else (if a0 = 37 then (op_Kind.j0 k a0 a0 (a0 == 37)) else (if a0 = 38 then (op_Kind.j0 k a0 a0 (a0 == 38)) else (if a0 = 210 then (op_Kind.j0 k a0 a0 (a0 == 210)) else (if a0 = 64521 then (op_Kind.j0 k a0 a0 (a0 == 64521)) else (if a0 = 64525 then (op_Kind.j0 k a0 a0 (a0 == 64525)) else (if a0 = 64527 then (op_Kind.j0 k a0 a0 (a0 == 64527)) else (if a0 = 64528 then (op_Kind.j0 k a0 a0 (a0 == 64528)) else (if a0 = 64529 then (op_Kind.j0 k a0 a0 (a0 == 64529)) else (if a0 = 63 then (op_Kind.j0 k a0 a0 (a0 == 63)) else (if a0 = 64 then (op_Kind.j0 k a0 a0 (a0 == 64)) else (op_Kind.j0 k a0 a0 (a0 == 64523)))))))))))))))))))) = some (r1, r2) := h
  clear h
  have HC2 := Aside0.mk H
  clear H
  go_enter Try.func16, Try.ntmps16
  go_upto_if 5 with (fail)
  go_cut [5] (fun v5 wc => ∃ (kq : Nat) (x5_1 : Bool), v5 = .bool x5_1 ∧ Aside0 (op_Kind.j0 kq a0 a0 x5_1 = some (r1, r2)) ∧ Aside0 (kq ≤ k) ∧ Drawn0 w wc)
  case first =>
    have H := HC2.out
    clear HC2
    by_cases c3 : a0 = 12
    · rw [if_pos c3] at H
      have c3b0 : (a0 == 12) = true := beq_iff_eq.mpr c3
      have c3b1 : (a0 != 12) = false := bne_eq_false_iff_eq.mpr c3
      clear c3
      (first | rw [c3b0] | (simp only [i64_w, i32_w]; rw [c3b0]) | skip)
      have H' := Aside0.mk H
      clear H
      go_wp2
      go_meet
      case rel => exact ⟨_, ((a0 == 12)), (by first | rfl | (simp; done) | (simp [*]; done)), H', ⟨by first | omega | exact Nat.le_refl _⟩, by repeat (first | exact Drawn0.refl _ | apply Drawn0.step)⟩
    · rw [if_neg c3] at H
      have c3b0 : (a0 == 12) = false := beq_eq_false_iff_ne.mpr c3
      have c3b1 : (a0 != 12) = true := bne_iff_ne.mpr c3
      (first | rw [c3b0] | (simp only [i64_w, i32_w]; rw [c3b0]) | skip)
      by_cases c4 : a0 = 13
      · rw [if_pos c4] at H
        have c4b0 : (a0 == 13) = true := beq_iff_eq.mpr c4
        have c4b1 : (a0 != 13) = false := bne_eq_false_iff_eq.mpr c4
        clear c4
        have H' := Aside0.mk H
        clear H
        go_wp2
        go_meet
        case rel => exact ⟨_, ((a0 == 13)), (by first | rfl | (simp; done) | (simp [*]; done)), H', ⟨by first | omega | exact Nat.le_refl _⟩, by repeat (first | exact Drawn0.refl _ | apply Drawn0.step)⟩
      · rw [if_neg c4] at H
        have c4b0 : (a0 == 13) = false := beq_eq_false_iff_ne.mpr c4
        have c4b1 : (a0 != 13) = true := bne_iff_ne.mpr c4
        by_cases c5 : a0 = 16
        · rw [if_pos c5] at H
          have c5b0 : (a0 == 16) = true := beq_iff_eq.mpr c5
          have c5b1 : (a0 != 16) = false := bne_eq_false_iff_eq.mpr c5
          clear c5
          have H' := Aside0.mk H
          clear H
          go_wp2
          go_meet
          case rel => exact ⟨_, ((a0 == 16)), (by first | rfl | (simp; done) | (simp [*]; done)), H', ⟨by first | omega | exact Nat.le_refl _⟩, by repeat (first | exact Drawn0.refl _ | apply Drawn0.step)⟩
        · rw [if_neg c5] at H
          have c5b0 : (a0 == 16) = false := beq_eq_false_iff_ne.mpr c5
          have c5b1 : (a0 != 16) = true := bne_iff_ne.mpr c5
          by_cases c6 : a0 = 32
          · rw [if_pos c6] at H
            have c6b0 : (a0 == 32) = true := beq_iff_eq.mpr c6
            have c6b1 : (a0 != 32) = false := bne_eq_false_iff_eq.mpr c6
            clear c6
            have H' := Aside0.mk H
            clear H
            go_wp2
            go_meet
            case rel => exact ⟨_, ((a0 == 32)), (by first | rfl | (simp; done) | (simp [*]; done)), H', ⟨by first | omega | exact Nat.le_refl _⟩, by repeat (first | exact Drawn0.refl _ | apply Drawn0.step)⟩
          · rw [if_neg c6] at H
            have c6b0 : (a0 == 32) = false := beq_eq_false_iff_ne.mpr c6
            have c6b1 : (a0 != 32) = true := bne_iff_ne.mpr c6
            by_cases c7 : a0 = 33
            · rw [if_pos c7] at H
              have c7b0 : (a0 == 33) = true := beq_iff_eq.mpr c7
              have c7b1 : (a0 != 33) = false := bne_eq_false_iff_eq.mpr c7
              clear c7
              have H' := Aside0.mk H
              clear H
              go_wp2
              go_meet
              case rel => exact ⟨_, ((a0 == 33)), (by first | rfl | (simp; done) | (simp [*]; done)), H', ⟨by first | omega | exact Nat.le_refl _⟩, by repeat (first | exact Drawn0.refl _ | apply Drawn0.step)⟩
            · rw [if_neg c7] at H
              have c7b0 : (a0 == 33) = false := beq_eq_false_iff_ne.mpr c7
              have c7b1 : (a0 != 33) = true := bne_iff_ne.mpr c7
              by_cases c8 : a0 = 34
              · rw [if_pos c8] at H
                have c8b0 : (a0 == 34) = true := beq_iff_eq.mpr c8
                have c8b1 : (a0 != 34) = false := bne_eq_false_iff_eq.mpr c8
                clear c8
                have H' := Aside0.mk H
                clear H
                go_wp2
                go_meet
                case rel => exact ⟨_, ((a0 == 34)), (by first | rfl | (simp; done) | (simp [*]; done)), H', ⟨by first | omega | exact Nat.le_refl _⟩, by repeat (first | exact Drawn0.refl _ | apply Drawn0.step)⟩
              · rw [if_neg c8] at H
                have c8b0 : (a0 == 34) = false := beq_eq_false_iff_ne.mpr c8
                have c8b1 : (a0 != 34) = true := bne_iff_ne.mpr c8
                by_cases c9 : a0 = 35
                · rw [if_pos c9] at H
                  have c9b0 : (a0 == 35) = true := beq_iff_eq.mpr c9
                  have c9b1 : (a0 != 35) = false := bne_eq_false_iff_eq.mpr c9
                  clear c9
                  have H' := Aside0.mk H
                  clear H
                  go_wp2
                  go_meet
                  case rel => exact ⟨_, ((a0 == 35)), (by first | rfl | (simp; done) | (simp [*]; done)), H', ⟨by first | omega | exact Nat.le_refl _⟩, by repeat (first | exact Drawn0.refl _ | apply Drawn0.step)⟩
                · rw [if_neg c9] at H
                  have c9b0 : (a0 == 35) = false := beq_eq_false_iff_ne.mpr c9
                  have c9b1 : (a0 != 35) = true := bne_iff_ne.mpr c9
                  by_cases c10 : a0 = 36
                  · rw [if_pos c10] at H
                    have c10b0 : (a0 == 36) = true := beq_iff_eq.mpr c10
                    have c10b1 : (a0 != 36) = false := bne_eq_false_iff_eq.mpr c10
                    clear c10
                    have H' := Aside0.mk H
                    clear H
                    go_wp2
                    go_meet
                    case rel => exact ⟨_, ((a0 == 36)), (by first | rfl | (simp; done) | (simp [*]; done)), H', ⟨by first | omega | exact Nat.le_refl _⟩, by repeat (first | exact Drawn0.refl _ | apply Drawn0.step)⟩
                  · rw [if_neg c10] at H
                    have c10b0 : (a0 == 36) = false := beq_eq_false_iff_ne.mpr c10
                    have c10b1 : (a0 != 36) = true := bne_iff_ne.mpr c10
                    by_cases c11 : a0 = 37
                    · rw [if_pos c11] at H
                      have c11b0 : (a0 == 37) = true := beq_iff_eq.mpr c11
                      have c11b1 : (a0 != 37) = false := bne_eq_false_iff_eq.mpr c11
                      clear c11
                      have H' := Aside0.mk H
                      clear H
                      go_wp2
                      go_meet
                      case rel => exact ⟨_, ((a0 == 37)), (by first | rfl | (simp; done) | (simp [*]; done)), H', ⟨by first | omega | exact Nat.le_refl _⟩, by repeat (first | exact Drawn0.refl _ | apply Drawn0.step)⟩
                    · rw [if_neg c11] at H
                      have c11b0 : (a0 == 37) = false := beq_eq_false_iff_ne.mpr c11
                      have c11b1 : (a0 != 37) = true := bne_iff_ne.mpr c11
                      by_cases c12 : a0 = 38
                      · rw [if_pos c12] at H
                        have c12b0 : (a0 == 38) = true := beq_iff_eq.mpr c12
                        have c12b1 : (a0 != 38) = false := bne_eq_false_iff_eq.mpr c12
                        clear c12
                        have H' := Aside0.mk H
                        clear H
                        go_wp2
                        go_meet
                        case rel => exact ⟨_, ((a0 == 38)), (by first | rfl | (simp; done) | (simp [*]; done)), H', ⟨by first | omega | exact Nat.le_refl _⟩, by repeat (first | exact Drawn0.refl _ | apply Drawn0.step)⟩
                      · rw [if_neg c12] at H
                        have c12b0 : (a0 == 38) = false := beq_eq_false_iff_ne.mpr c12
                        have c12b1 : (a0 != 38) = true := bne_iff_ne.mpr c12
                        by_cases c13 : a0 = 210
                        · rw [if_pos c13] at H
                          have c13b0 : (a0 == 210) = true := beq_iff_eq.mpr c13
                          have c13b1 : (a0 != 210) = false := bne_eq_false_iff_eq.mpr c13
                          clear c13
                          have H' := Aside0.mk H
                          clear H
                          go_wp2
                          go_meet
                          case rel => exact ⟨_, ((a0 == 210)), (by first | rfl | (simp; done) | (simp [*]; done)), H', ⟨by first | omega | exact Nat.le_refl _⟩, by repeat (first | exact Drawn0.refl _ | apply Drawn0.step)⟩
                        · rw [if_neg c13] at H
                          have c13b0 : (a0 == 210) = false := beq_eq_false_iff_ne.mpr c13
                          have c13b1 : (a0 != 210) = true := bne_iff_ne.mpr c13
                          by_cases c14 : a0 = 64521
                          · rw [if_pos c14] at H
                            have c14b0 : (a0 == 64521) = true := beq_iff_eq.mpr c14
                            have c14b1 : (a0 != 64521) = false := bne_eq_false_iff_eq.mpr c14
                            clear c14
                            have H' := Aside0.mk H
                            clear H
                            go_wp2
                            go_meet
                            case rel => exact ⟨_, ((a0 == 64521)), (by first | rfl | (simp; done) | (simp [*]; done)), H', ⟨by first | omega | exact Nat.le_refl _⟩, by repeat (first | exact Drawn0.refl _ | apply Drawn0.step)⟩
                          · rw [if_neg c14] at H
                            have c14b0 : (a0 == 64521) = false := beq_eq_false_iff_ne.mpr c14
                            have c14b1 : (a0 != 64521) = true := bne_iff_ne.mpr c14
                            by_cases c15 : a0 = 64525
                            · rw [if_pos c15] at H
                              have c15b0 : (a0 == 64525) = true := beq_iff_eq.mpr c15
                              have c15b1 : (a0 != 64525) = false := bne_eq_false_iff_eq.mpr c15
                              clear c15
                              have H' := Aside0.mk H
                              clear H
                              go_wp2
                              go_meet
                              case rel => exact ⟨_, ((a0 == 64525)), (by first | rfl | (simp; done) | (simp [*]; done)), H', ⟨by first | omega | exact Nat.le_refl _⟩, by repeat (first | exact Drawn0.refl _ | apply Drawn0.step)⟩
                            · rw [if_neg c15] at H
                              have c15b0 : (a0 == 64525) = false := beq_eq_false_iff_ne.mpr c15
                              have c15b1 : (a0 != 64525) = true := bne_iff_ne.mpr c15
                              by_cases c16 : a0 = 64527
                              · rw [if_pos c16] at H
                                have c16b0 : (a0 == 64527) = true := beq_iff_eq.mpr c16
                                have c16b1 : (a0 != 64527) = false := bne_eq_false_iff_eq.mpr c16
                                clear c16
                                have H' := Aside0.mk H
                                clear H
                                go_wp2
                                go_meet
                                case rel => exact ⟨_, ((a0 == 64527)), (by first | rfl | (simp; done) | (simp [*]; done)), H', ⟨by first | omega | exact Nat.le_refl _⟩, by repeat (first | exact Drawn0.refl _ | apply Drawn0.step)⟩
                              · rw [if_neg c16] at H
                                have c16b0 : (a0 == 64527) = false := beq_eq_false_iff_ne.mpr c16
                                have c16b1 : (a0 != 64527) = true := bne_iff_ne.mpr c16
                                by_cases c17 : a0 = 64528
                                · rw [if_pos c17] at H
                                  have c17b0 : (a0 == 64528) = true := beq_iff_eq.mpr c17
                                  have c17b1 : (a0 != 64528) = false := bne_eq_false_iff_eq.mpr c17
                                  clear c17
                                  have H' := Aside0.mk H
                                  clear H
                                  go_wp2
                                  go_meet
                                  case rel => exact ⟨_, ((a0 == 64528)), (by first | rfl | (simp; done) | (simp [*]; done)), H', ⟨by first | omega | exact Nat.le_refl _⟩, by repeat (first | exact Drawn0.refl _ | apply Drawn0.step)⟩
                                · rw [if_neg c17] at H
                                  have c17b0 : (a0 == 64528) = false := beq_eq_false_iff_ne.mpr c17
                                  have c17b1 : (a0 != 64528) = true := bne_iff_ne.mpr c17
                                  by_cases c18 : a0 = 64529
                                  · rw [if_pos c18] at H
                                    have c18b0 : (a0 == 64529) = true := beq_iff_eq.mpr c18
                                    have c18b1 : (a0 != 64529) = false := bne_eq_false_iff_eq.mpr c18
                                    clear c18
                                    have H' := Aside0.mk H
                                    clear H
                                    go_wp2
                                    go_meet
                                    case rel => exact ⟨_, ((a0 == 64529)), (by first | rfl | (simp; done) | (simp [*]; done)), H', ⟨by first | omega | exact Nat.le_refl _⟩, by repeat (first | exact Drawn0.refl _ | apply Drawn0.step)⟩
                                  · rw [if_neg c18] at H
                                    have c18b0 : (a0 == 64529) = false := beq_eq_false_iff_ne.mpr c18
                                    have c18b1 : (a0 != 64529) = true := bne_iff_ne.mpr c18
                                    by_cases c19 : a0 = 63
                                    · rw [if_pos c19] at H
                                      have c19b0 : (a0 == 63) = true := beq_iff_eq.mpr c19
                                      have c19b1 : (a0 != 63) = false := bne_eq_false_iff_eq.mpr c19
                                      clear c19
                                      have H' := Aside0.mk H
                                      clear H
                                      go_wp2
                                      go_meet
                                      case rel => exact ⟨_, ((a0 == 63)), (by first | rfl | (simp; done) | (simp [*]; done)), H', ⟨by first | omega | exact Nat.le_refl _⟩, by repeat (first | exact Drawn0.refl _ | apply Drawn0.step)⟩
                                    · rw [if_neg c19] at H
                                      have c19b0 : (a0 == 63) = false := beq_eq_false_iff_ne.mpr c19
                                      have c19b1 : (a0 != 63) = true := bne_iff_ne.mpr c19
                                      by_cases c20 : a0 = 64
                                      · rw [if_pos c20] at H
                                        have c20b0 : (a0 == 64) = true := beq_iff_eq.mpr c20
                                        have c20b1 : (a0 != 64) = false := bne_eq_false_iff_eq.mpr c20
                                        clear c20
                                        have H' := Aside0.mk H
                                        clear H
                                        go_wp2
                                        go_meet
                                        case rel => exact ⟨_, ((a0 == 64)), (by first | rfl | (simp; done) | (simp [*]; done)), H', ⟨by first | omega | exact Nat.le_refl _⟩, by repeat (first | exact Drawn0.refl _ | apply Drawn0.step)⟩
                                      · rw [if_neg c20] at H
                                        have c20b0 : (a0 == 64) = false := beq_eq_false_iff_ne.mpr c20
                                        have c20b1 : (a0 != 64) = true := bne_iff_ne.mpr c20
                                        have H' := Aside0.mk H
                                        clear H
                                        go_wp2
                                        go_meet
                                        case rel => exact ⟨_, ((a0 == 64523)), (by first | rfl | (simp; done) | (simp [*]; done)), H', ⟨by first | omega | exact Nat.le_refl _⟩, by repeat (first | exact Drawn0.refl _ | apply Drawn0.step)⟩
  case rest =>
    clear HC2
    try clear c1
    try clear c2
    try clear p2
    try clear c3
    try clear c3b0
    try clear c3b1
    try clear c4
    try clear c4b0
    try clear c4b1
    try clear c5
    try clear c5b0
    try clear c5b1
    try clear c6
    try clear c6b0
    try clear c6b1
    try clear c7
    try clear c7b0
    try clear c7b1
    try clear c8
    try clear c8b0
    try clear c8b1
    try clear c9
    try clear c9b0
    try clear c9b1
    try clear c10
    try clear c10b0
    try clear c10b1
    try clear c11
    try clear c11b0
    try clear c11b1
    try clear c12
    try clear c12b0
    try clear c12b1
    try clear c13
    try clear c13b0
    try clear c13b1
    try clear c14
    try clear c14b0
    try clear c14b1
    try clear c15
    try clear c15b0
    try clear c15b1
    try clear c16
    try clear c16b0
    try clear c16b1
    try clear c17
    try clear c17b0
    try clear c17b1
    try clear c18
    try clear c18b0
    try clear c18b1
    try clear c19
    try clear c19b0
    try clear c19b1
    try clear c20
    try clear c20b0
    try clear c20b1
    obtain ⟨kq, x5_1, rfl, HA, HJ1, ⟨mc1, rfl⟩⟩ := hcut
    cases kq with
    | zero => exact absurd HA.out (by simp [op_Kind.j0])
    | succ kj1 =>
      have H := HA.out
      clear HA
      simp only [op_Kind.j0] at H
      by_cases c21 : x5_1 = true
      · subst c21
        have H1 : (some (1, 0)) = some (r1, r2) := by rw [if_pos rfl] at H; exact H
        clear H
        have H := H1
        clear H1
        simp only [Option.some.injEq, Prod.mk.injEq] at H
        obtain ⟨rfl, rfl⟩ := H
        go_wp2
        go_ret2
        exact ⟨by first | rfl | (simp; done) | (simp [*]; done), by repeat (first | exact Drawn0.refl _ | apply Drawn0.step)⟩
      · replace c21 := Bool.eq_false_iff.mpr c21
        subst c21
        have H1 : (if a0 = 17 then (op_Kind.j1 kj1 a0 a0 (a0 == 17)) else (if a0 = 64524 then (op_Kind.j1 kj1 a0 a0 (a0 == 64524)) else (if a0 = 64526 then (op_Kind.j1 kj1 a0 a0 (a0 == 64526)) else (if a0 = 64520 then (op_Kind.j1 kj1 a0 a0 (a0 == 64520)) else (op_Kind.j1 kj1 a0 a0 (a0 == 64522)))))) = some (r1, r2) := by rw [if_neg (show ¬ (false = true) by decide)] at H; exact H
        clear H
        have H := H1
        clear H1
        have HC22 := Aside0.mk H
        clear H
        go_upto_if 25 with (fail)
        go_cut [25] (fun v25 wc => ∃ (kq : Nat) (x25_21 : Bool), v25 = .bool x25_21 ∧ Aside0 (op_Kind.j1 kq a0 a0 x25_21 = some (r1, r2)) ∧ Aside0 (kq ≤ kj1) ∧ Drawn0 w wc)
        case first =>
          have H := HC22.out
          clear HC22
          by_cases c23 : a0 = 17
          · rw [if_pos c23] at H
            have c23b0 : (a0 == 17) = true := beq_iff_eq.mpr c23
            have c23b1 : (a0 != 17) = false := bne_eq_false_iff_eq.mpr c23
            clear c23
            (first | rw [c23b0] | (simp only [i64_w, i32_w]; rw [c23b0]) | skip)
            have H' := Aside0.mk H
            clear H
            go_wp2
            go_meet
            case rel => exact ⟨_, ((a0 == 17)), (by first | rfl | (simp; done) | (simp [*]; done)), H', ⟨by have := HJ1.out; first | omega | exact Nat.le_refl _⟩, by repeat (first | exact Drawn0.refl _ | apply Drawn0.step)⟩
          · rw [if_neg c23] at H
            have c23b0 : (a0 == 17) = false := beq_eq_false_iff_ne.mpr c23
            have c23b1 : (a0 != 17) = true := bne_iff_ne.mpr c23
            (first | rw [c23b0] | (simp only [i64_w, i32_w]; rw [c23b0]) | skip)
            by_cases c24 : a0 = 64524
            · rw [if_pos c24] at H
              have c24b0 : (a0 == 64524) = true := beq_iff_eq.mpr c24
              have c24b1 : (a0 != 64524) = false := bne_eq_false_iff_eq.mpr c24
              clear c24
              have H' := Aside0.mk H
              clear H
              go_wp2
              go_meet
              case rel => exact ⟨_, ((a0 == 64524)), (by first | rfl | (simp; done) | (simp [*]; done)), H', ⟨by have := HJ1.out; first | omega | exact Nat.le_refl _⟩, by repeat (first | exact Drawn0.refl _ | apply Drawn0.step)⟩
            · rw [if_neg c24] at H
              have c24b0 : (a0 == 64524) = false := beq_eq_false_iff_ne.mpr c24
              have c24b1 : (a0 != 64524) = true := bne_iff_ne.mpr c24
              by_cases c25 : a0 = 64526
              · rw [if_pos c25] at H
                have c25b0 : (a0 == 64526) = true := beq_iff_eq.mpr c25
                have c25b1 : (a0 != 64526) = false := bne_eq_false_iff_eq.mpr c25
                clear c25
                have H' := Aside0.mk H
                clear H
                go_wp2
                go_meet
                case rel => exact ⟨_, ((a0 == 64526)), (by first | rfl | (simp; done) | (simp [*]; done)), H', ⟨by have := HJ1.out; first | omega | exact Nat.le_refl _⟩, by repeat (first | exact Drawn0.refl _ | apply Drawn0.step)⟩
              · rw [if_neg c25] at H
                have c25b0 : (a0 == 64526) = false := beq_eq_false_iff_ne.mpr c25
                have c25b1 : (a0 != 64526) = true := bne_iff_ne.mpr c25
                by_cases c26 : a0 = 64520
                · rw [if_pos c26] at H
                  have c26b0 : (a0 == 64520) = true := beq_iff_eq.mpr c26
                  have c26b1 : (a0 != 64520) = false := bne_eq_false_iff_eq.mpr c26
                  clear c26
                  have H' := Aside0.mk H
                  clear H
                  go_wp2
                  go_meet
                  case rel => exact ⟨_, ((a0 == 64520)), (by first | rfl | (simp; done) | (simp [*]; done)), H', ⟨by have := HJ1.out; first | omega | exact Nat.le_refl _⟩, by repeat (first | exact Drawn0.refl _ | apply Drawn0.step)⟩
                · rw [if_neg c26] at H
                  have c26b0 : (a0 == 64520) = false := beq_eq_false_iff_ne.mpr c26
                  have c26b1 : (a0 != 64520) = true := bne_iff_ne.mpr c26
                  have H' := Aside0.mk H
                  clear H
                  go_wp2
                  go_meet
                  case rel => exact ⟨_, ((a0 == 64522)), (by first | rfl | (simp; done) | (simp [*]; done)), H', ⟨by have := HJ1.out; first | omega | exact Nat.le_refl _⟩, by repeat (first | exact Drawn0.refl _ | apply Drawn0.step)⟩
        case rest =>
          clear HC22
          try clear c1
          try clear c2
          try clear p2
          try clear c3
          try clear c3b0
          try clear c3b1
          try clear c4
          try clear c4b0
          try clear c4b1
          try clear c5
          try clear c5b0
          try clear c5b1
          try clear c6
          try clear c6b0
          try clear c6b1
          try clear c7
          try clear c7b0
          try clear c7b1
          try clear c8
          try clear c8b0
          try clear c8b1
          try clear c9
          try clear c9b0
          try clear c9b1
          try clear c10
          try clear c10b0
          try clear c10b1
          try clear c11
          try clear c11b0
          try clear c11b1
          try clear c12
          try clear c12b0
          try clear c12b1
          try clear c13
          try clear c13b0
          try clear c13b1
          try clear c14
          try clear c14b0
          try clear c14b1
          try clear c15
          try clear c15b0
          try clear c15b1
          try clear c16
          try clear c16b0
          try clear c16b1
          try clear c17
          try clear c17b0
          try clear c17b1
          try clear c18
          try clear c18b0
          try clear c18b1
          try clear c19
          try clear c19b0
          try clear c19b1
          try clear c20
          try clear c20b0
          try clear c20b1
          try clear c21
          try clear c23
          try clear c23b0
          try clear c23b1
          try clear c24
          try clear c24b0
          try clear c24b1
          try clear c25
          try clear c25b0
          try clear c25b1
          try clear c26
          try clear c26b0
          try clear c26b1
          try clear p2
          obtain ⟨kq, x25_21, rfl, HA, HJ21, ⟨mc21, rfl⟩⟩ := hcut
          cases kq with
          | zero => exact absurd HA.out (by simp [op_Kind.j1])
          | succ kj21 =>
            have H := HA.out
            clear HA
            simp only [op_Kind.j1] at H
            by_cases c27 : x25_21 = true
            · subst c27
              have H1 : (some (2, 0)) = some (r1, r2) := by rw [if_pos rfl] at H; exact H
              clear H
              have H := H1
              clear H1
              simp only [Option.some.injEq, Prod.mk.injEq] at H
              obtain ⟨rfl, rfl⟩ := H
              go_wp2
              go_ret2
              exact ⟨by first | rfl | (simp; done) | (simp [*]; done), by repeat (first | exact Drawn0.refl _ | apply Drawn0.step)⟩
            · replace c27 := Bool.eq_false_iff.mpr c27
              subst c27
              have H1 : (if a0 = 65 then (some (3, 0)) else (if a0 = 66 then (some (4, 0)) else (if a0 = 2 then (op_Kind.j2 kj21 a0 a0 (a0 == 2)) else (if a0 = 3 then (op_Kind.j2 kj21 a0 a0 (a0 == 3)) else (op_Kind.j2 kj21 a0 a0 (a0 == 4)))))) = some (r1, r2) := by rw [if_neg (show ¬ (false = true) by decide)] at H; exact H
              clear H
              have H := H1
              clear H1
              by_cases c28 : a0 = 65
              · rw [if_pos c28] at H
                have c28b0 : (a0 == 65) = true := beq_iff_eq.mpr c28
                have c28b1 : (a0 != 65) = false := bne_eq_false_iff_eq.mpr c28
                clear c28
                simp only [Option.some.injEq, Prod.mk.injEq] at H
                obtain ⟨rfl, rfl⟩ := H
                go_wp2
                go_ret2
                exact ⟨by first | rfl | (simp; done) | (simp [*]; done), by repeat (first | exact Drawn0.refl _ | apply Drawn0.step)⟩
              · rw [if_neg c28] at H
                have c28b0 : (a0 == 65) = false := beq_eq_false_iff_ne.mpr c28
                have c28b1 : (a0 != 65) = true := bne_iff_ne.mpr c28
                by_cases c29 : a0 = 66
                · rw [if_pos c29] at H
                  have c29b0 : (a0 == 66) = true := beq_iff_eq.mpr c29
                  have c29b1 : (a0 != 66) = false := bne_eq_false_iff_eq.mpr c29
                  clear c29
                  simp only [Option.some.injEq, Prod.mk.injEq] at H
                  obtain ⟨rfl, rfl⟩ := H
                  go_wp2
                  go_ret2
                  exact ⟨by first | rfl | (simp; done) | (simp [*]; done), by repeat (first | exact Drawn0.refl _ | apply Drawn0.step)⟩
                · rw [if_neg c29] at H
                  have c29b0 : (a0 == 66) = false := beq_eq_false_iff_ne.mpr c29
                  have c29b1 : (a0 != 66) = true := bne_iff_ne.mpr c29
                  have HC30 := Aside0.mk H
                  clear H
                  go_upto_if 35 with (fail)
                  go_cut [35] (fun v35 wc => ∃ (kq : Nat) (x35_29 : Bool), v35 = .bool x35_29 ∧ Aside0 (op_Kind.j2 kq a0 a0 x35_29 = some (r1, r2)) ∧ Aside0 (kq ≤ kj21) ∧ Drawn0 w wc)
                  case first =>
                    have H := HC30.out
                    clear HC30
                    by_cases c31 : a0 = 2
                    · rw [if_pos c31] at H
                      have c31b0 : (a0 == 2) = true := beq_iff_eq.mpr c31
                      have c31b1 : (a0 != 2) = false := bne_eq_false_iff_eq.mpr c31
                      clear c31
                      (first | rw [c31b0] | (simp only [i64_w, i32_w]; rw [c31b0]) | skip)
                      have H' := Aside0.mk H
                      clear H
                      go_wp2
                      go_meet
                      case rel => exact ⟨_, ((a0 == 2)), (by first | rfl | (simp; done) | (simp [*]; done)), H', ⟨by have := HJ1.out; have := HJ21.out; first | omega | exact Nat.le_refl _⟩, by repeat (first | exact Drawn0.refl _ | apply Drawn0.step)⟩
                    · rw [if_neg c31] at H
                      have c31b0 : (a0 == 2) = false := beq_eq_false_iff_ne.mpr c31
                      have c31b1 : (a0 != 2) = true := bne_iff_ne.mpr c31
                      (first | rw [c31b0] | (simp only [i64_w, i32_w]; rw [c31b0]) | skip)
                      by_cases c32 : a0 = 3
                      · rw [if_pos c32] at H
                        have c32b0 : (a0 == 3) = true := beq_iff_eq.mpr c32
                        have c32b1 : (a0 != 3) = false := bne_eq_false_iff_eq.mpr c32
                        clear c32
                        have H' := Aside0.mk H
                        clear H
                        go_wp2
                        go_meet
                        case rel => exact ⟨_, ((a0 == 3)), (by first | rfl | (simp; done) | (simp [*]; done)), H', ⟨by have := HJ1.out; have := HJ21.out; first | omega | exact Nat.le_refl _⟩, by repeat (first | exact Drawn0.refl _ | apply Drawn0.step)⟩
                      · rw [if_neg c32] at H
                        have c32b0 : (a0 == 3) = false := beq_eq_false_iff_ne.mpr c32
                        have c32b1 : (a0 != 3) = true := bne_iff_ne.mpr c32
                        have H' := Aside0.mk H
                        clear H
                        go_wp2
                        go_meet
                        case rel => exact ⟨_, ((a0 == 4)), (by first | rfl | (simp; done) | (simp [*]; done)), H', ⟨by have := HJ1.out; have := HJ21.out; first | omega | exact Nat.le_refl _⟩, by repeat (first | exact Drawn0.refl _ | apply Drawn0.step)⟩
                  case rest =>
                    clear HC30
                    try clear c1
                    try clear c2
                    try clear p2
                    try clear c3
                    try clear c3b0
                    try clear c3b1
                    try clear c4
                    try clear c4b0
                    try clear c4b1
                    try clear c5
                    try clear c5b0
                    try clear c5b1
                    try clear c6
                    try clear c6b0
                    try clear c6b1
                    try clear c7
                    try clear c7b0
                    try clear c7b1
                    try clear c8
                    try clear c8b0
                    try clear c8b1
                    try clear c9
                    try clear c9b0
                    try clear c9b1
                    try clear c10
                    try clear c10b0
                    try clear c10b1
                    try clear c11
                    try clear c11b0
                    try clear c11b1
                    try clear c12
                    try clear c12b0
                    try clear c12b1
                    try clear c13
                    try clear c13b0
                    try clear c13b1
                    try clear c14
                    try clear c14b0
                    try clear c14b1
                    try clear c15
                    try clear c15b0
                    try clear c15b1
                    try clear c16
                    try clear c16b0
                    try clear c16b1
                    try clear c17
                    try clear c17b0
                    try clear c17b1
                    try clear c18
                    try clear c18b0
                    try clear c18b1
                    try clear c19
                    try clear c19b0
                    try clear c19b1
                    try clear c20
                    try clear c20b0
                    try clear c20b1
                    try clear c21
                    try clear c23
                    try clear c23b0
                    try clear c23b1
                    try clear c24
                    try clear c24b0
                    try clear c24b1
                    try clear c25
                    try clear c25b0
                    try clear c25b1
                    try clear c26
                    try clear c26b0
                    try clear c26b1
                    try clear c27
                    try clear c28
                    try clear c28b0
                    try clear c28b1
                    try clear c29
                    try clear c29b0
                    try clear c29b1
                    try clear c31
                    try clear c31b0
                    try clear c31b1
                    try clear c32
                    try clear c32b0
                    try clear c32b1
                    try clear p2
                    obtain ⟨kq, x35_29, rfl, HA, HJ29, ⟨mc29, rfl⟩⟩ := hcut
                    cases kq with
                    | zero => exact absurd HA.out (by simp [op_Kind.j2])
                    | succ kj29 =>
                      have H := HA.out
                      clear HA
                      simp only [op_Kind.j2] at H
                      by_cases c33 : x35_29 = true
                      · subst c33
                        have H1 : (some (6, 0)) = some (r1, r2) := by rw [if_pos rfl] at H; exact H
                        clear H
                        have H := H1
                        clear H1
                        simp only [Option.some.injEq, Prod.mk.injEq] at H
                        obtain ⟨rfl, rfl⟩ := H
                        go_wp2
                        go_ret2
                        exact ⟨by first | rfl | (simp; done) | (simp [*]; done), by repeat (first | exact Drawn0.refl _ | apply Drawn0.step)⟩
                      · replace c33 := Bool.eq_false_iff.mpr c33
                        subst c33
                        have H1 : (if a0 = 14 then (some (7, 0)) else (if a0 = 28 then (some (8, 0)) else (if a0 = 208 then (some (8, 0)) else ((op_Width.f kj29 a0).bind fun t101 => (if t101 > 0 then (some (5, 0)) else (if a0 ≥ 0 then ((op_none.f kj29 a0).bind fun t102 => (op_Kind.j3 kj29 a0 t102)) else (op_Kind.j3 kj29 a0 false))))))) = some (r1, r2) := by rw [if_neg (show ¬ (false = true) by decide)] at H; exact H
                        clear H
                        have H := H1
                        clear H1
                        by_cases c34 : a0 = 14
                        · rw [if_pos c34] at H
                          have c34b0 : (a0 == 14) = true := beq_iff_eq.mpr c34
                          have c34b1 : (a0 != 14) = false := bne_eq_false_iff_eq.mpr c34
                          clear c34
                          simp only [Option.some.injEq, Prod.mk.injEq] at H
                          obtain ⟨rfl, rfl⟩ := H
                          go_wp2
                          go_ret2
                          exact ⟨by first | rfl | (simp; done) | (simp [*]; done), by repeat (first | exact Drawn0.refl _ | apply Drawn0.step)⟩
                        · rw [if_neg c34] at H
                          have c34b0 : (a0 == 14) = false := beq_eq_false_iff_ne.mpr c34
                          have c34b1 : (a0 != 14) = true := bne_iff_ne.mpr c34
                          by_cases c35 : a0 = 28
                          · rw [if_pos c35] at H
                            have c35b0 : (a0 == 28) = true := beq_iff_eq.mpr c35
                            have c35b1 : (a0 != 28) = false := bne_eq_false_iff_eq.mpr c35
                            clear c35
                            simp only [Option.some.injEq, Prod.mk.injEq] at H
                            obtain ⟨rfl, rfl⟩ := H
                            go_wp2
                            go_ret2
                            exact ⟨by first | rfl | (simp; done) | (simp [*]; done), by repeat (first | exact Drawn0.refl _ | apply Drawn0.step)⟩
                          · rw [if_neg c35] at H
                            have c35b0 : (a0 == 28) = false := beq_eq_false_iff_ne.mpr c35
                            have c35b1 : (a0 != 28) = true := bne_iff_ne.mpr c35
                            by_cases c36 : a0 = 208
                            · rw [if_pos c36] at H
                              have c36b0 : (a0 == 208) = true := beq_iff_eq.mpr c36
                              have c36b1 : (a0 != 208) = false := bne_eq_false_iff_eq.mpr c36
                              clear c36
                              simp only [Option.some.injEq, Prod.mk.injEq] at H
                              obtain ⟨rfl, rfl⟩ := H
                              go_wp2
                              go_ret2
                              exact ⟨by first | rfl | (simp; done) | (simp [*]; done), by repeat (first | exact Drawn0.refl _ | apply Drawn0.step)⟩
                            · rw [if_neg c36] at H
                              have c36b0 : (a0 == 208) = false := beq_eq_false_iff_ne.mpr c36
                              have c36b1 : (a0 != 208) = true := bne_iff_ne.mpr c36
                              replace H := Option.bind_eq_some_iff.mp H
                              obtain ⟨t101, A370, H⟩ := H
                              replace H : (if t101 > 0 then (some (5, 0)) else (if a0 ≥ 0 then ((op_none.f kj29 a0).bind fun t102 => (op_Kind.j3 kj29 a0 t102)) else (op_Kind.j3 kj29 a0 false))) = some (r1, r2) := H
                              have A37 := Aside0.mk A370
                              clear A370
                              by_cases c38 : t101 > 0
                              · rw [if_pos c38] at H
                                have c38b0 : decide (0 < t101) = true := decide_eq_true c38
                                clear c38
                                simp only [Option.some.injEq, Prod.mk.injEq] at H
                                obtain ⟨rfl, rfl⟩ := H
                                go_wp2_with (first | ((with_reducible refine gate_callee (f := 18) rfl ?_); refine goesL_ (some 46) rfl rfl Try.func18 (by kernel_rfl) rfl #[.int .i64 a0] rfl (by (try simp only [List.map_toArray, List.map_cons, List.map_nil]); first | done | rfl | (simp only [List.length_drop, List.length_take]; rfl)) ?_; (with_reducible refine (op_Width.calls kj29 a0 t101 _ A37.out).mono ?_); rintro e w' ⟨rfl, ⟨nd, rfl⟩⟩; refine ⟨_, rfl, ?_⟩))
                                go_ret2
                                exact ⟨by first | rfl | (simp; done) | (simp [*]; done), by repeat (first | exact Drawn0.refl _ | apply Drawn0.step)⟩
                              · rw [if_neg c38] at H
                                have c38b0 : decide (0 < t101) = false := decide_eq_false c38
                                clear c38
                                have HC39 := Aside0.mk H
                                clear H
                                go_upto_region 43 with (first | ((with_reducible refine gate_callee (f := 18) rfl ?_); refine goesL_ (some 46) rfl rfl Try.func18 (by kernel_rfl) rfl #[.int .i64 a0] rfl (by (try simp only [List.map_toArray, List.map_cons, List.map_nil]); first | done | rfl | (simp only [List.length_drop, List.length_take]; rfl)) ?_; (with_reducible refine (op_Width.calls kj29 a0 t101 _ A37.out).mono ?_); rintro e w' ⟨rfl, ⟨nd, rfl⟩⟩; refine ⟨_, rfl, ?_⟩))
                                (try simp only [Act.put, List.setIfInBounds_toArray, List.set_cons_zero, List.set_cons_succ])
                                go_cut [48] (fun v48 wc => ∃ (kq : Nat) (x48_38 : Bool), v48 = .bool x48_38 ∧ Aside0 (op_Kind.j3 kq a0 x48_38 = some (r1, r2)) ∧ Aside0 (kq ≤ kj29) ∧ Drawn0 w wc)
                                case first =>
                                  have H := HC39.out
                                  clear HC39
                                  by_cases c40 : a0 ≥ 0
                                  · rw [if_pos c40] at H
                                    have c40b0 : decide (0 ≤ a0) = true := decide_eq_true c40
                                    clear c40
                                    (first | rw [c40b0] | (simp only [i64_w, i32_w]; rw [c40b0]) | skip)
                                    replace H := Option.bind_eq_some_iff.mp H
                                    obtain ⟨t102, A410, H⟩ := H
                                    replace H : (op_Kind.j3 kj29 a0 t102) = some (r1, r2) := H
                                    have A41 := Aside0.mk A410
                                    clear A410
                                    have H' := Aside0.mk H
                                    clear H
                                    go_wp2_with (first | (go_at_call 43; (with_reducible refine (op_none.calls kj29 a0 t102 _ A41.out).mono ?_); rintro e w' ⟨rfl, ⟨nd, rfl⟩⟩))
                                    go_meet
                                    case rel => exact ⟨_, (t102), (by first | rfl | (simp; done) | (simp [*]; done)), H', ⟨by have := HJ1.out; have := HJ21.out; have := HJ29.out; first | omega | exact Nat.le_refl _⟩, by repeat (first | exact Drawn0.refl _ | apply Drawn0.step)⟩
                                  · rw [if_neg c40] at H
                                    have c40b0 : decide (0 ≤ a0) = false := decide_eq_false c40
                                    clear c40
                                    (first | rw [c40b0] | (simp only [i64_w, i32_w]; rw [c40b0]) | skip)
                                    have H' := Aside0.mk H
                                    clear H
                                    go_wp2
                                    go_meet
                                    case rel => exact ⟨_, (false), (by first | rfl | (simp; done) | (simp [*]; done)), H', ⟨by have := HJ1.out; have := HJ21.out; have := HJ29.out; first | omega | exact Nat.le_refl _⟩, by repeat (first | exact Drawn0.refl _ | apply Drawn0.step)⟩
                                case rest =>
                                  clear HC39
                                  try clear c1
                                  try clear c2
                                  try clear p2
                                  try clear c3
                                  try clear c3b0
                                  try clear c3b1
                                  try clear c4
                                  try clear c4b0
                                  try clear c4b1
                                  try clear c5
                                  try clear c5b0
                                  try clear c5b1
                                  try clear c6
                                  try clear c6b0
                                  try clear c6b1
                                  try clear c7
                                  try clear c7b0
                                  try clear c7b1
                                  try clear c8
                                  try clear c8b0
                                  try clear c8b1
                                  try clear c9
                                  try clear c9b0
                                  try clear c9b1
                                  try clear c10
                                  try clear c10b0
                                  try clear c10b1
                                  try clear c11
                                  try clear c11b0
                                  try clear c11b1
                                  try clear c12
                                  try clear c12b0
                                  try clear c12b1
                                  try clear c13
                                  try clear c13b0
                                  try clear c13b1
                                  try clear c14
                                  try clear c14b0
                                  try clear c14b1
                                  try clear c15
                                  try clear c15b0
                                  try clear c15b1
                                  try clear c16
                                  try clear c16b0
                                  try clear c16b1
                                  try clear c17
                                  try clear c17b0
                                  try clear c17b1
                                  try clear c18
                                  try clear c18b0
                                  try clear c18b1
                                  try clear c19
                                  try clear c19b0
                                  try clear c19b1
                                  try clear c20
                                  try clear c20b0
                                  try clear c20b1
                                  try clear c21
                                  try clear c23
                                  try clear c23b0
                                  try clear c23b1
                                  try clear c24
                                  try clear c24b0
                                  try clear c24b1
                                  try clear c25
                                  try clear c25b0
                                  try clear c25b1
                                  try clear c26
                                  try clear c26b0
                                  try clear c26b1
                                  try clear c27
                                  try clear c28
                                  try clear c28b0
                                  try clear c28b1
                                  try clear c29
                                  try clear c29b0
                                  try clear c29b1
                                  try clear c31
                                  try clear c31b0
                                  try clear c31b1
                                  try clear c32
                                  try clear c32b0
                                  try clear c32b1
                                  try clear c33
                                  try clear c34
                                  try clear c34b0
                                  try clear c34b1
                                  try clear c35
                                  try clear c35b0
                                  try clear c35b1
                                  try clear c36
                                  try clear c36b0
                                  try clear c36b1
                                  try clear c38
                                  try clear c38b0
                                  try clear c40
                                  try clear c40b0
                                  try clear p2
                                  obtain ⟨kq, x48_38, rfl, HA, HJ38, ⟨mc38, rfl⟩⟩ := hcut
                                  cases kq with
                                  | zero => exact absurd HA.out (by simp [op_Kind.j3])
                                  | succ kj38 =>
                                    have H := HA.out
                                    clear HA
                                    simp only [op_Kind.j3] at H
                                    by_cases c42 : x48_38 = true
                                    · subst c42
                                      have H1 : (some (0, 0)) = some (r1, r2) := by rw [if_pos rfl] at H; exact H
                                      clear H
                                      have H := H1
                                      clear H1
                                      simp only [Option.some.injEq, Prod.mk.injEq] at H
                                      obtain ⟨rfl, rfl⟩ := H
                                      go_wp2
                                      go_ret2
                                      exact ⟨by first | rfl | (simp; done) | (simp [*]; done), by repeat (first | exact Drawn0.refl _ | apply Drawn0.step)⟩
                                    · replace c42 := Bool.eq_false_iff.mpr c42
                                      subst c42
                                      have H1 : ((op_float.f kj38 a0).bind fun t103 => (if t103 = true then (some (0, 5)) else (some (0, 2)))) = some (r1, r2) := by rw [if_neg (show ¬ (false = true) by decide)] at H; exact H
                                      clear H
                                      have H := H1
                                      clear H1
                                      replace H := Option.bind_eq_some_iff.mp H
                                      obtain ⟨t103, A430, H⟩ := H
                                      replace H : (if t103 = true then (some (0, 5)) else (some (0, 2))) = some (r1, r2) := H
                                      have A43 := Aside0.mk A430
                                      clear A430
                                      by_cases c44 : t103 = true
                                      · subst c44
                                        have H1 : (some (0, 5)) = some (r1, r2) := by rw [if_pos rfl] at H; exact H
                                        clear H
                                        have H := H1
                                        clear H1
                                        simp only [Option.some.injEq, Prod.mk.injEq] at H
                                        obtain ⟨rfl, rfl⟩ := H
                                        go_wp2_with (first | ((with_reducible refine gate_callee (f := 44) rfl ?_); refine goesL_ (some 57) rfl rfl Try.func44 (by kernel_rfl) rfl #[.int .i64 a0] rfl (by (try simp only [List.map_toArray, List.map_cons, List.map_nil]); first | done | rfl | (simp only [List.length_drop, List.length_take]; rfl)) ?_; (with_reducible refine (op_float.calls kj38 a0 true _ A43.out).mono ?_); rintro e w' ⟨rfl, ⟨nd, rfl⟩⟩; refine ⟨_, rfl, ?_⟩))
                                        go_ret2
                                        exact ⟨by first | rfl | (simp; done) | (simp [*]; done), by repeat (first | exact Drawn0.refl _ | apply Drawn0.step)⟩
                                      · replace c44 := Bool.eq_false_iff.mpr c44
                                        subst c44
                                        have H1 : (some (0, 2)) = some (r1, r2) := by rw [if_neg (show ¬ (false = true) by decide)] at H; exact H
                                        clear H
                                        have H := H1
                                        clear H1
                                        simp only [Option.some.injEq, Prod.mk.injEq] at H
                                        obtain ⟨rfl, rfl⟩ := H
                                        go_wp2_with (first | ((with_reducible refine gate_callee (f := 44) rfl ?_); refine goesL_ (some 57) rfl rfl Try.func44 (by kernel_rfl) rfl #[.int .i64 a0] rfl (by (try simp only [List.map_toArray, List.map_cons, List.map_nil]); first | done | rfl | (simp only [List.length_drop, List.length_take]; rfl)) ?_; (with_reducible refine (op_float.calls kj38 a0 false _ A43.out).mono ?_); rintro e w' ⟨rfl, ⟨nd, rfl⟩⟩; refine ⟨_, rfl, ?_⟩))
                                        go_ret2
                                        exact ⟨by first | rfl | (simp; done) | (simp [*]; done), by repeat (first | exact Drawn0.refl _ | apply Drawn0.step)⟩

end Go.Proofs.Ytfhdeagbgdnkaaa.POpForms
