/- SessDead: the walk to its runs. -/
import Derived.Test.YtokfafjbdbdplaaSd1
import Derived.Test.YtokfafjbdbdplaaSd2
import Derived.Test.YtokfafjbdbdplaaSd3
import Derived.Test.YtokfafjbdbdplaaSd4
import Derived.Test.YtokfafjbdbdplaaSd5
namespace Go.Dx.SYtokfafjbdbdplaa
open Go.Proofs
set_option linter.unusedVariables false
set_option linter.unusedSimpArgs false

set_option maxRecDepth 100000 in
theorem begun14_run : isTrue (fnR T 600 14 [] Heap.empty) = true := by kernel_rfl
theorem C14 {h : Heap} : Fn Try.prog 14 [] h fun v h' => v = .bool true ∧ h = h' :=
  Fn.anywhere (R := fun v => v = .bool true) rfl (fn_of_true T.ok begun14_run) fun v h' q => ⟨by rw [q]; rfl, q⟩
/-- A slice of bytes that is a flat argument, the only one. -/
def BytesIn (v : Value) (L : List (List Value)) : Prop := ((v = .slice none 0 0 ∨ v = .slice (some ⟨0, 0, none⟩) 0 0) ∧ L = []) ∨ ∃ xs : List Int, v = .slice (some ⟨1, 0, none⟩) xs.length 1 ∧ L = [xs.map (Value.int .u8)]
theorem sdx_0 (xs : List Int) (h : xs.length ≤ 40) : sdrun 0 (.slice (some ⟨1, 0, none⟩) xs.length 1) (flatH [xs.map (Value.int .u8)]) = true := by
  rcases xs with _ | ⟨x0, xs⟩
  · exact sd_0_0 
  rcases xs with _ | ⟨x1, xs⟩
  · exact sd_0_1 x0
  rcases xs with _ | ⟨x2, xs⟩
  · exact sd_0_2 x0 x1
  rcases xs with _ | ⟨x3, xs⟩
  · exact sd_0_3 x0 x1 x2
  rcases xs with _ | ⟨x4, xs⟩
  · exact sd_0_4 x0 x1 x2 x3
  rcases xs with _ | ⟨x5, xs⟩
  · exact sd_0_5 x0 x1 x2 x3 x4
  rcases xs with _ | ⟨x6, xs⟩
  · exact sd_0_6 x0 x1 x2 x3 x4 x5
  rcases xs with _ | ⟨x7, xs⟩
  · exact sd_0_7 x0 x1 x2 x3 x4 x5 x6
  rcases xs with _ | ⟨x8, xs⟩
  · exact sd_0_8 x0 x1 x2 x3 x4 x5 x6 x7
  rcases xs with _ | ⟨x9, xs⟩
  · exact sd_0_9 x0 x1 x2 x3 x4 x5 x6 x7 x8
  rcases xs with _ | ⟨x10, xs⟩
  · exact sd_0_10 x0 x1 x2 x3 x4 x5 x6 x7 x8 x9
  rcases xs with _ | ⟨x11, xs⟩
  · exact sd_0_11 x0 x1 x2 x3 x4 x5 x6 x7 x8 x9 x10
  rcases xs with _ | ⟨x12, xs⟩
  · exact sd_0_12 x0 x1 x2 x3 x4 x5 x6 x7 x8 x9 x10 x11
  rcases xs with _ | ⟨x13, xs⟩
  · exact sd_0_13 x0 x1 x2 x3 x4 x5 x6 x7 x8 x9 x10 x11 x12
  rcases xs with _ | ⟨x14, xs⟩
  · exact sd_0_14 x0 x1 x2 x3 x4 x5 x6 x7 x8 x9 x10 x11 x12 x13
  rcases xs with _ | ⟨x15, xs⟩
  · exact sd_0_15 x0 x1 x2 x3 x4 x5 x6 x7 x8 x9 x10 x11 x12 x13 x14
  rcases xs with _ | ⟨x16, xs⟩
  · exact sd_0_16 x0 x1 x2 x3 x4 x5 x6 x7 x8 x9 x10 x11 x12 x13 x14 x15
  rcases xs with _ | ⟨x17, xs⟩
  · exact sd_0_17 x0 x1 x2 x3 x4 x5 x6 x7 x8 x9 x10 x11 x12 x13 x14 x15 x16
  rcases xs with _ | ⟨x18, xs⟩
  · exact sd_0_18 x0 x1 x2 x3 x4 x5 x6 x7 x8 x9 x10 x11 x12 x13 x14 x15 x16 x17
  rcases xs with _ | ⟨x19, xs⟩
  · exact sd_0_19 x0 x1 x2 x3 x4 x5 x6 x7 x8 x9 x10 x11 x12 x13 x14 x15 x16 x17 x18
  rcases xs with _ | ⟨x20, xs⟩
  · exact sd_0_20 x0 x1 x2 x3 x4 x5 x6 x7 x8 x9 x10 x11 x12 x13 x14 x15 x16 x17 x18 x19
  rcases xs with _ | ⟨x21, xs⟩
  · exact sd_0_21 x0 x1 x2 x3 x4 x5 x6 x7 x8 x9 x10 x11 x12 x13 x14 x15 x16 x17 x18 x19 x20
  rcases xs with _ | ⟨x22, xs⟩
  · exact sd_0_22 x0 x1 x2 x3 x4 x5 x6 x7 x8 x9 x10 x11 x12 x13 x14 x15 x16 x17 x18 x19 x20 x21
  rcases xs with _ | ⟨x23, xs⟩
  · exact sd_0_23 x0 x1 x2 x3 x4 x5 x6 x7 x8 x9 x10 x11 x12 x13 x14 x15 x16 x17 x18 x19 x20 x21 x22
  rcases xs with _ | ⟨x24, xs⟩
  · exact sd_0_24 x0 x1 x2 x3 x4 x5 x6 x7 x8 x9 x10 x11 x12 x13 x14 x15 x16 x17 x18 x19 x20 x21 x22 x23
  rcases xs with _ | ⟨x25, xs⟩
  · exact sd_0_25 x0 x1 x2 x3 x4 x5 x6 x7 x8 x9 x10 x11 x12 x13 x14 x15 x16 x17 x18 x19 x20 x21 x22 x23 x24
  rcases xs with _ | ⟨x26, xs⟩
  · exact sd_0_26 x0 x1 x2 x3 x4 x5 x6 x7 x8 x9 x10 x11 x12 x13 x14 x15 x16 x17 x18 x19 x20 x21 x22 x23 x24 x25
  rcases xs with _ | ⟨x27, xs⟩
  · exact sd_0_27 x0 x1 x2 x3 x4 x5 x6 x7 x8 x9 x10 x11 x12 x13 x14 x15 x16 x17 x18 x19 x20 x21 x22 x23 x24 x25 x26
  rcases xs with _ | ⟨x28, xs⟩
  · exact sd_0_28 x0 x1 x2 x3 x4 x5 x6 x7 x8 x9 x10 x11 x12 x13 x14 x15 x16 x17 x18 x19 x20 x21 x22 x23 x24 x25 x26 x27
  rcases xs with _ | ⟨x29, xs⟩
  · exact sd_0_29 x0 x1 x2 x3 x4 x5 x6 x7 x8 x9 x10 x11 x12 x13 x14 x15 x16 x17 x18 x19 x20 x21 x22 x23 x24 x25 x26 x27 x28
  rcases xs with _ | ⟨x30, xs⟩
  · exact sd_0_30 x0 x1 x2 x3 x4 x5 x6 x7 x8 x9 x10 x11 x12 x13 x14 x15 x16 x17 x18 x19 x20 x21 x22 x23 x24 x25 x26 x27 x28 x29
  rcases xs with _ | ⟨x31, xs⟩
  · exact sd_0_31 x0 x1 x2 x3 x4 x5 x6 x7 x8 x9 x10 x11 x12 x13 x14 x15 x16 x17 x18 x19 x20 x21 x22 x23 x24 x25 x26 x27 x28 x29 x30
  rcases xs with _ | ⟨x32, xs⟩
  · exact sd_0_32 x0 x1 x2 x3 x4 x5 x6 x7 x8 x9 x10 x11 x12 x13 x14 x15 x16 x17 x18 x19 x20 x21 x22 x23 x24 x25 x26 x27 x28 x29 x30 x31
  rcases xs with _ | ⟨x33, xs⟩
  · exact sd_0_33 x0 x1 x2 x3 x4 x5 x6 x7 x8 x9 x10 x11 x12 x13 x14 x15 x16 x17 x18 x19 x20 x21 x22 x23 x24 x25 x26 x27 x28 x29 x30 x31 x32
  rcases xs with _ | ⟨x34, xs⟩
  · exact sd_0_34 x0 x1 x2 x3 x4 x5 x6 x7 x8 x9 x10 x11 x12 x13 x14 x15 x16 x17 x18 x19 x20 x21 x22 x23 x24 x25 x26 x27 x28 x29 x30 x31 x32 x33
  rcases xs with _ | ⟨x35, xs⟩
  · exact sd_0_35 x0 x1 x2 x3 x4 x5 x6 x7 x8 x9 x10 x11 x12 x13 x14 x15 x16 x17 x18 x19 x20 x21 x22 x23 x24 x25 x26 x27 x28 x29 x30 x31 x32 x33 x34
  rcases xs with _ | ⟨x36, xs⟩
  · exact sd_0_36 x0 x1 x2 x3 x4 x5 x6 x7 x8 x9 x10 x11 x12 x13 x14 x15 x16 x17 x18 x19 x20 x21 x22 x23 x24 x25 x26 x27 x28 x29 x30 x31 x32 x33 x34 x35
  rcases xs with _ | ⟨x37, xs⟩
  · exact sd_0_37 x0 x1 x2 x3 x4 x5 x6 x7 x8 x9 x10 x11 x12 x13 x14 x15 x16 x17 x18 x19 x20 x21 x22 x23 x24 x25 x26 x27 x28 x29 x30 x31 x32 x33 x34 x35 x36
  rcases xs with _ | ⟨x38, xs⟩
  · exact sd_0_38 x0 x1 x2 x3 x4 x5 x6 x7 x8 x9 x10 x11 x12 x13 x14 x15 x16 x17 x18 x19 x20 x21 x22 x23 x24 x25 x26 x27 x28 x29 x30 x31 x32 x33 x34 x35 x36 x37
  rcases xs with _ | ⟨x39, xs⟩
  · exact sd_0_39 x0 x1 x2 x3 x4 x5 x6 x7 x8 x9 x10 x11 x12 x13 x14 x15 x16 x17 x18 x19 x20 x21 x22 x23 x24 x25 x26 x27 x28 x29 x30 x31 x32 x33 x34 x35 x36 x37 x38
  rcases xs with _ | ⟨x40, xs⟩
  · exact sd_0_40 x0 x1 x2 x3 x4 x5 x6 x7 x8 x9 x10 x11 x12 x13 x14 x15 x16 x17 x18 x19 x20 x21 x22 x23 x24 x25 x26 x27 x28 x29 x30 x31 x32 x33 x34 x35 x36 x37 x38 x39
  exact absurd h (by simp only [List.length_cons]; omega)
theorem sdx_1 (xs : List Int) (h : xs.length ≤ 40) : sdrun 1 (.slice (some ⟨1, 0, none⟩) xs.length 1) (flatH [xs.map (Value.int .u8)]) = true := by
  rcases xs with _ | ⟨x0, xs⟩
  · exact sd_1_0 
  rcases xs with _ | ⟨x1, xs⟩
  · exact sd_1_1 x0
  rcases xs with _ | ⟨x2, xs⟩
  · exact sd_1_2 x0 x1
  rcases xs with _ | ⟨x3, xs⟩
  · exact sd_1_3 x0 x1 x2
  rcases xs with _ | ⟨x4, xs⟩
  · exact sd_1_4 x0 x1 x2 x3
  rcases xs with _ | ⟨x5, xs⟩
  · exact sd_1_5 x0 x1 x2 x3 x4
  rcases xs with _ | ⟨x6, xs⟩
  · exact sd_1_6 x0 x1 x2 x3 x4 x5
  rcases xs with _ | ⟨x7, xs⟩
  · exact sd_1_7 x0 x1 x2 x3 x4 x5 x6
  rcases xs with _ | ⟨x8, xs⟩
  · exact sd_1_8 x0 x1 x2 x3 x4 x5 x6 x7
  rcases xs with _ | ⟨x9, xs⟩
  · exact sd_1_9 x0 x1 x2 x3 x4 x5 x6 x7 x8
  rcases xs with _ | ⟨x10, xs⟩
  · exact sd_1_10 x0 x1 x2 x3 x4 x5 x6 x7 x8 x9
  rcases xs with _ | ⟨x11, xs⟩
  · exact sd_1_11 x0 x1 x2 x3 x4 x5 x6 x7 x8 x9 x10
  rcases xs with _ | ⟨x12, xs⟩
  · exact sd_1_12 x0 x1 x2 x3 x4 x5 x6 x7 x8 x9 x10 x11
  rcases xs with _ | ⟨x13, xs⟩
  · exact sd_1_13 x0 x1 x2 x3 x4 x5 x6 x7 x8 x9 x10 x11 x12
  rcases xs with _ | ⟨x14, xs⟩
  · exact sd_1_14 x0 x1 x2 x3 x4 x5 x6 x7 x8 x9 x10 x11 x12 x13
  rcases xs with _ | ⟨x15, xs⟩
  · exact sd_1_15 x0 x1 x2 x3 x4 x5 x6 x7 x8 x9 x10 x11 x12 x13 x14
  rcases xs with _ | ⟨x16, xs⟩
  · exact sd_1_16 x0 x1 x2 x3 x4 x5 x6 x7 x8 x9 x10 x11 x12 x13 x14 x15
  rcases xs with _ | ⟨x17, xs⟩
  · exact sd_1_17 x0 x1 x2 x3 x4 x5 x6 x7 x8 x9 x10 x11 x12 x13 x14 x15 x16
  rcases xs with _ | ⟨x18, xs⟩
  · exact sd_1_18 x0 x1 x2 x3 x4 x5 x6 x7 x8 x9 x10 x11 x12 x13 x14 x15 x16 x17
  rcases xs with _ | ⟨x19, xs⟩
  · exact sd_1_19 x0 x1 x2 x3 x4 x5 x6 x7 x8 x9 x10 x11 x12 x13 x14 x15 x16 x17 x18
  rcases xs with _ | ⟨x20, xs⟩
  · exact sd_1_20 x0 x1 x2 x3 x4 x5 x6 x7 x8 x9 x10 x11 x12 x13 x14 x15 x16 x17 x18 x19
  rcases xs with _ | ⟨x21, xs⟩
  · exact sd_1_21 x0 x1 x2 x3 x4 x5 x6 x7 x8 x9 x10 x11 x12 x13 x14 x15 x16 x17 x18 x19 x20
  rcases xs with _ | ⟨x22, xs⟩
  · exact sd_1_22 x0 x1 x2 x3 x4 x5 x6 x7 x8 x9 x10 x11 x12 x13 x14 x15 x16 x17 x18 x19 x20 x21
  rcases xs with _ | ⟨x23, xs⟩
  · exact sd_1_23 x0 x1 x2 x3 x4 x5 x6 x7 x8 x9 x10 x11 x12 x13 x14 x15 x16 x17 x18 x19 x20 x21 x22
  rcases xs with _ | ⟨x24, xs⟩
  · exact sd_1_24 x0 x1 x2 x3 x4 x5 x6 x7 x8 x9 x10 x11 x12 x13 x14 x15 x16 x17 x18 x19 x20 x21 x22 x23
  rcases xs with _ | ⟨x25, xs⟩
  · exact sd_1_25 x0 x1 x2 x3 x4 x5 x6 x7 x8 x9 x10 x11 x12 x13 x14 x15 x16 x17 x18 x19 x20 x21 x22 x23 x24
  rcases xs with _ | ⟨x26, xs⟩
  · exact sd_1_26 x0 x1 x2 x3 x4 x5 x6 x7 x8 x9 x10 x11 x12 x13 x14 x15 x16 x17 x18 x19 x20 x21 x22 x23 x24 x25
  rcases xs with _ | ⟨x27, xs⟩
  · exact sd_1_27 x0 x1 x2 x3 x4 x5 x6 x7 x8 x9 x10 x11 x12 x13 x14 x15 x16 x17 x18 x19 x20 x21 x22 x23 x24 x25 x26
  rcases xs with _ | ⟨x28, xs⟩
  · exact sd_1_28 x0 x1 x2 x3 x4 x5 x6 x7 x8 x9 x10 x11 x12 x13 x14 x15 x16 x17 x18 x19 x20 x21 x22 x23 x24 x25 x26 x27
  rcases xs with _ | ⟨x29, xs⟩
  · exact sd_1_29 x0 x1 x2 x3 x4 x5 x6 x7 x8 x9 x10 x11 x12 x13 x14 x15 x16 x17 x18 x19 x20 x21 x22 x23 x24 x25 x26 x27 x28
  rcases xs with _ | ⟨x30, xs⟩
  · exact sd_1_30 x0 x1 x2 x3 x4 x5 x6 x7 x8 x9 x10 x11 x12 x13 x14 x15 x16 x17 x18 x19 x20 x21 x22 x23 x24 x25 x26 x27 x28 x29
  rcases xs with _ | ⟨x31, xs⟩
  · exact sd_1_31 x0 x1 x2 x3 x4 x5 x6 x7 x8 x9 x10 x11 x12 x13 x14 x15 x16 x17 x18 x19 x20 x21 x22 x23 x24 x25 x26 x27 x28 x29 x30
  rcases xs with _ | ⟨x32, xs⟩
  · exact sd_1_32 x0 x1 x2 x3 x4 x5 x6 x7 x8 x9 x10 x11 x12 x13 x14 x15 x16 x17 x18 x19 x20 x21 x22 x23 x24 x25 x26 x27 x28 x29 x30 x31
  rcases xs with _ | ⟨x33, xs⟩
  · exact sd_1_33 x0 x1 x2 x3 x4 x5 x6 x7 x8 x9 x10 x11 x12 x13 x14 x15 x16 x17 x18 x19 x20 x21 x22 x23 x24 x25 x26 x27 x28 x29 x30 x31 x32
  rcases xs with _ | ⟨x34, xs⟩
  · exact sd_1_34 x0 x1 x2 x3 x4 x5 x6 x7 x8 x9 x10 x11 x12 x13 x14 x15 x16 x17 x18 x19 x20 x21 x22 x23 x24 x25 x26 x27 x28 x29 x30 x31 x32 x33
  rcases xs with _ | ⟨x35, xs⟩
  · exact sd_1_35 x0 x1 x2 x3 x4 x5 x6 x7 x8 x9 x10 x11 x12 x13 x14 x15 x16 x17 x18 x19 x20 x21 x22 x23 x24 x25 x26 x27 x28 x29 x30 x31 x32 x33 x34
  rcases xs with _ | ⟨x36, xs⟩
  · exact sd_1_36 x0 x1 x2 x3 x4 x5 x6 x7 x8 x9 x10 x11 x12 x13 x14 x15 x16 x17 x18 x19 x20 x21 x22 x23 x24 x25 x26 x27 x28 x29 x30 x31 x32 x33 x34 x35
  rcases xs with _ | ⟨x37, xs⟩
  · exact sd_1_37 x0 x1 x2 x3 x4 x5 x6 x7 x8 x9 x10 x11 x12 x13 x14 x15 x16 x17 x18 x19 x20 x21 x22 x23 x24 x25 x26 x27 x28 x29 x30 x31 x32 x33 x34 x35 x36
  rcases xs with _ | ⟨x38, xs⟩
  · exact sd_1_38 x0 x1 x2 x3 x4 x5 x6 x7 x8 x9 x10 x11 x12 x13 x14 x15 x16 x17 x18 x19 x20 x21 x22 x23 x24 x25 x26 x27 x28 x29 x30 x31 x32 x33 x34 x35 x36 x37
  rcases xs with _ | ⟨x39, xs⟩
  · exact sd_1_39 x0 x1 x2 x3 x4 x5 x6 x7 x8 x9 x10 x11 x12 x13 x14 x15 x16 x17 x18 x19 x20 x21 x22 x23 x24 x25 x26 x27 x28 x29 x30 x31 x32 x33 x34 x35 x36 x37 x38
  rcases xs with _ | ⟨x40, xs⟩
  · exact sd_1_40 x0 x1 x2 x3 x4 x5 x6 x7 x8 x9 x10 x11 x12 x13 x14 x15 x16 x17 x18 x19 x20 x21 x22 x23 x24 x25 x26 x27 x28 x29 x30 x31 x32 x33 x34 x35 x36 x37 x38 x39
  exact absurd h (by simp only [List.length_cons]; omega)
theorem sdx_2 (xs : List Int) (h : xs.length ≤ 40) : sdrun 2 (.slice (some ⟨1, 0, none⟩) xs.length 1) (flatH [xs.map (Value.int .u8)]) = true := by
  rcases xs with _ | ⟨x0, xs⟩
  · exact sd_2_0 
  rcases xs with _ | ⟨x1, xs⟩
  · exact sd_2_1 x0
  rcases xs with _ | ⟨x2, xs⟩
  · exact sd_2_2 x0 x1
  rcases xs with _ | ⟨x3, xs⟩
  · exact sd_2_3 x0 x1 x2
  rcases xs with _ | ⟨x4, xs⟩
  · exact sd_2_4 x0 x1 x2 x3
  rcases xs with _ | ⟨x5, xs⟩
  · exact sd_2_5 x0 x1 x2 x3 x4
  rcases xs with _ | ⟨x6, xs⟩
  · exact sd_2_6 x0 x1 x2 x3 x4 x5
  rcases xs with _ | ⟨x7, xs⟩
  · exact sd_2_7 x0 x1 x2 x3 x4 x5 x6
  rcases xs with _ | ⟨x8, xs⟩
  · exact sd_2_8 x0 x1 x2 x3 x4 x5 x6 x7
  rcases xs with _ | ⟨x9, xs⟩
  · exact sd_2_9 x0 x1 x2 x3 x4 x5 x6 x7 x8
  rcases xs with _ | ⟨x10, xs⟩
  · exact sd_2_10 x0 x1 x2 x3 x4 x5 x6 x7 x8 x9
  rcases xs with _ | ⟨x11, xs⟩
  · exact sd_2_11 x0 x1 x2 x3 x4 x5 x6 x7 x8 x9 x10
  rcases xs with _ | ⟨x12, xs⟩
  · exact sd_2_12 x0 x1 x2 x3 x4 x5 x6 x7 x8 x9 x10 x11
  rcases xs with _ | ⟨x13, xs⟩
  · exact sd_2_13 x0 x1 x2 x3 x4 x5 x6 x7 x8 x9 x10 x11 x12
  rcases xs with _ | ⟨x14, xs⟩
  · exact sd_2_14 x0 x1 x2 x3 x4 x5 x6 x7 x8 x9 x10 x11 x12 x13
  rcases xs with _ | ⟨x15, xs⟩
  · exact sd_2_15 x0 x1 x2 x3 x4 x5 x6 x7 x8 x9 x10 x11 x12 x13 x14
  rcases xs with _ | ⟨x16, xs⟩
  · exact sd_2_16 x0 x1 x2 x3 x4 x5 x6 x7 x8 x9 x10 x11 x12 x13 x14 x15
  rcases xs with _ | ⟨x17, xs⟩
  · exact sd_2_17 x0 x1 x2 x3 x4 x5 x6 x7 x8 x9 x10 x11 x12 x13 x14 x15 x16
  rcases xs with _ | ⟨x18, xs⟩
  · exact sd_2_18 x0 x1 x2 x3 x4 x5 x6 x7 x8 x9 x10 x11 x12 x13 x14 x15 x16 x17
  rcases xs with _ | ⟨x19, xs⟩
  · exact sd_2_19 x0 x1 x2 x3 x4 x5 x6 x7 x8 x9 x10 x11 x12 x13 x14 x15 x16 x17 x18
  rcases xs with _ | ⟨x20, xs⟩
  · exact sd_2_20 x0 x1 x2 x3 x4 x5 x6 x7 x8 x9 x10 x11 x12 x13 x14 x15 x16 x17 x18 x19
  rcases xs with _ | ⟨x21, xs⟩
  · exact sd_2_21 x0 x1 x2 x3 x4 x5 x6 x7 x8 x9 x10 x11 x12 x13 x14 x15 x16 x17 x18 x19 x20
  rcases xs with _ | ⟨x22, xs⟩
  · exact sd_2_22 x0 x1 x2 x3 x4 x5 x6 x7 x8 x9 x10 x11 x12 x13 x14 x15 x16 x17 x18 x19 x20 x21
  rcases xs with _ | ⟨x23, xs⟩
  · exact sd_2_23 x0 x1 x2 x3 x4 x5 x6 x7 x8 x9 x10 x11 x12 x13 x14 x15 x16 x17 x18 x19 x20 x21 x22
  rcases xs with _ | ⟨x24, xs⟩
  · exact sd_2_24 x0 x1 x2 x3 x4 x5 x6 x7 x8 x9 x10 x11 x12 x13 x14 x15 x16 x17 x18 x19 x20 x21 x22 x23
  rcases xs with _ | ⟨x25, xs⟩
  · exact sd_2_25 x0 x1 x2 x3 x4 x5 x6 x7 x8 x9 x10 x11 x12 x13 x14 x15 x16 x17 x18 x19 x20 x21 x22 x23 x24
  rcases xs with _ | ⟨x26, xs⟩
  · exact sd_2_26 x0 x1 x2 x3 x4 x5 x6 x7 x8 x9 x10 x11 x12 x13 x14 x15 x16 x17 x18 x19 x20 x21 x22 x23 x24 x25
  rcases xs with _ | ⟨x27, xs⟩
  · exact sd_2_27 x0 x1 x2 x3 x4 x5 x6 x7 x8 x9 x10 x11 x12 x13 x14 x15 x16 x17 x18 x19 x20 x21 x22 x23 x24 x25 x26
  rcases xs with _ | ⟨x28, xs⟩
  · exact sd_2_28 x0 x1 x2 x3 x4 x5 x6 x7 x8 x9 x10 x11 x12 x13 x14 x15 x16 x17 x18 x19 x20 x21 x22 x23 x24 x25 x26 x27
  rcases xs with _ | ⟨x29, xs⟩
  · exact sd_2_29 x0 x1 x2 x3 x4 x5 x6 x7 x8 x9 x10 x11 x12 x13 x14 x15 x16 x17 x18 x19 x20 x21 x22 x23 x24 x25 x26 x27 x28
  rcases xs with _ | ⟨x30, xs⟩
  · exact sd_2_30 x0 x1 x2 x3 x4 x5 x6 x7 x8 x9 x10 x11 x12 x13 x14 x15 x16 x17 x18 x19 x20 x21 x22 x23 x24 x25 x26 x27 x28 x29
  rcases xs with _ | ⟨x31, xs⟩
  · exact sd_2_31 x0 x1 x2 x3 x4 x5 x6 x7 x8 x9 x10 x11 x12 x13 x14 x15 x16 x17 x18 x19 x20 x21 x22 x23 x24 x25 x26 x27 x28 x29 x30
  rcases xs with _ | ⟨x32, xs⟩
  · exact sd_2_32 x0 x1 x2 x3 x4 x5 x6 x7 x8 x9 x10 x11 x12 x13 x14 x15 x16 x17 x18 x19 x20 x21 x22 x23 x24 x25 x26 x27 x28 x29 x30 x31
  rcases xs with _ | ⟨x33, xs⟩
  · exact sd_2_33 x0 x1 x2 x3 x4 x5 x6 x7 x8 x9 x10 x11 x12 x13 x14 x15 x16 x17 x18 x19 x20 x21 x22 x23 x24 x25 x26 x27 x28 x29 x30 x31 x32
  rcases xs with _ | ⟨x34, xs⟩
  · exact sd_2_34 x0 x1 x2 x3 x4 x5 x6 x7 x8 x9 x10 x11 x12 x13 x14 x15 x16 x17 x18 x19 x20 x21 x22 x23 x24 x25 x26 x27 x28 x29 x30 x31 x32 x33
  rcases xs with _ | ⟨x35, xs⟩
  · exact sd_2_35 x0 x1 x2 x3 x4 x5 x6 x7 x8 x9 x10 x11 x12 x13 x14 x15 x16 x17 x18 x19 x20 x21 x22 x23 x24 x25 x26 x27 x28 x29 x30 x31 x32 x33 x34
  rcases xs with _ | ⟨x36, xs⟩
  · exact sd_2_36 x0 x1 x2 x3 x4 x5 x6 x7 x8 x9 x10 x11 x12 x13 x14 x15 x16 x17 x18 x19 x20 x21 x22 x23 x24 x25 x26 x27 x28 x29 x30 x31 x32 x33 x34 x35
  rcases xs with _ | ⟨x37, xs⟩
  · exact sd_2_37 x0 x1 x2 x3 x4 x5 x6 x7 x8 x9 x10 x11 x12 x13 x14 x15 x16 x17 x18 x19 x20 x21 x22 x23 x24 x25 x26 x27 x28 x29 x30 x31 x32 x33 x34 x35 x36
  rcases xs with _ | ⟨x38, xs⟩
  · exact sd_2_38 x0 x1 x2 x3 x4 x5 x6 x7 x8 x9 x10 x11 x12 x13 x14 x15 x16 x17 x18 x19 x20 x21 x22 x23 x24 x25 x26 x27 x28 x29 x30 x31 x32 x33 x34 x35 x36 x37
  rcases xs with _ | ⟨x39, xs⟩
  · exact sd_2_39 x0 x1 x2 x3 x4 x5 x6 x7 x8 x9 x10 x11 x12 x13 x14 x15 x16 x17 x18 x19 x20 x21 x22 x23 x24 x25 x26 x27 x28 x29 x30 x31 x32 x33 x34 x35 x36 x37 x38
  rcases xs with _ | ⟨x40, xs⟩
  · exact sd_2_40 x0 x1 x2 x3 x4 x5 x6 x7 x8 x9 x10 x11 x12 x13 x14 x15 x16 x17 x18 x19 x20 x21 x22 x23 x24 x25 x26 x27 x28 x29 x30 x31 x32 x33 x34 x35 x36 x37 x38 x39
  exact absurd h (by simp only [List.length_cons]; omega)
theorem sdx_3 (xs : List Int) (h : xs.length ≤ 40) : sdrun 3 (.slice (some ⟨1, 0, none⟩) xs.length 1) (flatH [xs.map (Value.int .u8)]) = true := by
  rcases xs with _ | ⟨x0, xs⟩
  · exact sd_3_0 
  rcases xs with _ | ⟨x1, xs⟩
  · exact sd_3_1 x0
  rcases xs with _ | ⟨x2, xs⟩
  · exact sd_3_2 x0 x1
  rcases xs with _ | ⟨x3, xs⟩
  · exact sd_3_3 x0 x1 x2
  rcases xs with _ | ⟨x4, xs⟩
  · exact sd_3_4 x0 x1 x2 x3
  rcases xs with _ | ⟨x5, xs⟩
  · exact sd_3_5 x0 x1 x2 x3 x4
  rcases xs with _ | ⟨x6, xs⟩
  · exact sd_3_6 x0 x1 x2 x3 x4 x5
  rcases xs with _ | ⟨x7, xs⟩
  · exact sd_3_7 x0 x1 x2 x3 x4 x5 x6
  rcases xs with _ | ⟨x8, xs⟩
  · exact sd_3_8 x0 x1 x2 x3 x4 x5 x6 x7
  rcases xs with _ | ⟨x9, xs⟩
  · exact sd_3_9 x0 x1 x2 x3 x4 x5 x6 x7 x8
  rcases xs with _ | ⟨x10, xs⟩
  · exact sd_3_10 x0 x1 x2 x3 x4 x5 x6 x7 x8 x9
  rcases xs with _ | ⟨x11, xs⟩
  · exact sd_3_11 x0 x1 x2 x3 x4 x5 x6 x7 x8 x9 x10
  rcases xs with _ | ⟨x12, xs⟩
  · exact sd_3_12 x0 x1 x2 x3 x4 x5 x6 x7 x8 x9 x10 x11
  rcases xs with _ | ⟨x13, xs⟩
  · exact sd_3_13 x0 x1 x2 x3 x4 x5 x6 x7 x8 x9 x10 x11 x12
  rcases xs with _ | ⟨x14, xs⟩
  · exact sd_3_14 x0 x1 x2 x3 x4 x5 x6 x7 x8 x9 x10 x11 x12 x13
  rcases xs with _ | ⟨x15, xs⟩
  · exact sd_3_15 x0 x1 x2 x3 x4 x5 x6 x7 x8 x9 x10 x11 x12 x13 x14
  rcases xs with _ | ⟨x16, xs⟩
  · exact sd_3_16 x0 x1 x2 x3 x4 x5 x6 x7 x8 x9 x10 x11 x12 x13 x14 x15
  rcases xs with _ | ⟨x17, xs⟩
  · exact sd_3_17 x0 x1 x2 x3 x4 x5 x6 x7 x8 x9 x10 x11 x12 x13 x14 x15 x16
  rcases xs with _ | ⟨x18, xs⟩
  · exact sd_3_18 x0 x1 x2 x3 x4 x5 x6 x7 x8 x9 x10 x11 x12 x13 x14 x15 x16 x17
  rcases xs with _ | ⟨x19, xs⟩
  · exact sd_3_19 x0 x1 x2 x3 x4 x5 x6 x7 x8 x9 x10 x11 x12 x13 x14 x15 x16 x17 x18
  rcases xs with _ | ⟨x20, xs⟩
  · exact sd_3_20 x0 x1 x2 x3 x4 x5 x6 x7 x8 x9 x10 x11 x12 x13 x14 x15 x16 x17 x18 x19
  rcases xs with _ | ⟨x21, xs⟩
  · exact sd_3_21 x0 x1 x2 x3 x4 x5 x6 x7 x8 x9 x10 x11 x12 x13 x14 x15 x16 x17 x18 x19 x20
  rcases xs with _ | ⟨x22, xs⟩
  · exact sd_3_22 x0 x1 x2 x3 x4 x5 x6 x7 x8 x9 x10 x11 x12 x13 x14 x15 x16 x17 x18 x19 x20 x21
  rcases xs with _ | ⟨x23, xs⟩
  · exact sd_3_23 x0 x1 x2 x3 x4 x5 x6 x7 x8 x9 x10 x11 x12 x13 x14 x15 x16 x17 x18 x19 x20 x21 x22
  rcases xs with _ | ⟨x24, xs⟩
  · exact sd_3_24 x0 x1 x2 x3 x4 x5 x6 x7 x8 x9 x10 x11 x12 x13 x14 x15 x16 x17 x18 x19 x20 x21 x22 x23
  rcases xs with _ | ⟨x25, xs⟩
  · exact sd_3_25 x0 x1 x2 x3 x4 x5 x6 x7 x8 x9 x10 x11 x12 x13 x14 x15 x16 x17 x18 x19 x20 x21 x22 x23 x24
  rcases xs with _ | ⟨x26, xs⟩
  · exact sd_3_26 x0 x1 x2 x3 x4 x5 x6 x7 x8 x9 x10 x11 x12 x13 x14 x15 x16 x17 x18 x19 x20 x21 x22 x23 x24 x25
  rcases xs with _ | ⟨x27, xs⟩
  · exact sd_3_27 x0 x1 x2 x3 x4 x5 x6 x7 x8 x9 x10 x11 x12 x13 x14 x15 x16 x17 x18 x19 x20 x21 x22 x23 x24 x25 x26
  rcases xs with _ | ⟨x28, xs⟩
  · exact sd_3_28 x0 x1 x2 x3 x4 x5 x6 x7 x8 x9 x10 x11 x12 x13 x14 x15 x16 x17 x18 x19 x20 x21 x22 x23 x24 x25 x26 x27
  rcases xs with _ | ⟨x29, xs⟩
  · exact sd_3_29 x0 x1 x2 x3 x4 x5 x6 x7 x8 x9 x10 x11 x12 x13 x14 x15 x16 x17 x18 x19 x20 x21 x22 x23 x24 x25 x26 x27 x28
  rcases xs with _ | ⟨x30, xs⟩
  · exact sd_3_30 x0 x1 x2 x3 x4 x5 x6 x7 x8 x9 x10 x11 x12 x13 x14 x15 x16 x17 x18 x19 x20 x21 x22 x23 x24 x25 x26 x27 x28 x29
  rcases xs with _ | ⟨x31, xs⟩
  · exact sd_3_31 x0 x1 x2 x3 x4 x5 x6 x7 x8 x9 x10 x11 x12 x13 x14 x15 x16 x17 x18 x19 x20 x21 x22 x23 x24 x25 x26 x27 x28 x29 x30
  rcases xs with _ | ⟨x32, xs⟩
  · exact sd_3_32 x0 x1 x2 x3 x4 x5 x6 x7 x8 x9 x10 x11 x12 x13 x14 x15 x16 x17 x18 x19 x20 x21 x22 x23 x24 x25 x26 x27 x28 x29 x30 x31
  rcases xs with _ | ⟨x33, xs⟩
  · exact sd_3_33 x0 x1 x2 x3 x4 x5 x6 x7 x8 x9 x10 x11 x12 x13 x14 x15 x16 x17 x18 x19 x20 x21 x22 x23 x24 x25 x26 x27 x28 x29 x30 x31 x32
  rcases xs with _ | ⟨x34, xs⟩
  · exact sd_3_34 x0 x1 x2 x3 x4 x5 x6 x7 x8 x9 x10 x11 x12 x13 x14 x15 x16 x17 x18 x19 x20 x21 x22 x23 x24 x25 x26 x27 x28 x29 x30 x31 x32 x33
  rcases xs with _ | ⟨x35, xs⟩
  · exact sd_3_35 x0 x1 x2 x3 x4 x5 x6 x7 x8 x9 x10 x11 x12 x13 x14 x15 x16 x17 x18 x19 x20 x21 x22 x23 x24 x25 x26 x27 x28 x29 x30 x31 x32 x33 x34
  rcases xs with _ | ⟨x36, xs⟩
  · exact sd_3_36 x0 x1 x2 x3 x4 x5 x6 x7 x8 x9 x10 x11 x12 x13 x14 x15 x16 x17 x18 x19 x20 x21 x22 x23 x24 x25 x26 x27 x28 x29 x30 x31 x32 x33 x34 x35
  rcases xs with _ | ⟨x37, xs⟩
  · exact sd_3_37 x0 x1 x2 x3 x4 x5 x6 x7 x8 x9 x10 x11 x12 x13 x14 x15 x16 x17 x18 x19 x20 x21 x22 x23 x24 x25 x26 x27 x28 x29 x30 x31 x32 x33 x34 x35 x36
  rcases xs with _ | ⟨x38, xs⟩
  · exact sd_3_38 x0 x1 x2 x3 x4 x5 x6 x7 x8 x9 x10 x11 x12 x13 x14 x15 x16 x17 x18 x19 x20 x21 x22 x23 x24 x25 x26 x27 x28 x29 x30 x31 x32 x33 x34 x35 x36 x37
  rcases xs with _ | ⟨x39, xs⟩
  · exact sd_3_39 x0 x1 x2 x3 x4 x5 x6 x7 x8 x9 x10 x11 x12 x13 x14 x15 x16 x17 x18 x19 x20 x21 x22 x23 x24 x25 x26 x27 x28 x29 x30 x31 x32 x33 x34 x35 x36 x37 x38
  rcases xs with _ | ⟨x40, xs⟩
  · exact sd_3_40 x0 x1 x2 x3 x4 x5 x6 x7 x8 x9 x10 x11 x12 x13 x14 x15 x16 x17 x18 x19 x20 x21 x22 x23 x24 x25 x26 x27 x28 x29 x30 x31 x32 x33 x34 x35 x36 x37 x38 x39
  exact absurd h (by simp only [List.length_cons]; omega)
theorem sdx_4 (xs : List Int) (h : xs.length ≤ 40) : sdrun 4 (.slice (some ⟨1, 0, none⟩) xs.length 1) (flatH [xs.map (Value.int .u8)]) = true := by
  rcases xs with _ | ⟨x0, xs⟩
  · exact sd_4_0 
  rcases xs with _ | ⟨x1, xs⟩
  · exact sd_4_1 x0
  rcases xs with _ | ⟨x2, xs⟩
  · exact sd_4_2 x0 x1
  rcases xs with _ | ⟨x3, xs⟩
  · exact sd_4_3 x0 x1 x2
  rcases xs with _ | ⟨x4, xs⟩
  · exact sd_4_4 x0 x1 x2 x3
  rcases xs with _ | ⟨x5, xs⟩
  · exact sd_4_5 x0 x1 x2 x3 x4
  rcases xs with _ | ⟨x6, xs⟩
  · exact sd_4_6 x0 x1 x2 x3 x4 x5
  rcases xs with _ | ⟨x7, xs⟩
  · exact sd_4_7 x0 x1 x2 x3 x4 x5 x6
  rcases xs with _ | ⟨x8, xs⟩
  · exact sd_4_8 x0 x1 x2 x3 x4 x5 x6 x7
  rcases xs with _ | ⟨x9, xs⟩
  · exact sd_4_9 x0 x1 x2 x3 x4 x5 x6 x7 x8
  rcases xs with _ | ⟨x10, xs⟩
  · exact sd_4_10 x0 x1 x2 x3 x4 x5 x6 x7 x8 x9
  rcases xs with _ | ⟨x11, xs⟩
  · exact sd_4_11 x0 x1 x2 x3 x4 x5 x6 x7 x8 x9 x10
  rcases xs with _ | ⟨x12, xs⟩
  · exact sd_4_12 x0 x1 x2 x3 x4 x5 x6 x7 x8 x9 x10 x11
  rcases xs with _ | ⟨x13, xs⟩
  · exact sd_4_13 x0 x1 x2 x3 x4 x5 x6 x7 x8 x9 x10 x11 x12
  rcases xs with _ | ⟨x14, xs⟩
  · exact sd_4_14 x0 x1 x2 x3 x4 x5 x6 x7 x8 x9 x10 x11 x12 x13
  rcases xs with _ | ⟨x15, xs⟩
  · exact sd_4_15 x0 x1 x2 x3 x4 x5 x6 x7 x8 x9 x10 x11 x12 x13 x14
  rcases xs with _ | ⟨x16, xs⟩
  · exact sd_4_16 x0 x1 x2 x3 x4 x5 x6 x7 x8 x9 x10 x11 x12 x13 x14 x15
  rcases xs with _ | ⟨x17, xs⟩
  · exact sd_4_17 x0 x1 x2 x3 x4 x5 x6 x7 x8 x9 x10 x11 x12 x13 x14 x15 x16
  rcases xs with _ | ⟨x18, xs⟩
  · exact sd_4_18 x0 x1 x2 x3 x4 x5 x6 x7 x8 x9 x10 x11 x12 x13 x14 x15 x16 x17
  rcases xs with _ | ⟨x19, xs⟩
  · exact sd_4_19 x0 x1 x2 x3 x4 x5 x6 x7 x8 x9 x10 x11 x12 x13 x14 x15 x16 x17 x18
  rcases xs with _ | ⟨x20, xs⟩
  · exact sd_4_20 x0 x1 x2 x3 x4 x5 x6 x7 x8 x9 x10 x11 x12 x13 x14 x15 x16 x17 x18 x19
  rcases xs with _ | ⟨x21, xs⟩
  · exact sd_4_21 x0 x1 x2 x3 x4 x5 x6 x7 x8 x9 x10 x11 x12 x13 x14 x15 x16 x17 x18 x19 x20
  rcases xs with _ | ⟨x22, xs⟩
  · exact sd_4_22 x0 x1 x2 x3 x4 x5 x6 x7 x8 x9 x10 x11 x12 x13 x14 x15 x16 x17 x18 x19 x20 x21
  rcases xs with _ | ⟨x23, xs⟩
  · exact sd_4_23 x0 x1 x2 x3 x4 x5 x6 x7 x8 x9 x10 x11 x12 x13 x14 x15 x16 x17 x18 x19 x20 x21 x22
  rcases xs with _ | ⟨x24, xs⟩
  · exact sd_4_24 x0 x1 x2 x3 x4 x5 x6 x7 x8 x9 x10 x11 x12 x13 x14 x15 x16 x17 x18 x19 x20 x21 x22 x23
  rcases xs with _ | ⟨x25, xs⟩
  · exact sd_4_25 x0 x1 x2 x3 x4 x5 x6 x7 x8 x9 x10 x11 x12 x13 x14 x15 x16 x17 x18 x19 x20 x21 x22 x23 x24
  rcases xs with _ | ⟨x26, xs⟩
  · exact sd_4_26 x0 x1 x2 x3 x4 x5 x6 x7 x8 x9 x10 x11 x12 x13 x14 x15 x16 x17 x18 x19 x20 x21 x22 x23 x24 x25
  rcases xs with _ | ⟨x27, xs⟩
  · exact sd_4_27 x0 x1 x2 x3 x4 x5 x6 x7 x8 x9 x10 x11 x12 x13 x14 x15 x16 x17 x18 x19 x20 x21 x22 x23 x24 x25 x26
  rcases xs with _ | ⟨x28, xs⟩
  · exact sd_4_28 x0 x1 x2 x3 x4 x5 x6 x7 x8 x9 x10 x11 x12 x13 x14 x15 x16 x17 x18 x19 x20 x21 x22 x23 x24 x25 x26 x27
  rcases xs with _ | ⟨x29, xs⟩
  · exact sd_4_29 x0 x1 x2 x3 x4 x5 x6 x7 x8 x9 x10 x11 x12 x13 x14 x15 x16 x17 x18 x19 x20 x21 x22 x23 x24 x25 x26 x27 x28
  rcases xs with _ | ⟨x30, xs⟩
  · exact sd_4_30 x0 x1 x2 x3 x4 x5 x6 x7 x8 x9 x10 x11 x12 x13 x14 x15 x16 x17 x18 x19 x20 x21 x22 x23 x24 x25 x26 x27 x28 x29
  rcases xs with _ | ⟨x31, xs⟩
  · exact sd_4_31 x0 x1 x2 x3 x4 x5 x6 x7 x8 x9 x10 x11 x12 x13 x14 x15 x16 x17 x18 x19 x20 x21 x22 x23 x24 x25 x26 x27 x28 x29 x30
  rcases xs with _ | ⟨x32, xs⟩
  · exact sd_4_32 x0 x1 x2 x3 x4 x5 x6 x7 x8 x9 x10 x11 x12 x13 x14 x15 x16 x17 x18 x19 x20 x21 x22 x23 x24 x25 x26 x27 x28 x29 x30 x31
  rcases xs with _ | ⟨x33, xs⟩
  · exact sd_4_33 x0 x1 x2 x3 x4 x5 x6 x7 x8 x9 x10 x11 x12 x13 x14 x15 x16 x17 x18 x19 x20 x21 x22 x23 x24 x25 x26 x27 x28 x29 x30 x31 x32
  rcases xs with _ | ⟨x34, xs⟩
  · exact sd_4_34 x0 x1 x2 x3 x4 x5 x6 x7 x8 x9 x10 x11 x12 x13 x14 x15 x16 x17 x18 x19 x20 x21 x22 x23 x24 x25 x26 x27 x28 x29 x30 x31 x32 x33
  rcases xs with _ | ⟨x35, xs⟩
  · exact sd_4_35 x0 x1 x2 x3 x4 x5 x6 x7 x8 x9 x10 x11 x12 x13 x14 x15 x16 x17 x18 x19 x20 x21 x22 x23 x24 x25 x26 x27 x28 x29 x30 x31 x32 x33 x34
  rcases xs with _ | ⟨x36, xs⟩
  · exact sd_4_36 x0 x1 x2 x3 x4 x5 x6 x7 x8 x9 x10 x11 x12 x13 x14 x15 x16 x17 x18 x19 x20 x21 x22 x23 x24 x25 x26 x27 x28 x29 x30 x31 x32 x33 x34 x35
  rcases xs with _ | ⟨x37, xs⟩
  · exact sd_4_37 x0 x1 x2 x3 x4 x5 x6 x7 x8 x9 x10 x11 x12 x13 x14 x15 x16 x17 x18 x19 x20 x21 x22 x23 x24 x25 x26 x27 x28 x29 x30 x31 x32 x33 x34 x35 x36
  rcases xs with _ | ⟨x38, xs⟩
  · exact sd_4_38 x0 x1 x2 x3 x4 x5 x6 x7 x8 x9 x10 x11 x12 x13 x14 x15 x16 x17 x18 x19 x20 x21 x22 x23 x24 x25 x26 x27 x28 x29 x30 x31 x32 x33 x34 x35 x36 x37
  rcases xs with _ | ⟨x39, xs⟩
  · exact sd_4_39 x0 x1 x2 x3 x4 x5 x6 x7 x8 x9 x10 x11 x12 x13 x14 x15 x16 x17 x18 x19 x20 x21 x22 x23 x24 x25 x26 x27 x28 x29 x30 x31 x32 x33 x34 x35 x36 x37 x38
  rcases xs with _ | ⟨x40, xs⟩
  · exact sd_4_40 x0 x1 x2 x3 x4 x5 x6 x7 x8 x9 x10 x11 x12 x13 x14 x15 x16 x17 x18 x19 x20 x21 x22 x23 x24 x25 x26 x27 x28 x29 x30 x31 x32 x33 x34 x35 x36 x37 x38 x39
  exact absurd h (by simp only [List.length_cons]; omega)
theorem sd_runs {k : Nat} (hk : k < 5) {v : Value} {L : List (List Value)} (hv : BytesIn v L) (hn : ∀ a n c, v = .slice a n c → n ≤ 40) : sdrun k v (flatH L) = true := by
  rcases hv with ⟨rfl | rfl, rfl⟩ | ⟨xs, rfl, rfl⟩
  · rcases (show k = 0 ∨ k = 1 ∨ k = 2 ∨ k = 3 ∨ k = 4 by omega) with rfl | rfl | rfl | rfl | rfl
    · exact sd_0_n
    · exact sd_1_n
    · exact sd_2_n
    · exact sd_3_n
    · exact sd_4_n
  · rcases (show k = 0 ∨ k = 1 ∨ k = 2 ∨ k = 3 ∨ k = 4 by omega) with rfl | rfl | rfl | rfl | rfl
    · exact sd_0_e
    · exact sd_1_e
    · exact sd_2_e
    · exact sd_3_e
    · exact sd_4_e
  · have h := hn _ _ _ rfl
    rcases (show k = 0 ∨ k = 1 ∨ k = 2 ∨ k = 3 ∨ k = 4 by omega) with rfl | rfl | rfl | rfl | rfl
    · exact sdx_0 xs h
    · exact sdx_1 xs h
    · exact sdx_2 xs h
    · exact sdx_3 xs h
    · exact sdx_4 xs h
theorem rem_nat {a : Int} (ha : 0 ≤ a) {m : Nat} (hm : 0 < m) : ∃ A : Nat, A < m ∧ a.tmod (m : Int) = A := by
  have h1 := Int.tmod_nonneg (m : Int) ha
  have h2 := Int.tmod_lt_of_pos a (show (0 : Int) < (m : Int) by omega)
  exact ⟨(a.tmod m).toNat, by omega, by omega⟩
theorem C4 {x : Int} (hx : 0 ≤ x ∧ x ≤ 255) {a : Option Addr} {n c : Nat} {L : List (List Value)} (hv : BytesIn (.slice a n c) L) : Fn Try.prog 4 [.int .u8 x, .slice a n c] (flatH L) fun v _ => v = .bool true := by
  obtain ⟨K, hK, hKe⟩ := rem_nat hx.1 (m := 5) (by omega)
  have hKe' : x.tmod 5 = K := hKe
  refine fnK F4.fok rfl ?_
  refine K_reg (Wops_run rfl rfl (K_fin [(0, _), (1, _)] rfl (?_)))
  refine K_ss (K_reg (Wops_call rfl C14 ?_))
  rintro _ _ ⟨rfl, rfl⟩
  refine Wops_run rfl rfl (K_fin [(0, _), (1, _), (15, _)] rfl (?_))
  refine K_scond rfl (fun hc => by cases hc) (fun _ => ?_)
  refine K_sskip (K_ss (K_reg (Wops_run rfl rfl (Wops_run rfl rfl (Wops_run rfl rfl (K_fin [(0, _), (1, _), (18, _)] rfl (?_)))))))
  refine K_scond rfl (fun hc => ?_) (fun hc => ?_)
  · refine K_ss (K_reg (Wops_run rfl rfl (K_fin [(4, _)] rfl (?_))))
    exact K_sret (Told.mk _ rfl rfl)
  have h40 : n ≤ 40 := by have := of_decide_eq_false hc; omega
  refine K_sskip (K_reg (Wops_run rfl rfl (Wops_rem rfl rfl (by decide) (Wops_as (w := .int .i64 (K : Int)) rfl rfl (by rw [hKe']; first | rw [w64 (by omega)] | rfl) (Wops_run rfl rfl (K_fin [(1, _), (5, _)] rfl (?_)))))))
  have hr : sdrun K (.slice a n c) (flatH L) = true := sd_runs hK hv (fun a' n' c' e => by injection e; omega)
  exact W_tells (n := 600) (c := SCode.rest 4 F4.code) T.ok hr fun _ => rfl
set_option maxRecDepth 100000 in
theorem sessDead_fn {L : List (List Value)} {vs : List Value} (hG : FlatG Try.prog 0 [5, 23] vs L) : Fn Try.prog 4 vs (flatH L) fun v _ => v = .bool true := by
  obtain ⟨v, r, rfl, hv, hF⟩ := flat_scal (P := Try.prog) (k := 0) (t := 5) (ts := [23]) (L' := L) (by rw [Try.underlying5]; simp) hG
  obtain ⟨x, rfl, hx⟩ := scal_int Try.underlying5 hv
  unfold FlatG at hF
  obtain ⟨v, r, rfl, hF⟩ := hF
  rw [Try.underlying23] at hF
  rcases hF with ⟨hv, hF⟩ | ⟨l, L2, rfl, rfl, hl, hF⟩
  · obtain ⟨rfl, rfl⟩ := hF
    have hb : BytesIn v [] := .inl ⟨hv, rfl⟩
    rcases hv with rfl | rfl
    · exact C4 (wf_u8 hx) hb
    · exact C4 (wf_u8 hx) hb
  · obtain ⟨rfl, rfl⟩ := hF
    obtain ⟨xs, rfl, _⟩ := scal_ints Try.underlying5 hl
    have e : (xs.map (Value.int .u8)).length = xs.length := by simp
    rw [e]
    exact C4 (wf_u8 hx) (.inr ⟨xs, rfl, rfl⟩)
end Go.Dx.SYtokfafjbdbdplaa
