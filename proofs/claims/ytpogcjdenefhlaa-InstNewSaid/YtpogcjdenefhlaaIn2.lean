/- Whether instances do anything yet: begun. -/
import Derived.Test.YtpogcjdenefhlaaIn1
namespace Go.Dx
set_option linter.unusedVariables false
section
variable {P : Program} {T : List (Nat × SFn)} {kn : Kn} {kx : Nat → Kn} {kr : Kn}
/-- The first steps of code, run. -/
noncomputable def preR (T : List (Nat × SFn)) (n : Nat) (k : Nat) : SCode → Env → Heap → Option (Env × Heap) :=
  Nat.rec (motive := fun _ => SCode → Env → Heap → Option (Env × Heap)) (fun _ e h => some (e, h)) (fun _ ih c e h =>
    match c with
    | .seq a b => match codeR (fnR T n) n a e h with
      | some (.normal, e', h') => ih b e' h'
      | _ => none
    | _ => none) k
theorem W_pre (hT : ∀ f F, lookN T f = some F → FOk P f F) {n : Nat} : ∀ (k : Nat) {c : SCode} {e : Env} {h : Heap} {e' : Env} {h' : Heap}, preR T n k c e h = some (e', h') → W P (SCode.rest k c) e' h' (K3 kn kx kr) → W P c e h (K3 kn kx kr)
  | 0, c, e, h, e', h', ht, hw => by
    cases ht
    cases c <;> exact hw
  | k + 1, c, e, h, e', h', ht, hw => by
    cases c with
    | seq a b =>
      have ht' : (match codeR (fnR T n) n a e h with
        | some (.normal, e', h') => preR T n k b e' h'
        | _ => none) = some (e', h') := ht
      split at ht'
      · rename_i e1 h1 hr
        rw [codeR_eq, fnR_eq] at hr
        exact K_seq (dcode_ok (dfn_ok hT n) n _ _ _ _ _ _ _ hr (W_pre hT k ht' hw))
      · cases ht'
    | _ => exact (by cases (show (none : Option (Env × Heap)) = some (e', h') from ht))
end
theorem SlA.all {h : Heap} {id n c : Nat} {l : List Value} {ro : Bool} (g : At h id (.cells l 1 ro)) (hn : l.length = n) : SlA h 1 (some ⟨id, 0, .none⟩) n c l := by
  have := SlA.mk' (n := n) (sz := 1) (off := 0) (c := c) g (by omega) (.inr (.inr rfl))
  rwa [List.drop_zero, Nat.mul_one, List.take_of_length_le (by omega)] at this
end Go.Dx
namespace Go.Dx.SYtpogcjdenefhlaa
open Go.Proofs
set_option linter.unusedVariables false
set_option linter.unusedSimpArgs false
noncomputable def b5 : Option (Env × Heap) := preR T 400 5 F6.code [] Heap.empty
noncomputable def H5 : Heap := match b5 with
  | some (_, h) => h
  | none => Heap.empty
set_option maxRecDepth 100000 in
theorem b5_eq : b5 = some ([(1, ptr 57), (3, .int .u32 0), (4, ptr 164), (5, .int .i64 0), (8, .int .i64 10)], H5) := by kernel_rfl
abbrev sl1 (p n : Nat) : Value := .slice (some ⟨p, 0, none⟩) n 1
abbrev sl0 (p : Nat) : Value := .slice (some ⟨p, 0, none⟩) 0 0
abbrev m57 : List Value := [sl1 6 4, sl1 12 8, nilS, sl1 7 1, sl1 9 1, sl1 51 8, .bool false, .int .u32 0, nilS, .bool false, .int .u32 0, sl1 53 8, nilS]
set_option maxRecDepth 100000 in
theorem b5_57 : At H5 57 (.cells [sl1 6 4, sl1 12 8, nilS, sl1 7 1, sl1 9 1, sl1 51 8, .bool false, .int .u32 0, nilS, .bool false, .int .u32 0, sl1 53 8, nilS, sl1 153 8, sl1 58 65536, nilS, sl1 157 1, sl0 55, sl0 56, .int .i64 0] 0 false) := by unfold At; kernel_rfl
set_option maxRecDepth 100000 in
theorem b5_58 : At H5 58 (.cells (zeros [.int .u8 0] 65536) 1 false) := by unfold At; kernel_rfl
set_option maxRecDepth 100000 in
theorem b5_157 : At H5 157 (.cells [.int .u64 0] 1 false) := by unfold At; kernel_rfl
set_option maxRecDepth 100000 in
theorem b5_55 : At H5 55 (.cells [] 1 false) := by unfold At; kernel_rfl
set_option maxRecDepth 100000 in
theorem b5_56 : At H5 56 (.cells [] 1 false) := by unfold At; kernel_rfl
set_option maxRecDepth 100000 in
theorem b5_164 : At H5 164 (.cells [sl1 161 1, sl1 163 1] 0 false) := by unfold At; kernel_rfl
theorem b5_in : In0 H5 57 m57 (sl1 153 8) (List.replicate 65536 0) [0] [] [] := by
  have g58 := b5_58
  rw [zeros_ints] at g58
  refine ⟨⟨some ⟨58, 0, none⟩, 1, some ⟨157, 0, none⟩, 1, some ⟨55, 0, none⟩, 0, some ⟨56, 0, none⟩, 0, [.int .i64 0], ?_, ?_, ?_, ?_, ?_⟩, rfl, by decide, rfl, by rw [List.length_replicate]; decide, by decide, by decide, by decide⟩
  · rw [List.length_replicate]; exact b5_57
  · rw [List.length_replicate]; exact SlA.all g58 (by rw [ints, List.length_map, List.length_replicate])
  · exact SlA.all b5_157 rfl
  · exact SlA.all b5_55 rfl
  · exact SlA.all b5_56 rfl
/-- begun, at the empty heap -/
theorem C6e : Fn Try.prog 6 [] Heap.empty fun v h' => v = .bool true := by
  refine fnK F6.fok rfl ?_
  refine W_pre T.ok 5 b5_eq ?_
  have I := b5_in
  have g4 := b5_164
  refine K_reg (Wops_run rfl rfl ((Wops_call rfl (C16 I) ?_)))
  rintro _ h6 ⟨q, rfl, Iq, x6⟩
  have I6 := I.ext0 x6
  have g46 := g4.ext x6
  have g57 := b5_57.ext x6
  refine Wops_run rfl rfl (K_fin [(1, _), (3, _), (4, _), (5, _), (8, _), (9, _)] rfl (?_))
  refine K_reg (Wops_run rfl rfl (Wops_run rfl rfl (Wops_run rfl rfl ((Wops_ld rfl g57 (by rfl) ?_)))))
  refine Wops_run rfl rfl (Wops_run rfl rfl (Wops_run rfl rfl (Wops_go rfl (?_))))
  refine Wops_run rfl rfl (Wops_go rfl (?_))
  refine Wops_run rfl rfl (Wops_go rfl (?_))
  refine Wops_run rfl rfl (Wops_go rfl (?_))
  refine (Wops_ld rfl g57 (by rfl) ?_)
  refine Wops_go rfl (?_)
  refine Wops_run rfl rfl (Wops_go rfl (?_))
  refine Wops_run rfl rfl (Wops_run rfl rfl (Wops_run rfl rfl (Wops_go rfl (?_))))
  refine Wops_run rfl rfl (Wops_go rfl (?_))
  refine Wops_run rfl rfl (Wops_run rfl rfl (Wops_run rfl rfl (Wops_go rfl (?_))))
  refine Wops_run rfl rfl (Wops_go rfl (?_))
  refine Wops_run rfl rfl (Wops_run rfl rfl (Wops_run rfl rfl (Wops_go rfl (?_))))
  refine Wops_run rfl rfl (Wops_go rfl (?_))
  refine (Wops_ld rfl g46 (by rfl) ?_)
  refine Wops_go rfl (?_)
  refine Wops_run rfl rfl (Wops_go rfl (?_))
  refine Wops_run rfl rfl (Wops_run rfl rfl (Wops_run rfl rfl (Wops_go rfl (?_))))
  refine Wops_run rfl rfl (Wops_go rfl (?_))
  refine Wops_run rfl rfl (Wops_run rfl rfl (Wops_run rfl rfl (Wops_go rfl (?_))))
  refine Wops_run rfl rfl (Wops_go rfl (?_))
  refine Wops_run rfl rfl (Wops_go rfl (?_))
  refine (Wops_call rfl (C17 Iq I6) ?_)
  rintro _ _ ⟨rfl, rfl⟩
  refine Wops_run rfl rfl (Wops_run rfl rfl (Wops_go rfl (?_)))
  refine Wops_run rfl rfl (Wops_go rfl (?_))
  refine (Wops_call rfl (C17nil) ?_)
  rintro _ _ ⟨rfl, rfl⟩
  refine Wops_go rfl (?_)
  refine Wops_run rfl rfl (Wops_run rfl rfl (Wops_run rfl rfl (Wops_go rfl (?_))))
  refine Wops_run rfl rfl (Wops_go rfl (?_))
  refine Wops_run rfl rfl (Wops_go rfl (?_))
  refine Wops_run rfl rfl (Wops_go rfl (?_))
  refine (Wops_ld rfl g57 (by rfl) ?_)
  refine Wops_go rfl (?_)
  refine Wops_run rfl rfl (Wops_go rfl (?_))
  refine Wops_run rfl rfl (Wops_run rfl rfl (Wops_run rfl rfl (K_fin [(0, _)] rfl (?_))))
  exact K_ret (Told.mk _ rfl rfl)
theorem C6 {h : Heap} : Fn Try.prog 6 [] h fun v h' => v = .bool true ∧ h = h' := Fn.anywhere rfl C6e fun v h' q => by subst q; exact ⟨rfl, rfl⟩
end Go.Dx.SYtpogcjdenefhlaa
