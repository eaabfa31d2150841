/- ValDead: what its runs are. -/
import Derived.Test.YtokfafjbdbdplaaDxVT
import Derived.Test.YtokfafjbdbdplaaDx35
namespace Go.Dx.SYtokfafjbdbdplaa
open Go.Proofs
set_option linter.unusedVariables false
noncomputable def drun (way drops : Nat) (v : Value) (h : Heap) : Bool := tells F10.res (codeR (fnR T 400) 400 (SCode.rest 3 F10.code) [(0, .int .u8 way), (1, v), (2, .int .u8 drops), (20, .bool false)] h)
noncomputable def dl (way drops : Nat) (l : List Value) : Bool := drun way drops (.slice (some ⟨1, 0, none⟩) l.length 1) (flatH [l])
noncomputable def dn (way drops : Nat) : Bool := match drun way drops (.slice none 0 0) (flatH []) with
  | true => match drun way drops (.slice (some ⟨0, 0, none⟩) 0 0) (flatH []) with
    | true => dl way drops []
    | false => false
  | false => false
theorem dl_all {way drops : Nat} (h0 : dn way drops = true) (h1 : allL 3 (fun l => dl way drops (.bool true :: l)) = true) (h2 : allL 3 (fun l => dl way drops (.bool false :: l)) = true) : lsts 4 (drun way drops) = true := by
  have h0' : (match drun way drops (.slice none 0 0) (flatH []) with | true => (match drun way drops (.slice (some ⟨0, 0, none⟩) 0 0) (flatH []) with | true => dl way drops [] | false => false) | false => false) = true := h0
  show (match drun way drops (.slice none 0 0) (flatH []) with | true => (match drun way drops (.slice (some ⟨0, 0, none⟩) 0 0) (flatH []) with | true => allL 4 (dl way drops) | false => false) | false => false) = true
  split at h0'
  · rename_i q1
    split at h0'
    · rename_i q2
      show (match dl way drops [] with | true => (match allL 3 (fun l => dl way drops (.bool true :: l)) with | true => allL 3 (fun l => dl way drops (.bool false :: l)) | false => false) | false => false) = true
      rw [h0', h1]; exact h2
    · cases h0'
  · cases h0'
end Go.Dx.SYtokfafjbdbdplaa
