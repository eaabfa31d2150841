/-
  No cell of these rows narrows 'for every input' (looked for: loops, veiled, ifaces, maps, wideKeys, modest, calm, conditions, laid).
  DERIVED. THE GIVEN ROWS OF THIS SEAT. 11 by the template 'for every input the law returns true; each argument reads behind the call as it read before'; 0 by the template 'total and deterministic' (their statements: YtokfafjbdbdplaaTotals.lean).
  GIVEN WITH THE SEED: the statements are not yours to turn. If you find one false, say at which input.
  Laid BY PROGRAM, IN A SANDBOX (cutbox-rows.mjs): the forced cells as the released guide's own fill.sh prints them over the translation 2fe6a0adda7c8bf1… (all of the seat's roots in one cut). By AI agents, Wed Nov 11 2026. No macro, syntax, notation, axiom, sorry.
-/
import Derived.Test.YtokfafjbdbdplaaChecked
import GoSem.Claim
import GoSem.ClaimJoined
import GoSem.ClaimMapViews
import Derived.JoinedTies
import Derived.KernelRfl
namespace Go.Proofs.Ytokfafjbdbdplaa
/- THE CELL 'sum', in the pinned program and in every row, IS THE sha256 OF THE DUMP (.gsa) THAT YtokfafjbdbdplaaProg.lean LOADS. Nothing in Lean hashes anything: it is a label: what it is worth is what the hold of that sum in a sandbox is worth. -/
noncomputable def Try.pinned : Pinned := { name := "ytokfafjbdbdplaa", sum := "2fe6a0adda7c8bf15f367718fa4507778a685b79b713bd6d42a4034c652a8ffd", checked := Try.checked }
namespace Rows
def none {H : Type} : Left H := { results := [], args := [] }

/-- 'cloakroomlaw26.SessCuts': WHATEVER THE INPUT: true; the input reads as it did. -/
def sessCutsSpec : ChangeSpec := { name := "sessCuts", fn := fun _ => fun
  | [d1, d2] => { results := [.lit (.bool true)], args := [d1, d2] }
  | _ => none }
def sessCutsRow : OpenClaim := { program := "ytokfafjbdbdplaa", sum := "2fe6a0adda7c8bf15f367718fa4507778a685b79b713bd6d42a4034c652a8ffd", func := "cloakroom/cloakroomlaw26.SessCuts", spec := "sessCuts", apart := false }
def SessCutsSaid : Prop := sessCutsRow.holds Try.pinned (OpenSpec.ofChange sessCutsSpec)

/-- ITS FALSE NEIGHBOUR: 'it returns false'. Refute it at one input. -/
def sessCutsWrong : ChangeSpec := { name := "sessCuts", fn := fun _ => fun
  | [d1, d2] => { results := [.lit (.bool false)], args := [d1, d2] }
  | _ => none }
def SessCutsWrongFalsely : Prop := sessCutsRow.holds Try.pinned (OpenSpec.ofChange sessCutsWrong)

/-- 'cloakroomlaw26.SessDead': WHATEVER THE INPUT: true; the input reads as it did. -/
def sessDeadSpec : ChangeSpec := { name := "sessDead", fn := fun _ => fun
  | [d1, d2] => { results := [.lit (.bool true)], args := [d1, d2] }
  | _ => none }
def sessDeadRow : OpenClaim := { program := "ytokfafjbdbdplaa", sum := "2fe6a0adda7c8bf15f367718fa4507778a685b79b713bd6d42a4034c652a8ffd", func := "cloakroom/cloakroomlaw26.SessDead", spec := "sessDead", apart := false }
def SessDeadSaid : Prop := sessDeadRow.holds Try.pinned (OpenSpec.ofChange sessDeadSpec)

/-- ITS FALSE NEIGHBOUR: 'it returns false'. Refute it at one input. -/
def sessDeadWrong : ChangeSpec := { name := "sessDead", fn := fun _ => fun
  | [d1, d2] => { results := [.lit (.bool false)], args := [d1, d2] }
  | _ => none }
def SessDeadWrongFalsely : Prop := sessDeadRow.holds Try.pinned (OpenSpec.ofChange sessDeadWrong)

/-- 'cloakroomlaw26.SessAll': WHATEVER THE INPUT: true; the input reads as it did. -/
def sessAllSpec : ChangeSpec := { name := "sessAll", fn := fun _ => fun
  | [d1, d2, d3, d4] => { results := [.lit (.bool true)], args := [d1, d2, d3, d4] }
  | _ => none }
def sessAllRow : OpenClaim := { program := "ytokfafjbdbdplaa", sum := "2fe6a0adda7c8bf15f367718fa4507778a685b79b713bd6d42a4034c652a8ffd", func := "cloakroom/cloakroomlaw26.SessAll", spec := "sessAll", inPlace := ["maps.clone"], apart := false }
def SessAllSaid : Prop := sessAllRow.holds Try.pinned (OpenSpec.ofChange sessAllSpec)

/-- ITS FALSE NEIGHBOUR: 'it returns false'. Refute it at one input. -/
def sessAllWrong : ChangeSpec := { name := "sessAll", fn := fun _ => fun
  | [d1, d2, d3, d4] => { results := [.lit (.bool false)], args := [d1, d2, d3, d4] }
  | _ => none }
def SessAllWrongFalsely : Prop := sessAllRow.holds Try.pinned (OpenSpec.ofChange sessAllWrong)

/-- 'cloakroomlaw26.SessApart': WHATEVER THE INPUT: true; the input reads as it did. -/
def sessApartSpec : ChangeSpec := { name := "sessApart", fn := fun _ => fun
  | [d1, d2] => { results := [.lit (.bool true)], args := [d1, d2] }
  | _ => none }
def sessApartRow : OpenClaim := { program := "ytokfafjbdbdplaa", sum := "2fe6a0adda7c8bf15f367718fa4507778a685b79b713bd6d42a4034c652a8ffd", func := "cloakroom/cloakroomlaw26.SessApart", spec := "sessApart", inPlace := ["maps.clone"], unfollowed := true, recurses := true, apart := false }
def SessApartSaid : Prop := sessApartRow.holds Try.pinned (OpenSpec.ofChange sessApartSpec)

/-- ITS FALSE NEIGHBOUR: 'it returns false'. Refute it at one input. -/
def sessApartWrong : ChangeSpec := { name := "sessApart", fn := fun _ => fun
  | [d1, d2] => { results := [.lit (.bool false)], args := [d1, d2] }
  | _ => none }
def SessApartWrongFalsely : Prop := sessApartRow.holds Try.pinned (OpenSpec.ofChange sessApartWrong)

/-- 'cloakroomlaw11.ValMade': WHATEVER THE INPUT: true; the input reads as it did. -/
def valMadeSpec : ChangeSpec := { name := "valMade", fn := fun _ => fun
  | [d] => { results := [.lit (.bool true)], args := [d] }
  | _ => none }
def valMadeRow : OpenClaim := { program := "ytokfafjbdbdplaa", sum := "2fe6a0adda7c8bf15f367718fa4507778a685b79b713bd6d42a4034c652a8ffd", func := "cloakroom/cloakroomlaw11.ValMade", spec := "valMade", unfollowed := true, recurses := true, apart := false }
def ValMadeSaid : Prop := valMadeRow.holds Try.pinned (OpenSpec.ofChange valMadeSpec)

/-- ITS FALSE NEIGHBOUR: 'it returns false'. Refute it at one input. -/
def valMadeWrong : ChangeSpec := { name := "valMade", fn := fun _ => fun
  | [d] => { results := [.lit (.bool false)], args := [d] }
  | _ => none }
def ValMadeWrongFalsely : Prop := valMadeRow.holds Try.pinned (OpenSpec.ofChange valMadeWrong)

/-- 'cloakroomlaw11.ValSmall': WHATEVER THE INPUT: true; the input reads as it did. -/
def valSmallSpec : ChangeSpec := { name := "valSmall", fn := fun _ => fun
  | [d1, d2, d3] => { results := [.lit (.bool true)], args := [d1, d2, d3] }
  | _ => none }
def valSmallRow : OpenClaim := { program := "ytokfafjbdbdplaa", sum := "2fe6a0adda7c8bf15f367718fa4507778a685b79b713bd6d42a4034c652a8ffd", func := "cloakroom/cloakroomlaw11.ValSmall", spec := "valSmall", unfollowed := true, recurses := true, apart := false }
def ValSmallSaid : Prop := valSmallRow.holds Try.pinned (OpenSpec.ofChange valSmallSpec)

/-- ITS FALSE NEIGHBOUR: 'it returns false'. Refute it at one input. -/
def valSmallWrong : ChangeSpec := { name := "valSmall", fn := fun _ => fun
  | [d1, d2, d3] => { results := [.lit (.bool false)], args := [d1, d2, d3] }
  | _ => none }
def ValSmallWrongFalsely : Prop := valSmallRow.holds Try.pinned (OpenSpec.ofChange valSmallWrong)

/-- 'cloakroomlaw11.ValEach': WHATEVER THE INPUT: true; the input reads as it did. -/
def valEachSpec : ChangeSpec := { name := "valEach", fn := fun _ => fun
  | [d1, d2, d3] => { results := [.lit (.bool true)], args := [d1, d2, d3] }
  | _ => none }
def valEachRow : OpenClaim := { program := "ytokfafjbdbdplaa", sum := "2fe6a0adda7c8bf15f367718fa4507778a685b79b713bd6d42a4034c652a8ffd", func := "cloakroom/cloakroomlaw11.ValEach", spec := "valEach", unfollowed := true, recurses := true, apart := false }
def ValEachSaid : Prop := valEachRow.holds Try.pinned (OpenSpec.ofChange valEachSpec)

/-- ITS FALSE NEIGHBOUR: 'it returns false'. Refute it at one input. -/
def valEachWrong : ChangeSpec := { name := "valEach", fn := fun _ => fun
  | [d1, d2, d3] => { results := [.lit (.bool false)], args := [d1, d2, d3] }
  | _ => none }
def ValEachWrongFalsely : Prop := valEachRow.holds Try.pinned (OpenSpec.ofChange valEachWrong)

/-- 'cloakroomlaw11.ValDead': WHATEVER THE INPUT: true; the input reads as it did. -/
def valDeadSpec : ChangeSpec := { name := "valDead", fn := fun _ => fun
  | [d1, d2, d3] => { results := [.lit (.bool true)], args := [d1, d2, d3] }
  | _ => none }
def valDeadRow : OpenClaim := { program := "ytokfafjbdbdplaa", sum := "2fe6a0adda7c8bf15f367718fa4507778a685b79b713bd6d42a4034c652a8ffd", func := "cloakroom/cloakroomlaw11.ValDead", spec := "valDead", unfollowed := true, recurses := true, apart := false }
def ValDeadSaid : Prop := valDeadRow.holds Try.pinned (OpenSpec.ofChange valDeadSpec)

/-- ITS FALSE NEIGHBOUR: 'it returns false'. Refute it at one input. -/
def valDeadWrong : ChangeSpec := { name := "valDead", fn := fun _ => fun
  | [d1, d2, d3] => { results := [.lit (.bool false)], args := [d1, d2, d3] }
  | _ => none }
def ValDeadWrongFalsely : Prop := valDeadRow.holds Try.pinned (OpenSpec.ofChange valDeadWrong)

/-- 'cloakroomlaw11.ValForms': WHATEVER THE INPUT: true; the input reads as it did. -/
def valFormsSpec : ChangeSpec := { name := "valForms", fn := fun _ => fun
  | [] => { results := [.lit (.bool true)], args := [] }
  | _ => none }
def valFormsRow : OpenClaim := { program := "ytokfafjbdbdplaa", sum := "2fe6a0adda7c8bf15f367718fa4507778a685b79b713bd6d42a4034c652a8ffd", func := "cloakroom/cloakroomlaw11.ValForms", spec := "valForms", unfollowed := true, recurses := true, apart := false }
def ValFormsSaid : Prop := valFormsRow.holds Try.pinned (OpenSpec.ofChange valFormsSpec)

/-- ITS FALSE NEIGHBOUR: 'it returns false'. Refute it at one input. -/
def valFormsWrong : ChangeSpec := { name := "valForms", fn := fun _ => fun
  | [] => { results := [.lit (.bool false)], args := [] }
  | _ => none }
def ValFormsWrongFalsely : Prop := valFormsRow.holds Try.pinned (OpenSpec.ofChange valFormsWrong)

/-- 'cloakroomlaw11.ValBranches': WHATEVER THE INPUT: true; the input reads as it did. -/
def valBranchesSpec : ChangeSpec := { name := "valBranches", fn := fun _ => fun
  | [d1, d2, d3] => { results := [.lit (.bool true)], args := [d1, d2, d3] }
  | _ => none }
def valBranchesRow : OpenClaim := { program := "ytokfafjbdbdplaa", sum := "2fe6a0adda7c8bf15f367718fa4507778a685b79b713bd6d42a4034c652a8ffd", func := "cloakroom/cloakroomlaw11.ValBranches", spec := "valBranches", unfollowed := true, recurses := true, apart := false }
def ValBranchesSaid : Prop := valBranchesRow.holds Try.pinned (OpenSpec.ofChange valBranchesSpec)

/-- ITS FALSE NEIGHBOUR: 'it returns false'. Refute it at one input. -/
def valBranchesWrong : ChangeSpec := { name := "valBranches", fn := fun _ => fun
  | [d1, d2, d3] => { results := [.lit (.bool false)], args := [d1, d2, d3] }
  | _ => none }
def ValBranchesWrongFalsely : Prop := valBranchesRow.holds Try.pinned (OpenSpec.ofChange valBranchesWrong)

/-- 'cloakroomlaw11.ValLocals': WHATEVER THE INPUT: true; the input reads as it did. -/
def valLocalsSpec : ChangeSpec := { name := "valLocals", fn := fun _ => fun
  | [d1, d2, d3, d4, d5] => { results := [.lit (.bool true)], args := [d1, d2, d3, d4, d5] }
  | _ => none }
def valLocalsRow : OpenClaim := { program := "ytokfafjbdbdplaa", sum := "2fe6a0adda7c8bf15f367718fa4507778a685b79b713bd6d42a4034c652a8ffd", func := "cloakroom/cloakroomlaw11.ValLocals", spec := "valLocals", unfollowed := true, recurses := true, apart := false }
def ValLocalsSaid : Prop := valLocalsRow.holds Try.pinned (OpenSpec.ofChange valLocalsSpec)

/-- ITS FALSE NEIGHBOUR: 'it returns false'. Refute it at one input. -/
def valLocalsWrong : ChangeSpec := { name := "valLocals", fn := fun _ => fun
  | [d1, d2, d3, d4, d5] => { results := [.lit (.bool false)], args := [d1, d2, d3, d4, d5] }
  | _ => none }
def ValLocalsWrongFalsely : Prop := valLocalsRow.holds Try.pinned (OpenSpec.ofChange valLocalsWrong)

/- THE SECOND FORM. 'bulk': how many values and letters a reading holds, each counted each time it is reached (what is shared counts as often as it is met; a slice's spare places count too). A statement '..UptoSaid' is the law's where the arguments, and the package variables that the reading takes, are together of bulk at most 1048576: NARROWER than '..Said'. Prove '..Said' where nothing that the law and all that it calls make is longer than what came in: it says more and counts as full. Else prove '..UptoSaid'. A law counts once. -/
mutual
def uptoBulk {H : Type} : DataW H → Nat
  | .lit (.string bytes) => bytes.length + 1
  | .lit _ => 1
  | .nil => 1
  | .ptr d => uptoBulk d + 1
  | .slice elems spare => uptoBulkAll elems + uptoBulkAll spare + 1
  | .agg parts => uptoBulkAll parts + 1
  | .iface _ d => uptoBulk d + 1
  | .map entries => uptoBulkEntries entries + 1
  | .held _ => 1
def uptoBulkAll {H : Type} : List (DataW H) → Nat
  | [] => 0
  | d :: r => uptoBulk d + uptoBulkAll r
def uptoBulkEntries {H : Type} : List (Lit × DataW H) → Nat
  | [] => 0
  | x :: r => uptoBulkEntry x + uptoBulkEntries r
def uptoBulkEntry {H : Type} : Lit × DataW H → Nat
  | (.string bytes, d) => bytes.length + uptoBulk d + 1
  | (_, d) => uptoBulk d + 1
 end
def uptoSmall : (H : Type) → List (DataW H) → Bool := fun _ ds => decide (uptoBulkAll ds ≤ 1048576)
def OpenSpec.upto (s : _root_.Go.ChangeSpec) : _root_.Go.OpenSpec := { _root_.Go.OpenSpec.ofChange s with cond := some uptoSmall }

/-- 'cloakroomlaw26.SessCuts', WHERE WHAT IT READS IS OF BULK AT MOST 1048576: true; the input reads as it did. -/
def sessCutsUptoRow : OpenClaim := { program := "ytokfafjbdbdplaa", sum := "2fe6a0adda7c8bf15f367718fa4507778a685b79b713bd6d42a4034c652a8ffd", func := "cloakroom/cloakroomlaw26.SessCuts", spec := "sessCuts", apart := false, narrowed := true }
def SessCutsUptoSaid : Prop := sessCutsUptoRow.holds Try.pinned (OpenSpec.upto sessCutsSpec)

/-- 'cloakroomlaw26.SessDead', WHERE WHAT IT READS IS OF BULK AT MOST 1048576: true; the input reads as it did. -/
def sessDeadUptoRow : OpenClaim := { program := "ytokfafjbdbdplaa", sum := "2fe6a0adda7c8bf15f367718fa4507778a685b79b713bd6d42a4034c652a8ffd", func := "cloakroom/cloakroomlaw26.SessDead", spec := "sessDead", apart := false, narrowed := true }
def SessDeadUptoSaid : Prop := sessDeadUptoRow.holds Try.pinned (OpenSpec.upto sessDeadSpec)

/-- 'cloakroomlaw26.SessAll', WHERE WHAT IT READS IS OF BULK AT MOST 1048576: true; the input reads as it did. -/
def sessAllUptoRow : OpenClaim := { program := "ytokfafjbdbdplaa", sum := "2fe6a0adda7c8bf15f367718fa4507778a685b79b713bd6d42a4034c652a8ffd", func := "cloakroom/cloakroomlaw26.SessAll", spec := "sessAll", inPlace := ["maps.clone"], apart := false, narrowed := true }
def SessAllUptoSaid : Prop := sessAllUptoRow.holds Try.pinned (OpenSpec.upto sessAllSpec)

/-- 'cloakroomlaw26.SessApart', WHERE WHAT IT READS IS OF BULK AT MOST 1048576: true; the input reads as it did. -/
def sessApartUptoRow : OpenClaim := { program := "ytokfafjbdbdplaa", sum := "2fe6a0adda7c8bf15f367718fa4507778a685b79b713bd6d42a4034c652a8ffd", func := "cloakroom/cloakroomlaw26.SessApart", spec := "sessApart", inPlace := ["maps.clone"], unfollowed := true, recurses := true, apart := false, narrowed := true }
def SessApartUptoSaid : Prop := sessApartUptoRow.holds Try.pinned (OpenSpec.upto sessApartSpec)

/-- 'cloakroomlaw11.ValMade', WHERE WHAT IT READS IS OF BULK AT MOST 1048576: true; the input reads as it did. -/
def valMadeUptoRow : OpenClaim := { program := "ytokfafjbdbdplaa", sum := "2fe6a0adda7c8bf15f367718fa4507778a685b79b713bd6d42a4034c652a8ffd", func := "cloakroom/cloakroomlaw11.ValMade", spec := "valMade", unfollowed := true, recurses := true, apart := false, narrowed := true }
def ValMadeUptoSaid : Prop := valMadeUptoRow.holds Try.pinned (OpenSpec.upto valMadeSpec)

/-- 'cloakroomlaw11.ValSmall', WHERE WHAT IT READS IS OF BULK AT MOST 1048576: true; the input reads as it did. -/
def valSmallUptoRow : OpenClaim := { program := "ytokfafjbdbdplaa", sum := "2fe6a0adda7c8bf15f367718fa4507778a685b79b713bd6d42a4034c652a8ffd", func := "cloakroom/cloakroomlaw11.ValSmall", spec := "valSmall", unfollowed := true, recurses := true, apart := false, narrowed := true }
def ValSmallUptoSaid : Prop := valSmallUptoRow.holds Try.pinned (OpenSpec.upto valSmallSpec)

/-- 'cloakroomlaw11.ValEach', WHERE WHAT IT READS IS OF BULK AT MOST 1048576: true; the input reads as it did. -/
def valEachUptoRow : OpenClaim := { program := "ytokfafjbdbdplaa", sum := "2fe6a0adda7c8bf15f367718fa4507778a685b79b713bd6d42a4034c652a8ffd", func := "cloakroom/cloakroomlaw11.ValEach", spec := "valEach", unfollowed := true, recurses := true, apart := false, narrowed := true }
def ValEachUptoSaid : Prop := valEachUptoRow.holds Try.pinned (OpenSpec.upto valEachSpec)

/-- 'cloakroomlaw11.ValDead', WHERE WHAT IT READS IS OF BULK AT MOST 1048576: true; the input reads as it did. -/
def valDeadUptoRow : OpenClaim := { program := "ytokfafjbdbdplaa", sum := "2fe6a0adda7c8bf15f367718fa4507778a685b79b713bd6d42a4034c652a8ffd", func := "cloakroom/cloakroomlaw11.ValDead", spec := "valDead", unfollowed := true, recurses := true, apart := false, narrowed := true }
def ValDeadUptoSaid : Prop := valDeadUptoRow.holds Try.pinned (OpenSpec.upto valDeadSpec)

/-- 'cloakroomlaw11.ValForms', WHERE WHAT IT READS IS OF BULK AT MOST 1048576: true; the input reads as it did. -/
def valFormsUptoRow : OpenClaim := { program := "ytokfafjbdbdplaa", sum := "2fe6a0adda7c8bf15f367718fa4507778a685b79b713bd6d42a4034c652a8ffd", func := "cloakroom/cloakroomlaw11.ValForms", spec := "valForms", unfollowed := true, recurses := true, apart := false, narrowed := true }
def ValFormsUptoSaid : Prop := valFormsUptoRow.holds Try.pinned (OpenSpec.upto valFormsSpec)

/-- 'cloakroomlaw11.ValBranches', WHERE WHAT IT READS IS OF BULK AT MOST 1048576: true; the input reads as it did. -/
def valBranchesUptoRow : OpenClaim := { program := "ytokfafjbdbdplaa", sum := "2fe6a0adda7c8bf15f367718fa4507778a685b79b713bd6d42a4034c652a8ffd", func := "cloakroom/cloakroomlaw11.ValBranches", spec := "valBranches", unfollowed := true, recurses := true, apart := false, narrowed := true }
def ValBranchesUptoSaid : Prop := valBranchesUptoRow.holds Try.pinned (OpenSpec.upto valBranchesSpec)

/-- 'cloakroomlaw11.ValLocals', WHERE WHAT IT READS IS OF BULK AT MOST 1048576: true; the input reads as it did. -/
def valLocalsUptoRow : OpenClaim := { program := "ytokfafjbdbdplaa", sum := "2fe6a0adda7c8bf15f367718fa4507778a685b79b713bd6d42a4034c652a8ffd", func := "cloakroom/cloakroomlaw11.ValLocals", spec := "valLocals", unfollowed := true, recurses := true, apart := false, narrowed := true }
def ValLocalsUptoSaid : Prop := valLocalsUptoRow.holds Try.pinned (OpenSpec.upto valLocalsSpec)

end Rows
end Go.Proofs.Ytokfafjbdbdplaa
