/-
  No cell of these rows narrows 'for every input' (looked for: loops, veiled, ifaces, maps, wideKeys, modest, calm, conditions, laid).
  DERIVED. THE GIVEN ROWS OF THIS SEAT. 6 by the template 'for every input the law returns true; each argument reads behind the call as it read before'; 0 by the template 'total and deterministic' (their statements: YtpkefdoleieloaaTotals.lean).
  GIVEN WITH THE SEED: the statements are not yours to turn. If you find one false, say at which input.
  Laid BY PROGRAM, IN A SANDBOX (cutbox-rows.mjs): the forced cells as the released guide's own fill.sh prints them over the translation d247988565749578… (all of the seat's roots in one cut). By AI agents, Wed Nov 11 2026. No macro, syntax, notation, axiom, sorry.
-/
import Derived.Test.YtpkefdoleieloaaChecked
import GoSem.Claim
import GoSem.ClaimJoined
import GoSem.ClaimMapViews
import Derived.JoinedTies
import Derived.KernelRfl
namespace Go.Proofs.Ytpkefdoleieloaa
/- THE CELL 'sum', in the pinned program and in every row, IS THE sha256 OF THE DUMP (.gsa) THAT YtpkefdoleieloaaProg.lean LOADS. Nothing in Lean hashes anything: it is a label: what it is worth is what the hold of that sum in a sandbox is worth. -/
noncomputable def Try.pinned : Pinned := { name := "ytpkefdoleieloaa", sum := "d247988565749578940afa984d01501dc31bb7ab169dca274517ba4c4a956aeb", checked := Try.checked }
namespace Rows
def none {H : Type} : Left H := { results := [], args := [] }

/-- 'cloakroomlaw9.AsmPuts': WHATEVER THE INPUT: true; the input reads as it did. -/
def asmPutsSpec : ChangeSpec := { name := "asmPuts", fn := fun _ => fun
  | [d] => { results := [.lit (.bool true)], args := [d] }
  | _ => none }
def asmPutsRow : OpenClaim := { program := "ytpkefdoleieloaa", sum := "d247988565749578940afa984d01501dc31bb7ab169dca274517ba4c4a956aeb", func := "cloakroom/cloakroomlaw9.AsmPuts", spec := "asmPuts", unfollowed := true, recurses := true, apart := false }
def AsmPutsSaid : Prop := asmPutsRow.holds Try.pinned (OpenSpec.ofChange asmPutsSpec)

/-- ITS FALSE NEIGHBOUR: 'it returns false'. Refute it at one input. -/
def asmPutsWrong : ChangeSpec := { name := "asmPuts", fn := fun _ => fun
  | [d] => { results := [.lit (.bool false)], args := [d] }
  | _ => none }
def AsmPutsWrongFalsely : Prop := asmPutsRow.holds Try.pinned (OpenSpec.ofChange asmPutsWrong)

/-- 'cloakroomlaw11.ValMade': WHATEVER THE INPUT: true; the input reads as it did. -/
def valMadeSpec : ChangeSpec := { name := "valMade", fn := fun _ => fun
  | [d] => { results := [.lit (.bool true)], args := [d] }
  | _ => none }
def valMadeRow : OpenClaim := { program := "ytpkefdoleieloaa", sum := "d247988565749578940afa984d01501dc31bb7ab169dca274517ba4c4a956aeb", func := "cloakroom/cloakroomlaw11.ValMade", spec := "valMade", unfollowed := true, recurses := true, apart := false }
def ValMadeSaid : Prop := valMadeRow.holds Try.pinned (OpenSpec.ofChange valMadeSpec)

/-- ITS FALSE NEIGHBOUR: 'it returns false'. Refute it at one input. -/
def valMadeWrong : ChangeSpec := { name := "valMade", fn := fun _ => fun
  | [d] => { results := [.lit (.bool false)], args := [d] }
  | _ => none }
def ValMadeWrongFalsely : Prop := valMadeRow.holds Try.pinned (OpenSpec.ofChange valMadeWrong)

/-- 'cloakroomlaw11.ValSmall': WHATEVER THE INPUT: true; the input reads as it did. -/
def valSmallSpec : ChangeSpec := { name := "valSmall", fn := fun _ => fun
  | [d1, d2, d3] => { results := [.lit (.bool true)], args := [d1, d2, d3] }
  | _ => none }
def valSmallRow : OpenClaim := { program := "ytpkefdoleieloaa", sum := "d247988565749578940afa984d01501dc31bb7ab169dca274517ba4c4a956aeb", func := "cloakroom/cloakroomlaw11.ValSmall", spec := "valSmall", unfollowed := true, recurses := true, apart := false }
def ValSmallSaid : Prop := valSmallRow.holds Try.pinned (OpenSpec.ofChange valSmallSpec)

/-- ITS FALSE NEIGHBOUR: 'it returns false'. Refute it at one input. -/
def valSmallWrong : ChangeSpec := { name := "valSmall", fn := fun _ => fun
  | [d1, d2, d3] => { results := [.lit (.bool false)], args := [d1, d2, d3] }
  | _ => none }
def ValSmallWrongFalsely : Prop := valSmallRow.holds Try.pinned (OpenSpec.ofChange valSmallWrong)

/-- 'cloakroomlaw11.ValLocals': WHATEVER THE INPUT: true; the input reads as it did. -/
def valLocalsSpec : ChangeSpec := { name := "valLocals", fn := fun _ => fun
  | [d1, d2, d3, d4, d5] => { results := [.lit (.bool true)], args := [d1, d2, d3, d4, d5] }
  | _ => none }
def valLocalsRow : OpenClaim := { program := "ytpkefdoleieloaa", sum := "d247988565749578940afa984d01501dc31bb7ab169dca274517ba4c4a956aeb", func := "cloakroom/cloakroomlaw11.ValLocals", spec := "valLocals", unfollowed := true, recurses := true, apart := false }
def ValLocalsSaid : Prop := valLocalsRow.holds Try.pinned (OpenSpec.ofChange valLocalsSpec)

/-- ITS FALSE NEIGHBOUR: 'it returns false'. Refute it at one input. -/
def valLocalsWrong : ChangeSpec := { name := "valLocals", fn := fun _ => fun
  | [d1, d2, d3, d4, d5] => { results := [.lit (.bool false)], args := [d1, d2, d3, d4, d5] }
  | _ => none }
def ValLocalsWrongFalsely : Prop := valLocalsRow.holds Try.pinned (OpenSpec.ofChange valLocalsWrong)

/-- 'cloakroomlaw12.CheckNames': WHATEVER THE INPUT: true; the input reads as it did. -/
def checkNamesSpec : ChangeSpec := { name := "checkNames", fn := fun _ => fun
  | [d1, d2, d3, d4] => { results := [.lit (.bool true)], args := [d1, d2, d3, d4] }
  | _ => none }
def checkNamesRow : OpenClaim := { program := "ytpkefdoleieloaa", sum := "d247988565749578940afa984d01501dc31bb7ab169dca274517ba4c4a956aeb", func := "cloakroom/cloakroomlaw12.CheckNames", spec := "checkNames", unfollowed := true, recurses := true, apart := false }
def CheckNamesSaid : Prop := checkNamesRow.holds Try.pinned (OpenSpec.ofChange checkNamesSpec)

/-- ITS FALSE NEIGHBOUR: 'it returns false'. Refute it at one input. -/
def checkNamesWrong : ChangeSpec := { name := "checkNames", fn := fun _ => fun
  | [d1, d2, d3, d4] => { results := [.lit (.bool false)], args := [d1, d2, d3, d4] }
  | _ => none }
def CheckNamesWrongFalsely : Prop := checkNamesRow.holds Try.pinned (OpenSpec.ofChange checkNamesWrong)

/-- 'cloakroomlaw12.CheckStarts': WHATEVER THE INPUT: true; the input reads as it did. -/
def checkStartsSpec : ChangeSpec := { name := "checkStarts", fn := fun _ => fun
  | [d1, d2, d3] => { results := [.lit (.bool true)], args := [d1, d2, d3] }
  | _ => none }
def checkStartsRow : OpenClaim := { program := "ytpkefdoleieloaa", sum := "d247988565749578940afa984d01501dc31bb7ab169dca274517ba4c4a956aeb", func := "cloakroom/cloakroomlaw12.CheckStarts", spec := "checkStarts", unfollowed := true, recurses := true, apart := false }
def CheckStartsSaid : Prop := checkStartsRow.holds Try.pinned (OpenSpec.ofChange checkStartsSpec)

/-- ITS FALSE NEIGHBOUR: 'it returns false'. Refute it at one input. -/
def checkStartsWrong : ChangeSpec := { name := "checkStarts", fn := fun _ => fun
  | [d1, d2, d3] => { results := [.lit (.bool false)], args := [d1, d2, d3] }
  | _ => none }
def CheckStartsWrongFalsely : Prop := checkStartsRow.holds Try.pinned (OpenSpec.ofChange checkStartsWrong)

/- THE SECOND FORM. 'bulk': how many values and letters a reading holds, each counted each time it is reached (what is shared counts as often as it is met; a slice's spare places count too). A statement '..UptoSaid' is the law's where the arguments, and the package variables that the reading takes, are together of bulk at most 1048576: NARROWER than '..Said'. Prove '..Said' where nothing that the law and all that it calls make is longer than what came in: it says more and counts as full. Else prove '..UptoSaid'. A law counts once. -/
mutual
def uptoBulk {H : Type} : DataW H → Nat
  | .lit (.string bytes) => bytes.length + 1
  | .lit _ => 1
  | .nil => 1
  | .ptr d => uptoBulk d + 1
  | .slice elems spare => uptoBulkAll elems + uptoBulkAll spare + 1
  | .agg parts => uptoBulkAll parts + 1
  | .iface _ d => uptoBulk d + 1
  | .map entries => uptoBulkEntries entries + 1
  | .held _ => 1
def uptoBulkAll {H : Type} : List (DataW H) → Nat
  | [] => 0
  | d :: r => uptoBulk d + uptoBulkAll r
def uptoBulkEntries {H : Type} : List (Lit × DataW H) → Nat
  | [] => 0
  | x :: r => uptoBulkEntry x + uptoBulkEntries r
def uptoBulkEntry {H : Type} : Lit × DataW H → Nat
  | (.string bytes, d) => bytes.length + uptoBulk d + 1
  | (_, d) => uptoBulk d + 1
 end
def uptoSmall : (H : Type) → List (DataW H) → Bool := fun _ ds => decide (uptoBulkAll ds ≤ 1048576)
def OpenSpec.upto (s : _root_.Go.ChangeSpec) : _root_.Go.OpenSpec := { _root_.Go.OpenSpec.ofChange s with cond := some uptoSmall }

/-- 'cloakroomlaw9.AsmPuts', WHERE WHAT IT READS IS OF BULK AT MOST 1048576: true; the input reads as it did. -/
def asmPutsUptoRow : OpenClaim := { program := "ytpkefdoleieloaa", sum := "d247988565749578940afa984d01501dc31bb7ab169dca274517ba4c4a956aeb", func := "cloakroom/cloakroomlaw9.AsmPuts", spec := "asmPuts", unfollowed := true, recurses := true, apart := false, narrowed := true }
def AsmPutsUptoSaid : Prop := asmPutsUptoRow.holds Try.pinned (OpenSpec.upto asmPutsSpec)

/-- 'cloakroomlaw11.ValMade', WHERE WHAT IT READS IS OF BULK AT MOST 1048576: true; the input reads as it did. -/
def valMadeUptoRow : OpenClaim := { program := "ytpkefdoleieloaa", sum := "d247988565749578940afa984d01501dc31bb7ab169dca274517ba4c4a956aeb", func := "cloakroom/cloakroomlaw11.ValMade", spec := "valMade", unfollowed := true, recurses := true, apart := false, narrowed := true }
def ValMadeUptoSaid : Prop := valMadeUptoRow.holds Try.pinned (OpenSpec.upto valMadeSpec)

/-- 'cloakroomlaw11.ValSmall', WHERE WHAT IT READS IS OF BULK AT MOST 1048576: true; the input reads as it did. -/
def valSmallUptoRow : OpenClaim := { program := "ytpkefdoleieloaa", sum := "d247988565749578940afa984d01501dc31bb7ab169dca274517ba4c4a956aeb", func := "cloakroom/cloakroomlaw11.ValSmall", spec := "valSmall", unfollowed := true, recurses := true, apart := false, narrowed := true }
def ValSmallUptoSaid : Prop := valSmallUptoRow.holds Try.pinned (OpenSpec.upto valSmallSpec)

/-- 'cloakroomlaw11.ValLocals', WHERE WHAT IT READS IS OF BULK AT MOST 1048576: true; the input reads as it did. -/
def valLocalsUptoRow : OpenClaim := { program := "ytpkefdoleieloaa", sum := "d247988565749578940afa984d01501dc31bb7ab169dca274517ba4c4a956aeb", func := "cloakroom/cloakroomlaw11.ValLocals", spec := "valLocals", unfollowed := true, recurses := true, apart := false, narrowed := true }
def ValLocalsUptoSaid : Prop := valLocalsUptoRow.holds Try.pinned (OpenSpec.upto valLocalsSpec)

/-- 'cloakroomlaw12.CheckNames', WHERE WHAT IT READS IS OF BULK AT MOST 1048576: true; the input reads as it did. -/
def checkNamesUptoRow : OpenClaim := { program := "ytpkefdoleieloaa", sum := "d247988565749578940afa984d01501dc31bb7ab169dca274517ba4c4a956aeb", func := "cloakroom/cloakroomlaw12.CheckNames", spec := "checkNames", unfollowed := true, recurses := true, apart := false, narrowed := true }
def CheckNamesUptoSaid : Prop := checkNamesUptoRow.holds Try.pinned (OpenSpec.upto checkNamesSpec)

/-- 'cloakroomlaw12.CheckStarts', WHERE WHAT IT READS IS OF BULK AT MOST 1048576: true; the input reads as it did. -/
def checkStartsUptoRow : OpenClaim := { program := "ytpkefdoleieloaa", sum := "d247988565749578940afa984d01501dc31bb7ab169dca274517ba4c4a956aeb", func := "cloakroom/cloakroomlaw12.CheckStarts", spec := "checkStarts", unfollowed := true, recurses := true, apart := false, narrowed := true }
def CheckStartsUptoSaid : Prop := checkStartsUptoRow.holds Try.pinned (OpenSpec.upto checkStartsSpec)

end Rows
end Go.Proofs.Ytpkefdoleieloaa
