/-
  No cell of these rows narrows 'for every input' (looked for: loops, veiled, ifaces, maps, wideKeys, modest, calm, conditions, laid).
  DERIVED. THE GIVEN ROWS OF THIS SEAT. 3 by the template 'for every input the law returns true; each argument reads behind the call as it read before'; 0 by the template 'total and deterministic' (their statements: YtpogcjdenefhlaaTotals.lean).
  GIVEN WITH THE SEED: the statements are not yours to turn. If you find one false, say at which input.
  Laid BY PROGRAM, IN A SANDBOX (cutbox-rows.mjs): the forced cells as the released guide's own fill.sh prints them over the translation d9bf33e098805a7a… (all of the seat's roots in one cut). By AI agents, Wed Nov 11 2026. No macro, syntax, notation, axiom, sorry.
-/
import Derived.Test.YtpogcjdenefhlaaChecked
import GoSem.Claim
import GoSem.ClaimJoined
import GoSem.ClaimMapViews
import Derived.JoinedTies
import Derived.KernelRfl
namespace Go.Proofs.Ytpogcjdenefhlaa
/- THE CELL 'sum', in the pinned program and in every row, IS THE sha256 OF THE DUMP (.gsa) THAT YtpogcjdenefhlaaProg.lean LOADS. Nothing in Lean hashes anything: it is a label: what it is worth is what the hold of that sum in a sandbox is worth. -/
noncomputable def Try.pinned : Pinned := { name := "ytpogcjdenefhlaa", sum := "d9bf33e098805a7aee89c00dc31dbfb7523f4f85b82ea3375eb69418d7225fb7", checked := Try.checked }
namespace Rows
def none {H : Type} : Left H := { results := [], args := [] }

/-- 'cloakroomlaw16.InstNew': WHATEVER THE INPUT: true; the input reads as it did. -/
def instNewSpec : ChangeSpec := { name := "instNew", fn := fun _ => fun
  | [d1, d2] => { results := [.lit (.bool true)], args := [d1, d2] }
  | _ => none }
def instNewRow : OpenClaim := { program := "ytpogcjdenefhlaa", sum := "d9bf33e098805a7aee89c00dc31dbfb7523f4f85b82ea3375eb69418d7225fb7", func := "cloakroom/cloakroomlaw16.InstNew", spec := "instNew", unfollowed := true, recurses := true, apart := false }
def InstNewSaid : Prop := instNewRow.holds Try.pinned (OpenSpec.ofChange instNewSpec)

/-- ITS FALSE NEIGHBOUR: 'it returns false'. Refute it at one input. -/
def instNewWrong : ChangeSpec := { name := "instNew", fn := fun _ => fun
  | [d1, d2] => { results := [.lit (.bool false)], args := [d1, d2] }
  | _ => none }
def InstNewWrongFalsely : Prop := instNewRow.holds Try.pinned (OpenSpec.ofChange instNewWrong)

/-- 'cloakroomlaw16.InstCopies': WHATEVER THE INPUT: true; the input reads as it did. -/
def instCopiesSpec : ChangeSpec := { name := "instCopies", fn := fun _ => fun
  | [d1, d2, d3] => { results := [.lit (.bool true)], args := [d1, d2, d3] }
  | _ => none }
def instCopiesRow : OpenClaim := { program := "ytpogcjdenefhlaa", sum := "d9bf33e098805a7aee89c00dc31dbfb7523f4f85b82ea3375eb69418d7225fb7", func := "cloakroom/cloakroomlaw16.InstCopies", spec := "instCopies", unfollowed := true, recurses := true, apart := false }
def InstCopiesSaid : Prop := instCopiesRow.holds Try.pinned (OpenSpec.ofChange instCopiesSpec)

/-- ITS FALSE NEIGHBOUR: 'it returns false'. Refute it at one input. -/
def instCopiesWrong : ChangeSpec := { name := "instCopies", fn := fun _ => fun
  | [d1, d2, d3] => { results := [.lit (.bool false)], args := [d1, d2, d3] }
  | _ => none }
def InstCopiesWrongFalsely : Prop := instCopiesRow.holds Try.pinned (OpenSpec.ofChange instCopiesWrong)

/-- 'cloakroomlaw16.InstForms': WHATEVER THE INPUT: true; the input reads as it did. -/
def instFormsSpec : ChangeSpec := { name := "instForms", fn := fun _ => fun
  | [] => { results := [.lit (.bool true)], args := [] }
  | _ => none }
def instFormsRow : OpenClaim := { program := "ytpogcjdenefhlaa", sum := "d9bf33e098805a7aee89c00dc31dbfb7523f4f85b82ea3375eb69418d7225fb7", func := "cloakroom/cloakroomlaw16.InstForms", spec := "instForms", unfollowed := true, recurses := true, apart := false }
def InstFormsSaid : Prop := instFormsRow.holds Try.pinned (OpenSpec.ofChange instFormsSpec)

/-- ITS FALSE NEIGHBOUR: 'it returns false'. Refute it at one input. -/
def instFormsWrong : ChangeSpec := { name := "instForms", fn := fun _ => fun
  | [] => { results := [.lit (.bool false)], args := [] }
  | _ => none }
def InstFormsWrongFalsely : Prop := instFormsRow.holds Try.pinned (OpenSpec.ofChange instFormsWrong)

/- THE SECOND FORM. 'bulk': how many values and letters a reading holds, each counted each time it is reached (what is shared counts as often as it is met; a slice's spare places count too). A statement '..UptoSaid' is the law's where the arguments, and the package variables that the reading takes, are together of bulk at most 1048576: NARROWER than '..Said'. Prove '..Said' where nothing that the law and all that it calls make is longer than what came in: it says more and counts as full. Else prove '..UptoSaid'. A law counts once. -/
mutual
def uptoBulk {H : Type} : DataW H → Nat
  | .lit (.string bytes) => bytes.length + 1
  | .lit _ => 1
  | .nil => 1
  | .ptr d => uptoBulk d + 1
  | .slice elems spare => uptoBulkAll elems + uptoBulkAll spare + 1
  | .agg parts => uptoBulkAll parts + 1
  | .iface _ d => uptoBulk d + 1
  | .map entries => uptoBulkEntries entries + 1
  | .held _ => 1
def uptoBulkAll {H : Type} : List (DataW H) → Nat
  | [] => 0
  | d :: r => uptoBulk d + uptoBulkAll r
def uptoBulkEntries {H : Type} : List (Lit × DataW H) → Nat
  | [] => 0
  | x :: r => uptoBulkEntry x + uptoBulkEntries r
def uptoBulkEntry {H : Type} : Lit × DataW H → Nat
  | (.string bytes, d) => bytes.length + uptoBulk d + 1
  | (_, d) => uptoBulk d + 1
 end
def uptoSmall : (H : Type) → List (DataW H) → Bool := fun _ ds => decide (uptoBulkAll ds ≤ 1048576)
def OpenSpec.upto (s : _root_.Go.ChangeSpec) : _root_.Go.OpenSpec := { _root_.Go.OpenSpec.ofChange s with cond := some uptoSmall }

/-- 'cloakroomlaw16.InstNew', WHERE WHAT IT READS IS OF BULK AT MOST 1048576: true; the input reads as it did. -/
def instNewUptoRow : OpenClaim := { program := "ytpogcjdenefhlaa", sum := "d9bf33e098805a7aee89c00dc31dbfb7523f4f85b82ea3375eb69418d7225fb7", func := "cloakroom/cloakroomlaw16.InstNew", spec := "instNew", unfollowed := true, recurses := true, apart := false, narrowed := true }
def InstNewUptoSaid : Prop := instNewUptoRow.holds Try.pinned (OpenSpec.upto instNewSpec)

/-- 'cloakroomlaw16.InstCopies', WHERE WHAT IT READS IS OF BULK AT MOST 1048576: true; the input reads as it did. -/
def instCopiesUptoRow : OpenClaim := { program := "ytpogcjdenefhlaa", sum := "d9bf33e098805a7aee89c00dc31dbfb7523f4f85b82ea3375eb69418d7225fb7", func := "cloakroom/cloakroomlaw16.InstCopies", spec := "instCopies", unfollowed := true, recurses := true, apart := false, narrowed := true }
def InstCopiesUptoSaid : Prop := instCopiesUptoRow.holds Try.pinned (OpenSpec.upto instCopiesSpec)

/-- 'cloakroomlaw16.InstForms', WHERE WHAT IT READS IS OF BULK AT MOST 1048576: true; the input reads as it did. -/
def instFormsUptoRow : OpenClaim := { program := "ytpogcjdenefhlaa", sum := "d9bf33e098805a7aee89c00dc31dbfb7523f4f85b82ea3375eb69418d7225fb7", func := "cloakroom/cloakroomlaw16.InstForms", spec := "instForms", unfollowed := true, recurses := true, apart := false, narrowed := true }
def InstFormsUptoSaid : Prop := instFormsUptoRow.holds Try.pinned (OpenSpec.upto instFormsSpec)

end Rows
end Go.Proofs.Ytpogcjdenefhlaa
