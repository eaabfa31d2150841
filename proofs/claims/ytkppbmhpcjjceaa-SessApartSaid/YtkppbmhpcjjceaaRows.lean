/-
  No cell of these rows narrows 'for every input' (looked for: loops, veiled, ifaces, maps, wideKeys, modest, calm, conditions, laid).
  DERIVED. THE GIVEN ROWS OF THIS SEAT. 9 by the template 'for every input the law returns true; each argument reads behind the call as it read before'; 0 by the template 'total and deterministic' (their statements: YtkppbmhpcjjceaaTotals.lean).
  GIVEN WITH THE SEED: the statements are not yours to turn. If you find one false, say at which input.
  Laid BY PROGRAM, IN A SANDBOX (cutbox-rows.mjs): the forced cells as the released guide's own fill.sh prints them over the translation 6d28a6b600519c85… (all of the seat's roots in one cut). By AI agents, Wed Nov 11 2026. No macro, syntax, notation, axiom, sorry.
-/
import Derived.Test.YtkppbmhpcjjceaaChecked
import GoSem.Claim
import GoSem.ClaimJoined
import GoSem.ClaimMapViews
import Derived.JoinedTies
import Derived.KernelRfl
namespace Go.Proofs.Ytkppbmhpcjjceaa
/- THE CELL 'sum', in the pinned program and in every row, IS THE sha256 OF THE DUMP (.gsa) THAT YtkppbmhpcjjceaaProg.lean LOADS. Nothing in Lean hashes anything: it is a label: what it is worth is what the hold of that sum in a sandbox is worth. -/
noncomputable def Try.pinned : Pinned := { name := "ytkppbmhpcjjceaa", sum := "6d28a6b600519c85901e73285db17fb7235e0091af2cecb6b41dcffd0473af22", checked := Try.checked }
namespace Rows
def none {H : Type} : Left H := { results := [], args := [] }

/-- 'cloakroomlaw3.ReqAll': WHATEVER THE INPUT: true; the input reads as it did. -/
def reqAllSpec : ChangeSpec := { name := "reqAll", fn := fun _ => fun
  | [d1, d2, d3] => { results := [.lit (.bool true)], args := [d1, d2, d3] }
  | _ => none }
def reqAllRow : OpenClaim := { program := "ytkppbmhpcjjceaa", sum := "6d28a6b600519c85901e73285db17fb7235e0091af2cecb6b41dcffd0473af22", func := "cloakroom/cloakroomlaw3.ReqAll", spec := "reqAll", apart := false }
def ReqAllSaid : Prop := reqAllRow.holds Try.pinned (OpenSpec.ofChange reqAllSpec)

/-- ITS FALSE NEIGHBOUR: 'it returns false'. Refute it at one input. -/
def reqAllWrong : ChangeSpec := { name := "reqAll", fn := fun _ => fun
  | [d1, d2, d3] => { results := [.lit (.bool false)], args := [d1, d2, d3] }
  | _ => none }
def ReqAllWrongFalsely : Prop := reqAllRow.holds Try.pinned (OpenSpec.ofChange reqAllWrong)

/-- 'cloakroomlaw3.ReqBack': WHATEVER THE INPUT: true; the input reads as it did. -/
def reqBackSpec : ChangeSpec := { name := "reqBack", fn := fun _ => fun
  | [d1, d2, d3, d4] => { results := [.lit (.bool true)], args := [d1, d2, d3, d4] }
  | _ => none }
def reqBackRow : OpenClaim := { program := "ytkppbmhpcjjceaa", sum := "6d28a6b600519c85901e73285db17fb7235e0091af2cecb6b41dcffd0473af22", func := "cloakroom/cloakroomlaw3.ReqBack", spec := "reqBack", apart := false }
def ReqBackSaid : Prop := reqBackRow.holds Try.pinned (OpenSpec.ofChange reqBackSpec)

/-- ITS FALSE NEIGHBOUR: 'it returns false'. Refute it at one input. -/
def reqBackWrong : ChangeSpec := { name := "reqBack", fn := fun _ => fun
  | [d1, d2, d3, d4] => { results := [.lit (.bool false)], args := [d1, d2, d3, d4] }
  | _ => none }
def ReqBackWrongFalsely : Prop := reqBackRow.holds Try.pinned (OpenSpec.ofChange reqBackWrong)

/-- 'cloakroomlaw3.ReplyBack': WHATEVER THE INPUT: true; the input reads as it did. -/
def replyBackSpec : ChangeSpec := { name := "replyBack", fn := fun _ => fun
  | [d1, d2, d3] => { results := [.lit (.bool true)], args := [d1, d2, d3] }
  | _ => none }
def replyBackRow : OpenClaim := { program := "ytkppbmhpcjjceaa", sum := "6d28a6b600519c85901e73285db17fb7235e0091af2cecb6b41dcffd0473af22", func := "cloakroom/cloakroomlaw3.ReplyBack", spec := "replyBack", apart := false }
def ReplyBackSaid : Prop := replyBackRow.holds Try.pinned (OpenSpec.ofChange replyBackSpec)

/-- ITS FALSE NEIGHBOUR: 'it returns false'. Refute it at one input. -/
def replyBackWrong : ChangeSpec := { name := "replyBack", fn := fun _ => fun
  | [d1, d2, d3] => { results := [.lit (.bool false)], args := [d1, d2, d3] }
  | _ => none }
def ReplyBackWrongFalsely : Prop := replyBackRow.holds Try.pinned (OpenSpec.ofChange replyBackWrong)

/-- 'cloakroomlaw3.ReqForms': WHATEVER THE INPUT: true; the input reads as it did. -/
def reqFormsSpec : ChangeSpec := { name := "reqForms", fn := fun _ => fun
  | [] => { results := [.lit (.bool true)], args := [] }
  | _ => none }
def reqFormsRow : OpenClaim := { program := "ytkppbmhpcjjceaa", sum := "6d28a6b600519c85901e73285db17fb7235e0091af2cecb6b41dcffd0473af22", func := "cloakroom/cloakroomlaw3.ReqForms", spec := "reqForms", apart := false }
def ReqFormsSaid : Prop := reqFormsRow.holds Try.pinned (OpenSpec.ofChange reqFormsSpec)

/-- ITS FALSE NEIGHBOUR: 'it returns false'. Refute it at one input. -/
def reqFormsWrong : ChangeSpec := { name := "reqForms", fn := fun _ => fun
  | [] => { results := [.lit (.bool false)], args := [] }
  | _ => none }
def ReqFormsWrongFalsely : Prop := reqFormsRow.holds Try.pinned (OpenSpec.ofChange reqFormsWrong)

/-- 'cloakroomlaw3.ReqOne': WHATEVER THE INPUT: true; the input reads as it did. -/
def reqOneSpec : ChangeSpec := { name := "reqOne", fn := fun _ => fun
  | [d1, d2] => { results := [.lit (.bool true)], args := [d1, d2] }
  | _ => none }
def reqOneRow : OpenClaim := { program := "ytkppbmhpcjjceaa", sum := "6d28a6b600519c85901e73285db17fb7235e0091af2cecb6b41dcffd0473af22", func := "cloakroom/cloakroomlaw3.ReqOne", spec := "reqOne", apart := false }
def ReqOneSaid : Prop := reqOneRow.holds Try.pinned (OpenSpec.ofChange reqOneSpec)

/-- ITS FALSE NEIGHBOUR: 'it returns false'. Refute it at one input. -/
def reqOneWrong : ChangeSpec := { name := "reqOne", fn := fun _ => fun
  | [d1, d2] => { results := [.lit (.bool false)], args := [d1, d2] }
  | _ => none }
def ReqOneWrongFalsely : Prop := reqOneRow.holds Try.pinned (OpenSpec.ofChange reqOneWrong)

/-- 'cloakroomlaw26.SessCuts': WHATEVER THE INPUT: true; the input reads as it did. -/
def sessCutsSpec : ChangeSpec := { name := "sessCuts", fn := fun _ => fun
  | [d1, d2] => { results := [.lit (.bool true)], args := [d1, d2] }
  | _ => none }
def sessCutsRow : OpenClaim := { program := "ytkppbmhpcjjceaa", sum := "6d28a6b600519c85901e73285db17fb7235e0091af2cecb6b41dcffd0473af22", func := "cloakroom/cloakroomlaw26.SessCuts", spec := "sessCuts", apart := false }
def SessCutsSaid : Prop := sessCutsRow.holds Try.pinned (OpenSpec.ofChange sessCutsSpec)

/-- ITS FALSE NEIGHBOUR: 'it returns false'. Refute it at one input. -/
def sessCutsWrong : ChangeSpec := { name := "sessCuts", fn := fun _ => fun
  | [d1, d2] => { results := [.lit (.bool false)], args := [d1, d2] }
  | _ => none }
def SessCutsWrongFalsely : Prop := sessCutsRow.holds Try.pinned (OpenSpec.ofChange sessCutsWrong)

/-- 'cloakroomlaw26.SessDead': WHATEVER THE INPUT: true; the input reads as it did. -/
def sessDeadSpec : ChangeSpec := { name := "sessDead", fn := fun _ => fun
  | [d1, d2] => { results := [.lit (.bool true)], args := [d1, d2] }
  | _ => none }
def sessDeadRow : OpenClaim := { program := "ytkppbmhpcjjceaa", sum := "6d28a6b600519c85901e73285db17fb7235e0091af2cecb6b41dcffd0473af22", func := "cloakroom/cloakroomlaw26.SessDead", spec := "sessDead", apart := false }
def SessDeadSaid : Prop := sessDeadRow.holds Try.pinned (OpenSpec.ofChange sessDeadSpec)

/-- ITS FALSE NEIGHBOUR: 'it returns false'. Refute it at one input. -/
def sessDeadWrong : ChangeSpec := { name := "sessDead", fn := fun _ => fun
  | [d1, d2] => { results := [.lit (.bool false)], args := [d1, d2] }
  | _ => none }
def SessDeadWrongFalsely : Prop := sessDeadRow.holds Try.pinned (OpenSpec.ofChange sessDeadWrong)

/-- 'cloakroomlaw26.SessAll': WHATEVER THE INPUT: true; the input reads as it did. -/
def sessAllSpec : ChangeSpec := { name := "sessAll", fn := fun _ => fun
  | [d1, d2, d3, d4] => { results := [.lit (.bool true)], args := [d1, d2, d3, d4] }
  | _ => none }
def sessAllRow : OpenClaim := { program := "ytkppbmhpcjjceaa", sum := "6d28a6b600519c85901e73285db17fb7235e0091af2cecb6b41dcffd0473af22", func := "cloakroom/cloakroomlaw26.SessAll", spec := "sessAll", inPlace := ["maps.clone"], apart := false }
def SessAllSaid : Prop := sessAllRow.holds Try.pinned (OpenSpec.ofChange sessAllSpec)

/-- ITS FALSE NEIGHBOUR: 'it returns false'. Refute it at one input. -/
def sessAllWrong : ChangeSpec := { name := "sessAll", fn := fun _ => fun
  | [d1, d2, d3, d4] => { results := [.lit (.bool false)], args := [d1, d2, d3, d4] }
  | _ => none }
def SessAllWrongFalsely : Prop := sessAllRow.holds Try.pinned (OpenSpec.ofChange sessAllWrong)

/-- 'cloakroomlaw26.SessApart': WHATEVER THE INPUT: true; the input reads as it did. -/
def sessApartSpec : ChangeSpec := { name := "sessApart", fn := fun _ => fun
  | [d1, d2] => { results := [.lit (.bool true)], args := [d1, d2] }
  | _ => none }
def sessApartRow : OpenClaim := { program := "ytkppbmhpcjjceaa", sum := "6d28a6b600519c85901e73285db17fb7235e0091af2cecb6b41dcffd0473af22", func := "cloakroom/cloakroomlaw26.SessApart", spec := "sessApart", inPlace := ["maps.clone"], unfollowed := true, recurses := true, apart := false }
def SessApartSaid : Prop := sessApartRow.holds Try.pinned (OpenSpec.ofChange sessApartSpec)

/-- ITS FALSE NEIGHBOUR: 'it returns false'. Refute it at one input. -/
def sessApartWrong : ChangeSpec := { name := "sessApart", fn := fun _ => fun
  | [d1, d2] => { results := [.lit (.bool false)], args := [d1, d2] }
  | _ => none }
def SessApartWrongFalsely : Prop := sessApartRow.holds Try.pinned (OpenSpec.ofChange sessApartWrong)

/- THE SECOND FORM. 'bulk': how many values and letters a reading holds, each counted each time it is reached (what is shared counts as often as it is met; a slice's spare places count too). A statement '..UptoSaid' is the law's where the arguments, and the package variables that the reading takes, are together of bulk at most 1048576: NARROWER than '..Said'. Prove '..Said' where nothing that the law and all that it calls make is longer than what came in: it says more and counts as full. Else prove '..UptoSaid'. A law counts once. -/
mutual
def uptoBulk {H : Type} : DataW H → Nat
  | .lit (.string bytes) => bytes.length + 1
  | .lit _ => 1
  | .nil => 1
  | .ptr d => uptoBulk d + 1
  | .slice elems spare => uptoBulkAll elems + uptoBulkAll spare + 1
  | .agg parts => uptoBulkAll parts + 1
  | .iface _ d => uptoBulk d + 1
  | .map entries => uptoBulkEntries entries + 1
  | .held _ => 1
def uptoBulkAll {H : Type} : List (DataW H) → Nat
  | [] => 0
  | d :: r => uptoBulk d + uptoBulkAll r
def uptoBulkEntries {H : Type} : List (Lit × DataW H) → Nat
  | [] => 0
  | x :: r => uptoBulkEntry x + uptoBulkEntries r
def uptoBulkEntry {H : Type} : Lit × DataW H → Nat
  | (.string bytes, d) => bytes.length + uptoBulk d + 1
  | (_, d) => uptoBulk d + 1
 end
def uptoSmall : (H : Type) → List (DataW H) → Bool := fun _ ds => decide (uptoBulkAll ds ≤ 1048576)
def OpenSpec.upto (s : _root_.Go.ChangeSpec) : _root_.Go.OpenSpec := { _root_.Go.OpenSpec.ofChange s with cond := some uptoSmall }

/-- 'cloakroomlaw3.ReqAll', WHERE WHAT IT READS IS OF BULK AT MOST 1048576: true; the input reads as it did. -/
def reqAllUptoRow : OpenClaim := { program := "ytkppbmhpcjjceaa", sum := "6d28a6b600519c85901e73285db17fb7235e0091af2cecb6b41dcffd0473af22", func := "cloakroom/cloakroomlaw3.ReqAll", spec := "reqAll", apart := false, narrowed := true }
def ReqAllUptoSaid : Prop := reqAllUptoRow.holds Try.pinned (OpenSpec.upto reqAllSpec)

/-- 'cloakroomlaw3.ReqBack', WHERE WHAT IT READS IS OF BULK AT MOST 1048576: true; the input reads as it did. -/
def reqBackUptoRow : OpenClaim := { program := "ytkppbmhpcjjceaa", sum := "6d28a6b600519c85901e73285db17fb7235e0091af2cecb6b41dcffd0473af22", func := "cloakroom/cloakroomlaw3.ReqBack", spec := "reqBack", apart := false, narrowed := true }
def ReqBackUptoSaid : Prop := reqBackUptoRow.holds Try.pinned (OpenSpec.upto reqBackSpec)

/-- 'cloakroomlaw3.ReplyBack', WHERE WHAT IT READS IS OF BULK AT MOST 1048576: true; the input reads as it did. -/
def replyBackUptoRow : OpenClaim := { program := "ytkppbmhpcjjceaa", sum := "6d28a6b600519c85901e73285db17fb7235e0091af2cecb6b41dcffd0473af22", func := "cloakroom/cloakroomlaw3.ReplyBack", spec := "replyBack", apart := false, narrowed := true }
def ReplyBackUptoSaid : Prop := replyBackUptoRow.holds Try.pinned (OpenSpec.upto replyBackSpec)

/-- 'cloakroomlaw3.ReqForms', WHERE WHAT IT READS IS OF BULK AT MOST 1048576: true; the input reads as it did. -/
def reqFormsUptoRow : OpenClaim := { program := "ytkppbmhpcjjceaa", sum := "6d28a6b600519c85901e73285db17fb7235e0091af2cecb6b41dcffd0473af22", func := "cloakroom/cloakroomlaw3.ReqForms", spec := "reqForms", apart := false, narrowed := true }
def ReqFormsUptoSaid : Prop := reqFormsUptoRow.holds Try.pinned (OpenSpec.upto reqFormsSpec)

/-- 'cloakroomlaw3.ReqOne', WHERE WHAT IT READS IS OF BULK AT MOST 1048576: true; the input reads as it did. -/
def reqOneUptoRow : OpenClaim := { program := "ytkppbmhpcjjceaa", sum := "6d28a6b600519c85901e73285db17fb7235e0091af2cecb6b41dcffd0473af22", func := "cloakroom/cloakroomlaw3.ReqOne", spec := "reqOne", apart := false, narrowed := true }
def ReqOneUptoSaid : Prop := reqOneUptoRow.holds Try.pinned (OpenSpec.upto reqOneSpec)

/-- 'cloakroomlaw26.SessCuts', WHERE WHAT IT READS IS OF BULK AT MOST 1048576: true; the input reads as it did. -/
def sessCutsUptoRow : OpenClaim := { program := "ytkppbmhpcjjceaa", sum := "6d28a6b600519c85901e73285db17fb7235e0091af2cecb6b41dcffd0473af22", func := "cloakroom/cloakroomlaw26.SessCuts", spec := "sessCuts", apart := false, narrowed := true }
def SessCutsUptoSaid : Prop := sessCutsUptoRow.holds Try.pinned (OpenSpec.upto sessCutsSpec)

/-- 'cloakroomlaw26.SessDead', WHERE WHAT IT READS IS OF BULK AT MOST 1048576: true; the input reads as it did. -/
def sessDeadUptoRow : OpenClaim := { program := "ytkppbmhpcjjceaa", sum := "6d28a6b600519c85901e73285db17fb7235e0091af2cecb6b41dcffd0473af22", func := "cloakroom/cloakroomlaw26.SessDead", spec := "sessDead", apart := false, narrowed := true }
def SessDeadUptoSaid : Prop := sessDeadUptoRow.holds Try.pinned (OpenSpec.upto sessDeadSpec)

/-- 'cloakroomlaw26.SessAll', WHERE WHAT IT READS IS OF BULK AT MOST 1048576: true; the input reads as it did. -/
def sessAllUptoRow : OpenClaim := { program := "ytkppbmhpcjjceaa", sum := "6d28a6b600519c85901e73285db17fb7235e0091af2cecb6b41dcffd0473af22", func := "cloakroom/cloakroomlaw26.SessAll", spec := "sessAll", inPlace := ["maps.clone"], apart := false, narrowed := true }
def SessAllUptoSaid : Prop := sessAllUptoRow.holds Try.pinned (OpenSpec.upto sessAllSpec)

/-- 'cloakroomlaw26.SessApart', WHERE WHAT IT READS IS OF BULK AT MOST 1048576: true; the input reads as it did. -/
def sessApartUptoRow : OpenClaim := { program := "ytkppbmhpcjjceaa", sum := "6d28a6b600519c85901e73285db17fb7235e0091af2cecb6b41dcffd0473af22", func := "cloakroom/cloakroomlaw26.SessApart", spec := "sessApart", inPlace := ["maps.clone"], unfollowed := true, recurses := true, apart := false, narrowed := true }
def SessApartUptoSaid : Prop := sessApartUptoRow.holds Try.pinned (OpenSpec.upto sessApartSpec)

end Rows
end Go.Proofs.Ytkppbmhpcjjceaa
