/-
  No cell of these rows narrows 'for every input' (looked for: loops, veiled, ifaces, maps, wideKeys, modest, calm, conditions, laid).
  DERIVED. THE GIVEN ROWS OF THIS SEAT. 10 by the template 'for every input the law returns true; each argument reads behind the call as it read before'; 0 by the template 'total and deterministic' (their statements: YtgfnehiaddemaaaTotals.lean).
  GIVEN WITH THE SEED: the statements are not yours to turn. If you find one false, say at which input.
  Laid BY PROGRAM, IN A SANDBOX (cutbox-rows.mjs): the forced cells as the released guide's own fill.sh prints them over the translation b40c9c885d1d222f… (all of the seat's roots in one cut). By AI agents, Wed Nov 11 2026. No macro, syntax, notation, axiom, sorry.
-/
import Derived.Test.YtgfnehiaddemaaaChecked
import GoSem.Claim
import GoSem.ClaimJoined
import GoSem.ClaimMapViews
import Derived.JoinedTies
import Derived.KernelRfl
namespace Go.Proofs.Ytgfnehiaddemaaa
/- THE CELL 'sum', in the pinned program and in every row, IS THE sha256 OF THE DUMP (.gsa) THAT YtgfnehiaddemaaaProg.lean LOADS. Nothing in Lean hashes anything: it is a label: what it is worth is what the hold of that sum in a sandbox is worth. -/
noncomputable def Try.pinned : Pinned := { name := "ytgfnehiaddemaaa", sum := "b40c9c885d1d222f42afda9cfd5c3851fa6b9e37ad419d5f788c9d5d55b91ae4", checked := Try.checked }
namespace Rows
def none {H : Type} : Left H := { results := [], args := [] }

/-- 'cloakroomlaw16.InstNew': WHATEVER THE INPUT: true; the input reads as it did. -/
def instNewSpec : ChangeSpec := { name := "instNew", fn := fun _ => fun
  | [d1, d2] => { results := [.lit (.bool true)], args := [d1, d2] }
  | _ => none }
def instNewRow : OpenClaim := { program := "ytgfnehiaddemaaa", sum := "b40c9c885d1d222f42afda9cfd5c3851fa6b9e37ad419d5f788c9d5d55b91ae4", func := "cloakroom/cloakroomlaw16.InstNew", spec := "instNew", unfollowed := true, recurses := true, apart := false }
def InstNewSaid : Prop := instNewRow.holds Try.pinned (OpenSpec.ofChange instNewSpec)

/-- ITS FALSE NEIGHBOUR: 'it returns false'. Refute it at one input. -/
def instNewWrong : ChangeSpec := { name := "instNew", fn := fun _ => fun
  | [d1, d2] => { results := [.lit (.bool false)], args := [d1, d2] }
  | _ => none }
def InstNewWrongFalsely : Prop := instNewRow.holds Try.pinned (OpenSpec.ofChange instNewWrong)

/-- 'cloakroomlaw16.InstCopies': WHATEVER THE INPUT: true; the input reads as it did. -/
def instCopiesSpec : ChangeSpec := { name := "instCopies", fn := fun _ => fun
  | [d1, d2, d3] => { results := [.lit (.bool true)], args := [d1, d2, d3] }
  | _ => none }
def instCopiesRow : OpenClaim := { program := "ytgfnehiaddemaaa", sum := "b40c9c885d1d222f42afda9cfd5c3851fa6b9e37ad419d5f788c9d5d55b91ae4", func := "cloakroom/cloakroomlaw16.InstCopies", spec := "instCopies", unfollowed := true, recurses := true, apart := false }
def InstCopiesSaid : Prop := instCopiesRow.holds Try.pinned (OpenSpec.ofChange instCopiesSpec)

/-- ITS FALSE NEIGHBOUR: 'it returns false'. Refute it at one input. -/
def instCopiesWrong : ChangeSpec := { name := "instCopies", fn := fun _ => fun
  | [d1, d2, d3] => { results := [.lit (.bool false)], args := [d1, d2, d3] }
  | _ => none }
def InstCopiesWrongFalsely : Prop := instCopiesRow.holds Try.pinned (OpenSpec.ofChange instCopiesWrong)

/-- 'cloakroomlaw16.InstForms': WHATEVER THE INPUT: true; the input reads as it did. -/
def instFormsSpec : ChangeSpec := { name := "instForms", fn := fun _ => fun
  | [] => { results := [.lit (.bool true)], args := [] }
  | _ => none }
def instFormsRow : OpenClaim := { program := "ytgfnehiaddemaaa", sum := "b40c9c885d1d222f42afda9cfd5c3851fa6b9e37ad419d5f788c9d5d55b91ae4", func := "cloakroom/cloakroomlaw16.InstForms", spec := "instForms", unfollowed := true, recurses := true, apart := false }
def InstFormsSaid : Prop := instFormsRow.holds Try.pinned (OpenSpec.ofChange instFormsSpec)

/-- ITS FALSE NEIGHBOUR: 'it returns false'. Refute it at one input. -/
def instFormsWrong : ChangeSpec := { name := "instForms", fn := fun _ => fun
  | [] => { results := [.lit (.bool false)], args := [] }
  | _ => none }
def InstFormsWrongFalsely : Prop := instFormsRow.holds Try.pinned (OpenSpec.ofChange instFormsWrong)

/-- 'cloakroomlaw3.ReqAll': WHATEVER THE INPUT: true; the input reads as it did. -/
def reqAllSpec : ChangeSpec := { name := "reqAll", fn := fun _ => fun
  | [d1, d2, d3] => { results := [.lit (.bool true)], args := [d1, d2, d3] }
  | _ => none }
def reqAllRow : OpenClaim := { program := "ytgfnehiaddemaaa", sum := "b40c9c885d1d222f42afda9cfd5c3851fa6b9e37ad419d5f788c9d5d55b91ae4", func := "cloakroom/cloakroomlaw3.ReqAll", spec := "reqAll", apart := false }
def ReqAllSaid : Prop := reqAllRow.holds Try.pinned (OpenSpec.ofChange reqAllSpec)

/-- ITS FALSE NEIGHBOUR: 'it returns false'. Refute it at one input. -/
def reqAllWrong : ChangeSpec := { name := "reqAll", fn := fun _ => fun
  | [d1, d2, d3] => { results := [.lit (.bool false)], args := [d1, d2, d3] }
  | _ => none }
def ReqAllWrongFalsely : Prop := reqAllRow.holds Try.pinned (OpenSpec.ofChange reqAllWrong)

/-- 'cloakroomlaw3.ReqBack': WHATEVER THE INPUT: true; the input reads as it did. -/
def reqBackSpec : ChangeSpec := { name := "reqBack", fn := fun _ => fun
  | [d1, d2, d3, d4] => { results := [.lit (.bool true)], args := [d1, d2, d3, d4] }
  | _ => none }
def reqBackRow : OpenClaim := { program := "ytgfnehiaddemaaa", sum := "b40c9c885d1d222f42afda9cfd5c3851fa6b9e37ad419d5f788c9d5d55b91ae4", func := "cloakroom/cloakroomlaw3.ReqBack", spec := "reqBack", apart := false }
def ReqBackSaid : Prop := reqBackRow.holds Try.pinned (OpenSpec.ofChange reqBackSpec)

/-- ITS FALSE NEIGHBOUR: 'it returns false'. Refute it at one input. -/
def reqBackWrong : ChangeSpec := { name := "reqBack", fn := fun _ => fun
  | [d1, d2, d3, d4] => { results := [.lit (.bool false)], args := [d1, d2, d3, d4] }
  | _ => none }
def ReqBackWrongFalsely : Prop := reqBackRow.holds Try.pinned (OpenSpec.ofChange reqBackWrong)

/-- 'cloakroomlaw3.ReplyBack': WHATEVER THE INPUT: true; the input reads as it did. -/
def replyBackSpec : ChangeSpec := { name := "replyBack", fn := fun _ => fun
  | [d1, d2, d3] => { results := [.lit (.bool true)], args := [d1, d2, d3] }
  | _ => none }
def replyBackRow : OpenClaim := { program := "ytgfnehiaddemaaa", sum := "b40c9c885d1d222f42afda9cfd5c3851fa6b9e37ad419d5f788c9d5d55b91ae4", func := "cloakroom/cloakroomlaw3.ReplyBack", spec := "replyBack", apart := false }
def ReplyBackSaid : Prop := replyBackRow.holds Try.pinned (OpenSpec.ofChange replyBackSpec)

/-- ITS FALSE NEIGHBOUR: 'it returns false'. Refute it at one input. -/
def replyBackWrong : ChangeSpec := { name := "replyBack", fn := fun _ => fun
  | [d1, d2, d3] => { results := [.lit (.bool false)], args := [d1, d2, d3] }
  | _ => none }
def ReplyBackWrongFalsely : Prop := replyBackRow.holds Try.pinned (OpenSpec.ofChange replyBackWrong)

/-- 'cloakroomlaw3.ReqForms': WHATEVER THE INPUT: true; the input reads as it did. -/
def reqFormsSpec : ChangeSpec := { name := "reqForms", fn := fun _ => fun
  | [] => { results := [.lit (.bool true)], args := [] }
  | _ => none }
def reqFormsRow : OpenClaim := { program := "ytgfnehiaddemaaa", sum := "b40c9c885d1d222f42afda9cfd5c3851fa6b9e37ad419d5f788c9d5d55b91ae4", func := "cloakroom/cloakroomlaw3.ReqForms", spec := "reqForms", apart := false }
def ReqFormsSaid : Prop := reqFormsRow.holds Try.pinned (OpenSpec.ofChange reqFormsSpec)

/-- ITS FALSE NEIGHBOUR: 'it returns false'. Refute it at one input. -/
def reqFormsWrong : ChangeSpec := { name := "reqForms", fn := fun _ => fun
  | [] => { results := [.lit (.bool false)], args := [] }
  | _ => none }
def ReqFormsWrongFalsely : Prop := reqFormsRow.holds Try.pinned (OpenSpec.ofChange reqFormsWrong)

/-- 'cloakroomlaw3.ReqOne': WHATEVER THE INPUT: true; the input reads as it did. -/
def reqOneSpec : ChangeSpec := { name := "reqOne", fn := fun _ => fun
  | [d1, d2] => { results := [.lit (.bool true)], args := [d1, d2] }
  | _ => none }
def reqOneRow : OpenClaim := { program := "ytgfnehiaddemaaa", sum := "b40c9c885d1d222f42afda9cfd5c3851fa6b9e37ad419d5f788c9d5d55b91ae4", func := "cloakroom/cloakroomlaw3.ReqOne", spec := "reqOne", apart := false }
def ReqOneSaid : Prop := reqOneRow.holds Try.pinned (OpenSpec.ofChange reqOneSpec)

/-- ITS FALSE NEIGHBOUR: 'it returns false'. Refute it at one input. -/
def reqOneWrong : ChangeSpec := { name := "reqOne", fn := fun _ => fun
  | [d1, d2] => { results := [.lit (.bool false)], args := [d1, d2] }
  | _ => none }
def ReqOneWrongFalsely : Prop := reqOneRow.holds Try.pinned (OpenSpec.ofChange reqOneWrong)

/-- 'cloakroomlaw9.AsmPuts': WHATEVER THE INPUT: true; the input reads as it did. -/
def asmPutsSpec : ChangeSpec := { name := "asmPuts", fn := fun _ => fun
  | [d] => { results := [.lit (.bool true)], args := [d] }
  | _ => none }
def asmPutsRow : OpenClaim := { program := "ytgfnehiaddemaaa", sum := "b40c9c885d1d222f42afda9cfd5c3851fa6b9e37ad419d5f788c9d5d55b91ae4", func := "cloakroom/cloakroomlaw9.AsmPuts", spec := "asmPuts", unfollowed := true, recurses := true, apart := false }
def AsmPutsSaid : Prop := asmPutsRow.holds Try.pinned (OpenSpec.ofChange asmPutsSpec)

/-- ITS FALSE NEIGHBOUR: 'it returns false'. Refute it at one input. -/
def asmPutsWrong : ChangeSpec := { name := "asmPuts", fn := fun _ => fun
  | [d] => { results := [.lit (.bool false)], args := [d] }
  | _ => none }
def AsmPutsWrongFalsely : Prop := asmPutsRow.holds Try.pinned (OpenSpec.ofChange asmPutsWrong)

/-- 'cloakroomlaw9.AsmForms': WHATEVER THE INPUT: true; the input reads as it did. -/
def asmFormsSpec : ChangeSpec := { name := "asmForms", fn := fun _ => fun
  | [] => { results := [.lit (.bool true)], args := [] }
  | _ => none }
def asmFormsRow : OpenClaim := { program := "ytgfnehiaddemaaa", sum := "b40c9c885d1d222f42afda9cfd5c3851fa6b9e37ad419d5f788c9d5d55b91ae4", func := "cloakroom/cloakroomlaw9.AsmForms", spec := "asmForms", unfollowed := true, recurses := true, apart := false }
def AsmFormsSaid : Prop := asmFormsRow.holds Try.pinned (OpenSpec.ofChange asmFormsSpec)

/-- ITS FALSE NEIGHBOUR: 'it returns false'. Refute it at one input. -/
def asmFormsWrong : ChangeSpec := { name := "asmForms", fn := fun _ => fun
  | [] => { results := [.lit (.bool false)], args := [] }
  | _ => none }
def AsmFormsWrongFalsely : Prop := asmFormsRow.holds Try.pinned (OpenSpec.ofChange asmFormsWrong)

/- THE SECOND FORM. 'bulk': how many values and letters a reading holds, each counted each time it is reached (what is shared counts as often as it is met; a slice's spare places count too). A statement '..UptoSaid' is the law's where the arguments, and the package variables that the reading takes, are together of bulk at most 1048576: NARROWER than '..Said'. Prove '..Said' where nothing that the law and all that it calls make is longer than what came in: it says more and counts as full. Else prove '..UptoSaid'. A law counts once. -/
mutual
def uptoBulk {H : Type} : DataW H → Nat
  | .lit (.string bytes) => bytes.length + 1
  | .lit _ => 1
  | .nil => 1
  | .ptr d => uptoBulk d + 1
  | .slice elems spare => uptoBulkAll elems + uptoBulkAll spare + 1
  | .agg parts => uptoBulkAll parts + 1
  | .iface _ d => uptoBulk d + 1
  | .map entries => uptoBulkEntries entries + 1
  | .held _ => 1
def uptoBulkAll {H : Type} : List (DataW H) → Nat
  | [] => 0
  | d :: r => uptoBulk d + uptoBulkAll r
def uptoBulkEntries {H : Type} : List (Lit × DataW H) → Nat
  | [] => 0
  | x :: r => uptoBulkEntry x + uptoBulkEntries r
def uptoBulkEntry {H : Type} : Lit × DataW H → Nat
  | (.string bytes, d) => bytes.length + uptoBulk d + 1
  | (_, d) => uptoBulk d + 1
 end
def uptoSmall : (H : Type) → List (DataW H) → Bool := fun _ ds => decide (uptoBulkAll ds ≤ 1048576)
def OpenSpec.upto (s : _root_.Go.ChangeSpec) : _root_.Go.OpenSpec := { _root_.Go.OpenSpec.ofChange s with cond := some uptoSmall }

/-- 'cloakroomlaw16.InstNew', WHERE WHAT IT READS IS OF BULK AT MOST 1048576: true; the input reads as it did. -/
def instNewUptoRow : OpenClaim := { program := "ytgfnehiaddemaaa", sum := "b40c9c885d1d222f42afda9cfd5c3851fa6b9e37ad419d5f788c9d5d55b91ae4", func := "cloakroom/cloakroomlaw16.InstNew", spec := "instNew", unfollowed := true, recurses := true, apart := false, narrowed := true }
def InstNewUptoSaid : Prop := instNewUptoRow.holds Try.pinned (OpenSpec.upto instNewSpec)

/-- 'cloakroomlaw16.InstCopies', WHERE WHAT IT READS IS OF BULK AT MOST 1048576: true; the input reads as it did. -/
def instCopiesUptoRow : OpenClaim := { program := "ytgfnehiaddemaaa", sum := "b40c9c885d1d222f42afda9cfd5c3851fa6b9e37ad419d5f788c9d5d55b91ae4", func := "cloakroom/cloakroomlaw16.InstCopies", spec := "instCopies", unfollowed := true, recurses := true, apart := false, narrowed := true }
def InstCopiesUptoSaid : Prop := instCopiesUptoRow.holds Try.pinned (OpenSpec.upto instCopiesSpec)

/-- 'cloakroomlaw16.InstForms', WHERE WHAT IT READS IS OF BULK AT MOST 1048576: true; the input reads as it did. -/
def instFormsUptoRow : OpenClaim := { program := "ytgfnehiaddemaaa", sum := "b40c9c885d1d222f42afda9cfd5c3851fa6b9e37ad419d5f788c9d5d55b91ae4", func := "cloakroom/cloakroomlaw16.InstForms", spec := "instForms", unfollowed := true, recurses := true, apart := false, narrowed := true }
def InstFormsUptoSaid : Prop := instFormsUptoRow.holds Try.pinned (OpenSpec.upto instFormsSpec)

/-- 'cloakroomlaw3.ReqAll', WHERE WHAT IT READS IS OF BULK AT MOST 1048576: true; the input reads as it did. -/
def reqAllUptoRow : OpenClaim := { program := "ytgfnehiaddemaaa", sum := "b40c9c885d1d222f42afda9cfd5c3851fa6b9e37ad419d5f788c9d5d55b91ae4", func := "cloakroom/cloakroomlaw3.ReqAll", spec := "reqAll", apart := false, narrowed := true }
def ReqAllUptoSaid : Prop := reqAllUptoRow.holds Try.pinned (OpenSpec.upto reqAllSpec)

/-- 'cloakroomlaw3.ReqBack', WHERE WHAT IT READS IS OF BULK AT MOST 1048576: true; the input reads as it did. -/
def reqBackUptoRow : OpenClaim := { program := "ytgfnehiaddemaaa", sum := "b40c9c885d1d222f42afda9cfd5c3851fa6b9e37ad419d5f788c9d5d55b91ae4", func := "cloakroom/cloakroomlaw3.ReqBack", spec := "reqBack", apart := false, narrowed := true }
def ReqBackUptoSaid : Prop := reqBackUptoRow.holds Try.pinned (OpenSpec.upto reqBackSpec)

/-- 'cloakroomlaw3.ReplyBack', WHERE WHAT IT READS IS OF BULK AT MOST 1048576: true; the input reads as it did. -/
def replyBackUptoRow : OpenClaim := { program := "ytgfnehiaddemaaa", sum := "b40c9c885d1d222f42afda9cfd5c3851fa6b9e37ad419d5f788c9d5d55b91ae4", func := "cloakroom/cloakroomlaw3.ReplyBack", spec := "replyBack", apart := false, narrowed := true }
def ReplyBackUptoSaid : Prop := replyBackUptoRow.holds Try.pinned (OpenSpec.upto replyBackSpec)

/-- 'cloakroomlaw3.ReqForms', WHERE WHAT IT READS IS OF BULK AT MOST 1048576: true; the input reads as it did. -/
def reqFormsUptoRow : OpenClaim := { program := "ytgfnehiaddemaaa", sum := "b40c9c885d1d222f42afda9cfd5c3851fa6b9e37ad419d5f788c9d5d55b91ae4", func := "cloakroom/cloakroomlaw3.ReqForms", spec := "reqForms", apart := false, narrowed := true }
def ReqFormsUptoSaid : Prop := reqFormsUptoRow.holds Try.pinned (OpenSpec.upto reqFormsSpec)

/-- 'cloakroomlaw3.ReqOne', WHERE WHAT IT READS IS OF BULK AT MOST 1048576: true; the input reads as it did. -/
def reqOneUptoRow : OpenClaim := { program := "ytgfnehiaddemaaa", sum := "b40c9c885d1d222f42afda9cfd5c3851fa6b9e37ad419d5f788c9d5d55b91ae4", func := "cloakroom/cloakroomlaw3.ReqOne", spec := "reqOne", apart := false, narrowed := true }
def ReqOneUptoSaid : Prop := reqOneUptoRow.holds Try.pinned (OpenSpec.upto reqOneSpec)

/-- 'cloakroomlaw9.AsmPuts', WHERE WHAT IT READS IS OF BULK AT MOST 1048576: true; the input reads as it did. -/
def asmPutsUptoRow : OpenClaim := { program := "ytgfnehiaddemaaa", sum := "b40c9c885d1d222f42afda9cfd5c3851fa6b9e37ad419d5f788c9d5d55b91ae4", func := "cloakroom/cloakroomlaw9.AsmPuts", spec := "asmPuts", unfollowed := true, recurses := true, apart := false, narrowed := true }
def AsmPutsUptoSaid : Prop := asmPutsUptoRow.holds Try.pinned (OpenSpec.upto asmPutsSpec)

/-- 'cloakroomlaw9.AsmForms', WHERE WHAT IT READS IS OF BULK AT MOST 1048576: true; the input reads as it did. -/
def asmFormsUptoRow : OpenClaim := { program := "ytgfnehiaddemaaa", sum := "b40c9c885d1d222f42afda9cfd5c3851fa6b9e37ad419d5f788c9d5d55b91ae4", func := "cloakroom/cloakroomlaw9.AsmForms", spec := "asmForms", unfollowed := true, recurses := true, apart := false, narrowed := true }
def AsmFormsUptoSaid : Prop := asmFormsUptoRow.holds Try.pinned (OpenSpec.upto asmFormsSpec)

end Rows
end Go.Proofs.Ytgfnehiaddemaaa
