/-
  No cell of these rows narrows 'for every input' (looked for: loops, veiled, ifaces, maps, wideKeys, modest, calm, conditions, laid).
  DERIVED. THE GIVEN ROWS OF THIS SEAT. 12 by the template 'for every input the law returns true; each argument reads behind the call as it read before'; 0 by the template 'total and deterministic' (their statements: YtfhdeagbgdnkaaaTotals.lean).
  GIVEN WITH THE SEED: the statements are not yours to turn. If you find one false, say at which input.
  Laid BY PROGRAM, IN A SANDBOX (cutbox-rows.mjs): the forced cells as the released guide's own fill.sh prints them over the translation cc6f9bebf116a913… (all of the seat's roots in one cut). By AI agents, Wed Nov 11 2026. No macro, syntax, notation, axiom, sorry.
-/
import Derived.Test.YtfhdeagbgdnkaaaChecked
import GoSem.Claim
import GoSem.ClaimJoined
import GoSem.ClaimMapViews
import Derived.JoinedTies
import Derived.KernelRfl
namespace Go.Proofs.Ytfhdeagbgdnkaaa
/- THE CELL 'sum', in the pinned program and in every row, IS THE sha256 OF THE DUMP (.gsa) THAT YtfhdeagbgdnkaaaProg.lean LOADS. Nothing in Lean hashes anything: it is a label: what it is worth is what the hold of that sum in a sandbox is worth. -/
noncomputable def Try.pinned : Pinned := { name := "ytfhdeagbgdnkaaa", sum := "cc6f9bebf116a91336227a2c822263823261f5f519dfe95679a200b80840b1e2", checked := Try.checked }
namespace Rows
def none {H : Type} : Left H := { results := [], args := [] }

/-- 'cloakroomlaw5.OpAll': WHATEVER THE INPUT: true; the input reads as it did. -/
def opAllSpec : ChangeSpec := { name := "opAll", fn := fun _ => fun
  | [d] => { results := [.lit (.bool true)], args := [d] }
  | _ => none }
def opAllRow : OpenClaim := { program := "ytfhdeagbgdnkaaa", sum := "cc6f9bebf116a91336227a2c822263823261f5f519dfe95679a200b80840b1e2", func := "cloakroom/cloakroomlaw5.OpAll", spec := "opAll", apart := false }
def OpAllSaid : Prop := opAllRow.holds Try.pinned (OpenSpec.ofChange opAllSpec)

/-- ITS FALSE NEIGHBOUR: 'it returns false'. Refute it at one input. -/
def opAllWrong : ChangeSpec := { name := "opAll", fn := fun _ => fun
  | [d] => { results := [.lit (.bool false)], args := [d] }
  | _ => none }
def OpAllWrongFalsely : Prop := opAllRow.holds Try.pinned (OpenSpec.ofChange opAllWrong)

/-- 'cloakroomlaw5.OpNames': WHATEVER THE INPUT: true; the input reads as it did. -/
def opNamesSpec : ChangeSpec := { name := "opNames", fn := fun _ => fun
  | [] => { results := [.lit (.bool true)], args := [] }
  | _ => none }
def opNamesRow : OpenClaim := { program := "ytfhdeagbgdnkaaa", sum := "cc6f9bebf116a91336227a2c822263823261f5f519dfe95679a200b80840b1e2", func := "cloakroom/cloakroomlaw5.OpNames", spec := "opNames", apart := false }
def OpNamesSaid : Prop := opNamesRow.holds Try.pinned (OpenSpec.ofChange opNamesSpec)

/-- ITS FALSE NEIGHBOUR: 'it returns false'. Refute it at one input. -/
def opNamesWrong : ChangeSpec := { name := "opNames", fn := fun _ => fun
  | [] => { results := [.lit (.bool false)], args := [] }
  | _ => none }
def OpNamesWrongFalsely : Prop := opNamesRow.holds Try.pinned (OpenSpec.ofChange opNamesWrong)

/-- 'cloakroomlaw5.OpWidths': WHATEVER THE INPUT: true; the input reads as it did. -/
def opWidthsSpec : ChangeSpec := { name := "opWidths", fn := fun _ => fun
  | [] => { results := [.lit (.bool true)], args := [] }
  | _ => none }
def opWidthsRow : OpenClaim := { program := "ytfhdeagbgdnkaaa", sum := "cc6f9bebf116a91336227a2c822263823261f5f519dfe95679a200b80840b1e2", func := "cloakroom/cloakroomlaw5.OpWidths", spec := "opWidths", apart := false }
def OpWidthsSaid : Prop := opWidthsRow.holds Try.pinned (OpenSpec.ofChange opWidthsSpec)

/-- ITS FALSE NEIGHBOUR: 'it returns false'. Refute it at one input. -/
def opWidthsWrong : ChangeSpec := { name := "opWidths", fn := fun _ => fun
  | [] => { results := [.lit (.bool false)], args := [] }
  | _ => none }
def OpWidthsWrongFalsely : Prop := opWidthsRow.holds Try.pinned (OpenSpec.ofChange opWidthsWrong)

/-- 'cloakroomlaw5.OpForms': WHATEVER THE INPUT: true; the input reads as it did. -/
def opFormsSpec : ChangeSpec := { name := "opForms", fn := fun _ => fun
  | [] => { results := [.lit (.bool true)], args := [] }
  | _ => none }
def opFormsRow : OpenClaim := { program := "ytfhdeagbgdnkaaa", sum := "cc6f9bebf116a91336227a2c822263823261f5f519dfe95679a200b80840b1e2", func := "cloakroom/cloakroomlaw5.OpForms", spec := "opForms", apart := false }
def OpFormsSaid : Prop := opFormsRow.holds Try.pinned (OpenSpec.ofChange opFormsSpec)

/-- ITS FALSE NEIGHBOUR: 'it returns false'. Refute it at one input. -/
def opFormsWrong : ChangeSpec := { name := "opForms", fn := fun _ => fun
  | [] => { results := [.lit (.bool false)], args := [] }
  | _ => none }
def OpFormsWrongFalsely : Prop := opFormsRow.holds Try.pinned (OpenSpec.ofChange opFormsWrong)

/-- 'cloakroomlaw10.CtrlAll': WHATEVER THE INPUT: true; the input reads as it did. -/
def ctrlAllSpec : ChangeSpec := { name := "ctrlAll", fn := fun _ => fun
  | [d] => { results := [.lit (.bool true)], args := [d] }
  | _ => none }
def ctrlAllRow : OpenClaim := { program := "ytfhdeagbgdnkaaa", sum := "cc6f9bebf116a91336227a2c822263823261f5f519dfe95679a200b80840b1e2", func := "cloakroom/cloakroomlaw10.CtrlAll", spec := "ctrlAll", apart := false }
def CtrlAllSaid : Prop := ctrlAllRow.holds Try.pinned (OpenSpec.ofChange ctrlAllSpec)

/-- ITS FALSE NEIGHBOUR: 'it returns false'. Refute it at one input. -/
def ctrlAllWrong : ChangeSpec := { name := "ctrlAll", fn := fun _ => fun
  | [d] => { results := [.lit (.bool false)], args := [d] }
  | _ => none }
def CtrlAllWrongFalsely : Prop := ctrlAllRow.holds Try.pinned (OpenSpec.ofChange ctrlAllWrong)

/-- 'cloakroomlaw10.CtrlMade': WHATEVER THE INPUT: true; the input reads as it did. -/
def ctrlMadeSpec : ChangeSpec := { name := "ctrlMade", fn := fun _ => fun
  | [d] => { results := [.lit (.bool true)], args := [d] }
  | _ => none }
def ctrlMadeRow : OpenClaim := { program := "ytfhdeagbgdnkaaa", sum := "cc6f9bebf116a91336227a2c822263823261f5f519dfe95679a200b80840b1e2", func := "cloakroom/cloakroomlaw10.CtrlMade", spec := "ctrlMade", recurses := true, apart := false }
def CtrlMadeSaid : Prop := ctrlMadeRow.holds Try.pinned (OpenSpec.ofChange ctrlMadeSpec)

/-- ITS FALSE NEIGHBOUR: 'it returns false'. Refute it at one input. -/
def ctrlMadeWrong : ChangeSpec := { name := "ctrlMade", fn := fun _ => fun
  | [d] => { results := [.lit (.bool false)], args := [d] }
  | _ => none }
def CtrlMadeWrongFalsely : Prop := ctrlMadeRow.holds Try.pinned (OpenSpec.ofChange ctrlMadeWrong)

/-- 'cloakroomlaw10.CtrlNest': WHATEVER THE INPUT: true; the input reads as it did. -/
def ctrlNestSpec : ChangeSpec := { name := "ctrlNest", fn := fun _ => fun
  | [d] => { results := [.lit (.bool true)], args := [d] }
  | _ => none }
def ctrlNestRow : OpenClaim := { program := "ytfhdeagbgdnkaaa", sum := "cc6f9bebf116a91336227a2c822263823261f5f519dfe95679a200b80840b1e2", func := "cloakroom/cloakroomlaw10.CtrlNest", spec := "ctrlNest", recurses := true, apart := false }
def CtrlNestSaid : Prop := ctrlNestRow.holds Try.pinned (OpenSpec.ofChange ctrlNestSpec)

/-- ITS FALSE NEIGHBOUR: 'it returns false'. Refute it at one input. -/
def ctrlNestWrong : ChangeSpec := { name := "ctrlNest", fn := fun _ => fun
  | [d] => { results := [.lit (.bool false)], args := [d] }
  | _ => none }
def CtrlNestWrongFalsely : Prop := ctrlNestRow.holds Try.pinned (OpenSpec.ofChange ctrlNestWrong)

/-- 'cloakroomlaw10.CtrlForms': WHATEVER THE INPUT: true; the input reads as it did. -/
def ctrlFormsSpec : ChangeSpec := { name := "ctrlForms", fn := fun _ => fun
  | [] => { results := [.lit (.bool true)], args := [] }
  | _ => none }
def ctrlFormsRow : OpenClaim := { program := "ytfhdeagbgdnkaaa", sum := "cc6f9bebf116a91336227a2c822263823261f5f519dfe95679a200b80840b1e2", func := "cloakroom/cloakroomlaw10.CtrlForms", spec := "ctrlForms", apart := false }
def CtrlFormsSaid : Prop := ctrlFormsRow.holds Try.pinned (OpenSpec.ofChange ctrlFormsSpec)

/-- ITS FALSE NEIGHBOUR: 'it returns false'. Refute it at one input. -/
def ctrlFormsWrong : ChangeSpec := { name := "ctrlForms", fn := fun _ => fun
  | [] => { results := [.lit (.bool false)], args := [] }
  | _ => none }
def CtrlFormsWrongFalsely : Prop := ctrlFormsRow.holds Try.pinned (OpenSpec.ofChange ctrlFormsWrong)

/-- 'cloakroomlaw23.ClockLate': WHATEVER THE INPUT: true; the input reads as it did. -/
def clockLateSpec : ChangeSpec := { name := "clockLate", fn := fun _ => fun
  | [d] => { results := [.lit (.bool true)], args := [d] }
  | _ => none }
def clockLateRow : OpenClaim := { program := "ytfhdeagbgdnkaaa", sum := "cc6f9bebf116a91336227a2c822263823261f5f519dfe95679a200b80840b1e2", func := "cloakroom/cloakroomlaw23.ClockLate", spec := "clockLate", unfollowed := true, recurses := true, apart := false }
def ClockLateSaid : Prop := clockLateRow.holds Try.pinned (OpenSpec.ofChange clockLateSpec)

/-- ITS FALSE NEIGHBOUR: 'it returns false'. Refute it at one input. -/
def clockLateWrong : ChangeSpec := { name := "clockLate", fn := fun _ => fun
  | [d] => { results := [.lit (.bool false)], args := [d] }
  | _ => none }
def ClockLateWrongFalsely : Prop := clockLateRow.holds Try.pinned (OpenSpec.ofChange clockLateWrong)

/-- 'cloakroomlaw23.ClockAgain': WHATEVER THE INPUT: true; the input reads as it did. -/
def clockAgainSpec : ChangeSpec := { name := "clockAgain", fn := fun _ => fun
  | [d1, d2, d3] => { results := [.lit (.bool true)], args := [d1, d2, d3] }
  | _ => none }
def clockAgainRow : OpenClaim := { program := "ytfhdeagbgdnkaaa", sum := "cc6f9bebf116a91336227a2c822263823261f5f519dfe95679a200b80840b1e2", func := "cloakroom/cloakroomlaw23.ClockAgain", spec := "clockAgain", unfollowed := true, recurses := true, apart := false }
def ClockAgainSaid : Prop := clockAgainRow.holds Try.pinned (OpenSpec.ofChange clockAgainSpec)

/-- ITS FALSE NEIGHBOUR: 'it returns false'. Refute it at one input. -/
def clockAgainWrong : ChangeSpec := { name := "clockAgain", fn := fun _ => fun
  | [d1, d2, d3] => { results := [.lit (.bool false)], args := [d1, d2, d3] }
  | _ => none }
def ClockAgainWrongFalsely : Prop := clockAgainRow.holds Try.pinned (OpenSpec.ofChange clockAgainWrong)

/-- 'cloakroomlaw23.ClockDrops': WHATEVER THE INPUT: true; the input reads as it did. -/
def clockDropsSpec : ChangeSpec := { name := "clockDrops", fn := fun _ => fun
  | [d1, d2] => { results := [.lit (.bool true)], args := [d1, d2] }
  | _ => none }
def clockDropsRow : OpenClaim := { program := "ytfhdeagbgdnkaaa", sum := "cc6f9bebf116a91336227a2c822263823261f5f519dfe95679a200b80840b1e2", func := "cloakroom/cloakroomlaw23.ClockDrops", spec := "clockDrops", unfollowed := true, recurses := true, apart := false }
def ClockDropsSaid : Prop := clockDropsRow.holds Try.pinned (OpenSpec.ofChange clockDropsSpec)

/-- ITS FALSE NEIGHBOUR: 'it returns false'. Refute it at one input. -/
def clockDropsWrong : ChangeSpec := { name := "clockDrops", fn := fun _ => fun
  | [d1, d2] => { results := [.lit (.bool false)], args := [d1, d2] }
  | _ => none }
def ClockDropsWrongFalsely : Prop := clockDropsRow.holds Try.pinned (OpenSpec.ofChange clockDropsWrong)

/-- 'cloakroomlaw23.ClockAll': WHATEVER THE INPUT: true; the input reads as it did. -/
def clockAllSpec : ChangeSpec := { name := "clockAll", fn := fun _ => fun
  | [d] => { results := [.lit (.bool true)], args := [d] }
  | _ => none }
def clockAllRow : OpenClaim := { program := "ytfhdeagbgdnkaaa", sum := "cc6f9bebf116a91336227a2c822263823261f5f519dfe95679a200b80840b1e2", func := "cloakroom/cloakroomlaw23.ClockAll", spec := "clockAll", unfollowed := true, recurses := true, apart := false }
def ClockAllSaid : Prop := clockAllRow.holds Try.pinned (OpenSpec.ofChange clockAllSpec)

/-- ITS FALSE NEIGHBOUR: 'it returns false'. Refute it at one input. -/
def clockAllWrong : ChangeSpec := { name := "clockAll", fn := fun _ => fun
  | [d] => { results := [.lit (.bool false)], args := [d] }
  | _ => none }
def ClockAllWrongFalsely : Prop := clockAllRow.holds Try.pinned (OpenSpec.ofChange clockAllWrong)

/- THE SECOND FORM. 'bulk': how many values and letters a reading holds, each counted each time it is reached (what is shared counts as often as it is met; a slice's spare places count too). A statement '..UptoSaid' is the law's where the arguments, and the package variables that the reading takes, are together of bulk at most 1048576: NARROWER than '..Said'. Prove '..Said' where nothing that the law and all that it calls make is longer than what came in: it says more and counts as full. Else prove '..UptoSaid'. A law counts once. -/
mutual
def uptoBulk {H : Type} : DataW H → Nat
  | .lit (.string bytes) => bytes.length + 1
  | .lit _ => 1
  | .nil => 1
  | .ptr d => uptoBulk d + 1
  | .slice elems spare => uptoBulkAll elems + uptoBulkAll spare + 1
  | .agg parts => uptoBulkAll parts + 1
  | .iface _ d => uptoBulk d + 1
  | .map entries => uptoBulkEntries entries + 1
  | .held _ => 1
def uptoBulkAll {H : Type} : List (DataW H) → Nat
  | [] => 0
  | d :: r => uptoBulk d + uptoBulkAll r
def uptoBulkEntries {H : Type} : List (Lit × DataW H) → Nat
  | [] => 0
  | x :: r => uptoBulkEntry x + uptoBulkEntries r
def uptoBulkEntry {H : Type} : Lit × DataW H → Nat
  | (.string bytes, d) => bytes.length + uptoBulk d + 1
  | (_, d) => uptoBulk d + 1
 end
def uptoSmall : (H : Type) → List (DataW H) → Bool := fun _ ds => decide (uptoBulkAll ds ≤ 1048576)
def OpenSpec.upto (s : _root_.Go.ChangeSpec) : _root_.Go.OpenSpec := { _root_.Go.OpenSpec.ofChange s with cond := some uptoSmall }

/-- 'cloakroomlaw5.OpAll', WHERE WHAT IT READS IS OF BULK AT MOST 1048576: true; the input reads as it did. -/
def opAllUptoRow : OpenClaim := { program := "ytfhdeagbgdnkaaa", sum := "cc6f9bebf116a91336227a2c822263823261f5f519dfe95679a200b80840b1e2", func := "cloakroom/cloakroomlaw5.OpAll", spec := "opAll", apart := false, narrowed := true }
def OpAllUptoSaid : Prop := opAllUptoRow.holds Try.pinned (OpenSpec.upto opAllSpec)

/-- 'cloakroomlaw5.OpNames', WHERE WHAT IT READS IS OF BULK AT MOST 1048576: true; the input reads as it did. -/
def opNamesUptoRow : OpenClaim := { program := "ytfhdeagbgdnkaaa", sum := "cc6f9bebf116a91336227a2c822263823261f5f519dfe95679a200b80840b1e2", func := "cloakroom/cloakroomlaw5.OpNames", spec := "opNames", apart := false, narrowed := true }
def OpNamesUptoSaid : Prop := opNamesUptoRow.holds Try.pinned (OpenSpec.upto opNamesSpec)

/-- 'cloakroomlaw5.OpWidths', WHERE WHAT IT READS IS OF BULK AT MOST 1048576: true; the input reads as it did. -/
def opWidthsUptoRow : OpenClaim := { program := "ytfhdeagbgdnkaaa", sum := "cc6f9bebf116a91336227a2c822263823261f5f519dfe95679a200b80840b1e2", func := "cloakroom/cloakroomlaw5.OpWidths", spec := "opWidths", apart := false, narrowed := true }
def OpWidthsUptoSaid : Prop := opWidthsUptoRow.holds Try.pinned (OpenSpec.upto opWidthsSpec)

/-- 'cloakroomlaw5.OpForms', WHERE WHAT IT READS IS OF BULK AT MOST 1048576: true; the input reads as it did. -/
def opFormsUptoRow : OpenClaim := { program := "ytfhdeagbgdnkaaa", sum := "cc6f9bebf116a91336227a2c822263823261f5f519dfe95679a200b80840b1e2", func := "cloakroom/cloakroomlaw5.OpForms", spec := "opForms", apart := false, narrowed := true }
def OpFormsUptoSaid : Prop := opFormsUptoRow.holds Try.pinned (OpenSpec.upto opFormsSpec)

/-- 'cloakroomlaw10.CtrlAll', WHERE WHAT IT READS IS OF BULK AT MOST 1048576: true; the input reads as it did. -/
def ctrlAllUptoRow : OpenClaim := { program := "ytfhdeagbgdnkaaa", sum := "cc6f9bebf116a91336227a2c822263823261f5f519dfe95679a200b80840b1e2", func := "cloakroom/cloakroomlaw10.CtrlAll", spec := "ctrlAll", apart := false, narrowed := true }
def CtrlAllUptoSaid : Prop := ctrlAllUptoRow.holds Try.pinned (OpenSpec.upto ctrlAllSpec)

/-- 'cloakroomlaw10.CtrlMade', WHERE WHAT IT READS IS OF BULK AT MOST 1048576: true; the input reads as it did. -/
def ctrlMadeUptoRow : OpenClaim := { program := "ytfhdeagbgdnkaaa", sum := "cc6f9bebf116a91336227a2c822263823261f5f519dfe95679a200b80840b1e2", func := "cloakroom/cloakroomlaw10.CtrlMade", spec := "ctrlMade", recurses := true, apart := false, narrowed := true }
def CtrlMadeUptoSaid : Prop := ctrlMadeUptoRow.holds Try.pinned (OpenSpec.upto ctrlMadeSpec)

/-- 'cloakroomlaw10.CtrlNest', WHERE WHAT IT READS IS OF BULK AT MOST 1048576: true; the input reads as it did. -/
def ctrlNestUptoRow : OpenClaim := { program := "ytfhdeagbgdnkaaa", sum := "cc6f9bebf116a91336227a2c822263823261f5f519dfe95679a200b80840b1e2", func := "cloakroom/cloakroomlaw10.CtrlNest", spec := "ctrlNest", recurses := true, apart := false, narrowed := true }
def CtrlNestUptoSaid : Prop := ctrlNestUptoRow.holds Try.pinned (OpenSpec.upto ctrlNestSpec)

/-- 'cloakroomlaw10.CtrlForms', WHERE WHAT IT READS IS OF BULK AT MOST 1048576: true; the input reads as it did. -/
def ctrlFormsUptoRow : OpenClaim := { program := "ytfhdeagbgdnkaaa", sum := "cc6f9bebf116a91336227a2c822263823261f5f519dfe95679a200b80840b1e2", func := "cloakroom/cloakroomlaw10.CtrlForms", spec := "ctrlForms", apart := false, narrowed := true }
def CtrlFormsUptoSaid : Prop := ctrlFormsUptoRow.holds Try.pinned (OpenSpec.upto ctrlFormsSpec)

/-- 'cloakroomlaw23.ClockLate', WHERE WHAT IT READS IS OF BULK AT MOST 1048576: true; the input reads as it did. -/
def clockLateUptoRow : OpenClaim := { program := "ytfhdeagbgdnkaaa", sum := "cc6f9bebf116a91336227a2c822263823261f5f519dfe95679a200b80840b1e2", func := "cloakroom/cloakroomlaw23.ClockLate", spec := "clockLate", unfollowed := true, recurses := true, apart := false, narrowed := true }
def ClockLateUptoSaid : Prop := clockLateUptoRow.holds Try.pinned (OpenSpec.upto clockLateSpec)

/-- 'cloakroomlaw23.ClockAgain', WHERE WHAT IT READS IS OF BULK AT MOST 1048576: true; the input reads as it did. -/
def clockAgainUptoRow : OpenClaim := { program := "ytfhdeagbgdnkaaa", sum := "cc6f9bebf116a91336227a2c822263823261f5f519dfe95679a200b80840b1e2", func := "cloakroom/cloakroomlaw23.ClockAgain", spec := "clockAgain", unfollowed := true, recurses := true, apart := false, narrowed := true }
def ClockAgainUptoSaid : Prop := clockAgainUptoRow.holds Try.pinned (OpenSpec.upto clockAgainSpec)

/-- 'cloakroomlaw23.ClockDrops', WHERE WHAT IT READS IS OF BULK AT MOST 1048576: true; the input reads as it did. -/
def clockDropsUptoRow : OpenClaim := { program := "ytfhdeagbgdnkaaa", sum := "cc6f9bebf116a91336227a2c822263823261f5f519dfe95679a200b80840b1e2", func := "cloakroom/cloakroomlaw23.ClockDrops", spec := "clockDrops", unfollowed := true, recurses := true, apart := false, narrowed := true }
def ClockDropsUptoSaid : Prop := clockDropsUptoRow.holds Try.pinned (OpenSpec.upto clockDropsSpec)

/-- 'cloakroomlaw23.ClockAll', WHERE WHAT IT READS IS OF BULK AT MOST 1048576: true; the input reads as it did. -/
def clockAllUptoRow : OpenClaim := { program := "ytfhdeagbgdnkaaa", sum := "cc6f9bebf116a91336227a2c822263823261f5f519dfe95679a200b80840b1e2", func := "cloakroom/cloakroomlaw23.ClockAll", spec := "clockAll", unfollowed := true, recurses := true, apart := false, narrowed := true }
def ClockAllUptoSaid : Prop := clockAllUptoRow.holds Try.pinned (OpenSpec.upto clockAllSpec)

end Rows
end Go.Proofs.Ytfhdeagbgdnkaaa
