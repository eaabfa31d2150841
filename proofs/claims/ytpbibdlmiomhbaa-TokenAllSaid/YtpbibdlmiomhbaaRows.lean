/-
  No cell of these rows narrows 'for every input' (looked for: loops, veiled, ifaces, maps, wideKeys, modest, calm, conditions, laid).
  DERIVED. THE GIVEN ROWS OF THIS SEAT. 12 by the template 'for every input the law returns true; each argument reads behind the call as it read before'; 0 by the template 'total and deterministic' (their statements: YtpbibdlmiomhbaaTotals.lean).
  GIVEN WITH THE SEED: the statements are not yours to turn. If you find one false, say at which input.
  Laid BY PROGRAM, IN A SANDBOX (cutbox-rows.mjs): the forced cells as the released guide's own fill.sh prints them over the translation 940d0ca472d83c23… (all of the seat's roots in one cut). By AI agents, Wed Nov 11 2026. No macro, syntax, notation, axiom, sorry.
-/
import Derived.Test.YtpbibdlmiomhbaaChecked
import GoSem.Claim
import GoSem.ClaimJoined
import GoSem.ClaimMapViews
import Derived.JoinedTies
import Derived.KernelRfl
namespace Go.Proofs.Ytpbibdlmiomhbaa
/- THE CELL 'sum', in the pinned program and in every row, IS THE sha256 OF THE DUMP (.gsa) THAT YtpbibdlmiomhbaaProg.lean LOADS. Nothing in Lean hashes anything: it is a label: what it is worth is what the hold of that sum in a sandbox is worth. -/
noncomputable def Try.pinned : Pinned := { name := "ytpbibdlmiomhbaa", sum := "940d0ca472d83c2323d33bcfa8b1bc9319b785205496ad9bd3d5c49dc19b4abd", checked := Try.checked }
namespace Rows
def none {H : Type} : Left H := { results := [], args := [] }

/-- 'cloakroomlaw2.FrameCuts': WHATEVER THE INPUT: true; the input reads as it did. -/
def frameCutsSpec : ChangeSpec := { name := "frameCuts", fn := fun _ => fun
  | [d1, d2] => { results := [.lit (.bool true)], args := [d1, d2] }
  | _ => none }
def frameCutsRow : OpenClaim := { program := "ytpbibdlmiomhbaa", sum := "940d0ca472d83c2323d33bcfa8b1bc9319b785205496ad9bd3d5c49dc19b4abd", func := "cloakroom/cloakroomlaw2.FrameCuts", spec := "frameCuts", apart := false }
def FrameCutsSaid : Prop := frameCutsRow.holds Try.pinned (OpenSpec.ofChange frameCutsSpec)

/-- ITS FALSE NEIGHBOUR: 'it returns false'. Refute it at one input. -/
def frameCutsWrong : ChangeSpec := { name := "frameCuts", fn := fun _ => fun
  | [d1, d2] => { results := [.lit (.bool false)], args := [d1, d2] }
  | _ => none }
def FrameCutsWrongFalsely : Prop := frameCutsRow.holds Try.pinned (OpenSpec.ofChange frameCutsWrong)

/-- 'cloakroomlaw2.FrameLong': WHATEVER THE INPUT: true; the input reads as it did. -/
def frameLongSpec : ChangeSpec := { name := "frameLong", fn := fun _ => fun
  | [d1, d2, d3] => { results := [.lit (.bool true)], args := [d1, d2, d3] }
  | _ => none }
def frameLongRow : OpenClaim := { program := "ytpbibdlmiomhbaa", sum := "940d0ca472d83c2323d33bcfa8b1bc9319b785205496ad9bd3d5c49dc19b4abd", func := "cloakroom/cloakroomlaw2.FrameLong", spec := "frameLong", apart := false }
def FrameLongSaid : Prop := frameLongRow.holds Try.pinned (OpenSpec.ofChange frameLongSpec)

/-- ITS FALSE NEIGHBOUR: 'it returns false'. Refute it at one input. -/
def frameLongWrong : ChangeSpec := { name := "frameLong", fn := fun _ => fun
  | [d1, d2, d3] => { results := [.lit (.bool false)], args := [d1, d2, d3] }
  | _ => none }
def FrameLongWrongFalsely : Prop := frameLongRow.holds Try.pinned (OpenSpec.ofChange frameLongWrong)

/-- 'cloakroomlaw2.FrameRest': WHATEVER THE INPUT: true; the input reads as it did. -/
def frameRestSpec : ChangeSpec := { name := "frameRest", fn := fun _ => fun
  | [d1, d2] => { results := [.lit (.bool true)], args := [d1, d2] }
  | _ => none }
def frameRestRow : OpenClaim := { program := "ytpbibdlmiomhbaa", sum := "940d0ca472d83c2323d33bcfa8b1bc9319b785205496ad9bd3d5c49dc19b4abd", func := "cloakroom/cloakroomlaw2.FrameRest", spec := "frameRest", apart := false }
def FrameRestSaid : Prop := frameRestRow.holds Try.pinned (OpenSpec.ofChange frameRestSpec)

/-- ITS FALSE NEIGHBOUR: 'it returns false'. Refute it at one input. -/
def frameRestWrong : ChangeSpec := { name := "frameRest", fn := fun _ => fun
  | [d1, d2] => { results := [.lit (.bool false)], args := [d1, d2] }
  | _ => none }
def FrameRestWrongFalsely : Prop := frameRestRow.holds Try.pinned (OpenSpec.ofChange frameRestWrong)

/-- 'cloakroomlaw2.FrameAll': WHATEVER THE INPUT: true; the input reads as it did. -/
def frameAllSpec : ChangeSpec := { name := "frameAll", fn := fun _ => fun
  | [d] => { results := [.lit (.bool true)], args := [d] }
  | _ => none }
def frameAllRow : OpenClaim := { program := "ytpbibdlmiomhbaa", sum := "940d0ca472d83c2323d33bcfa8b1bc9319b785205496ad9bd3d5c49dc19b4abd", func := "cloakroom/cloakroomlaw2.FrameAll", spec := "frameAll", apart := false }
def FrameAllSaid : Prop := frameAllRow.holds Try.pinned (OpenSpec.ofChange frameAllSpec)

/-- ITS FALSE NEIGHBOUR: 'it returns false'. Refute it at one input. -/
def frameAllWrong : ChangeSpec := { name := "frameAll", fn := fun _ => fun
  | [d] => { results := [.lit (.bool false)], args := [d] }
  | _ => none }
def FrameAllWrongFalsely : Prop := frameAllRow.holds Try.pinned (OpenSpec.ofChange frameAllWrong)

/-- 'cloakroomlaw22.LockOrder': WHATEVER THE INPUT: true; the input reads as it did. -/
def lockOrderSpec : ChangeSpec := { name := "lockOrder", fn := fun _ => fun
  | [d1, d2] => { results := [.lit (.bool true)], args := [d1, d2] }
  | _ => none }
def lockOrderRow : OpenClaim := { program := "ytpbibdlmiomhbaa", sum := "940d0ca472d83c2323d33bcfa8b1bc9319b785205496ad9bd3d5c49dc19b4abd", func := "cloakroom/cloakroomlaw22.LockOrder", spec := "lockOrder", unfollowed := true, recurses := true, apart := false }
def LockOrderSaid : Prop := lockOrderRow.holds Try.pinned (OpenSpec.ofChange lockOrderSpec)

/-- ITS FALSE NEIGHBOUR: 'it returns false'. Refute it at one input. -/
def lockOrderWrong : ChangeSpec := { name := "lockOrder", fn := fun _ => fun
  | [d1, d2] => { results := [.lit (.bool false)], args := [d1, d2] }
  | _ => none }
def LockOrderWrongFalsely : Prop := lockOrderRow.holds Try.pinned (OpenSpec.ofChange lockOrderWrong)

/-- 'cloakroomlaw22.LockRoom': WHATEVER THE INPUT: true; the input reads as it did. -/
def lockRoomSpec : ChangeSpec := { name := "lockRoom", fn := fun _ => fun
  | [d] => { results := [.lit (.bool true)], args := [d] }
  | _ => none }
def lockRoomRow : OpenClaim := { program := "ytpbibdlmiomhbaa", sum := "940d0ca472d83c2323d33bcfa8b1bc9319b785205496ad9bd3d5c49dc19b4abd", func := "cloakroom/cloakroomlaw22.LockRoom", spec := "lockRoom", unfollowed := true, recurses := true, apart := false }
def LockRoomSaid : Prop := lockRoomRow.holds Try.pinned (OpenSpec.ofChange lockRoomSpec)

/-- ITS FALSE NEIGHBOUR: 'it returns false'. Refute it at one input. -/
def lockRoomWrong : ChangeSpec := { name := "lockRoom", fn := fun _ => fun
  | [d] => { results := [.lit (.bool false)], args := [d] }
  | _ => none }
def LockRoomWrongFalsely : Prop := lockRoomRow.holds Try.pinned (OpenSpec.ofChange lockRoomWrong)

/-- 'cloakroomlaw22.LockLeaves': WHATEVER THE INPUT: true; the input reads as it did. -/
def lockLeavesSpec : ChangeSpec := { name := "lockLeaves", fn := fun _ => fun
  | [d] => { results := [.lit (.bool true)], args := [d] }
  | _ => none }
def lockLeavesRow : OpenClaim := { program := "ytpbibdlmiomhbaa", sum := "940d0ca472d83c2323d33bcfa8b1bc9319b785205496ad9bd3d5c49dc19b4abd", func := "cloakroom/cloakroomlaw22.LockLeaves", spec := "lockLeaves", unfollowed := true, recurses := true, apart := false }
def LockLeavesSaid : Prop := lockLeavesRow.holds Try.pinned (OpenSpec.ofChange lockLeavesSpec)

/-- ITS FALSE NEIGHBOUR: 'it returns false'. Refute it at one input. -/
def lockLeavesWrong : ChangeSpec := { name := "lockLeaves", fn := fun _ => fun
  | [d] => { results := [.lit (.bool false)], args := [d] }
  | _ => none }
def LockLeavesWrongFalsely : Prop := lockLeavesRow.holds Try.pinned (OpenSpec.ofChange lockLeavesWrong)

/-- 'cloakroomlaw22.LockAll': WHATEVER THE INPUT: true; the input reads as it did. -/
def lockAllSpec : ChangeSpec := { name := "lockAll", fn := fun _ => fun
  | [d] => { results := [.lit (.bool true)], args := [d] }
  | _ => none }
def lockAllRow : OpenClaim := { program := "ytpbibdlmiomhbaa", sum := "940d0ca472d83c2323d33bcfa8b1bc9319b785205496ad9bd3d5c49dc19b4abd", func := "cloakroom/cloakroomlaw22.LockAll", spec := "lockAll", unfollowed := true, recurses := true, apart := false }
def LockAllSaid : Prop := lockAllRow.holds Try.pinned (OpenSpec.ofChange lockAllSpec)

/-- ITS FALSE NEIGHBOUR: 'it returns false'. Refute it at one input. -/
def lockAllWrong : ChangeSpec := { name := "lockAll", fn := fun _ => fun
  | [d] => { results := [.lit (.bool false)], args := [d] }
  | _ => none }
def LockAllWrongFalsely : Prop := lockAllRow.holds Try.pinned (OpenSpec.ofChange lockAllWrong)

/-- 'cloakroomlaw24.TokenOnce': WHATEVER THE INPUT: true; the input reads as it did. -/
def tokenOnceSpec : ChangeSpec := { name := "tokenOnce", fn := fun _ => fun
  | [d1, d2, d3, d4] => { results := [.lit (.bool true)], args := [d1, d2, d3, d4] }
  | _ => none }
def tokenOnceRow : OpenClaim := { program := "ytpbibdlmiomhbaa", sum := "940d0ca472d83c2323d33bcfa8b1bc9319b785205496ad9bd3d5c49dc19b4abd", func := "cloakroom/cloakroomlaw24.TokenOnce", spec := "tokenOnce", unfollowed := true, recurses := true, apart := false }
def TokenOnceSaid : Prop := tokenOnceRow.holds Try.pinned (OpenSpec.ofChange tokenOnceSpec)

/-- ITS FALSE NEIGHBOUR: 'it returns false'. Refute it at one input. -/
def tokenOnceWrong : ChangeSpec := { name := "tokenOnce", fn := fun _ => fun
  | [d1, d2, d3, d4] => { results := [.lit (.bool false)], args := [d1, d2, d3, d4] }
  | _ => none }
def TokenOnceWrongFalsely : Prop := tokenOnceRow.holds Try.pinned (OpenSpec.ofChange tokenOnceWrong)

/-- 'cloakroomlaw24.TokenOldest': WHATEVER THE INPUT: true; the input reads as it did. -/
def tokenOldestSpec : ChangeSpec := { name := "tokenOldest", fn := fun _ => fun
  | [d] => { results := [.lit (.bool true)], args := [d] }
  | _ => none }
def tokenOldestRow : OpenClaim := { program := "ytpbibdlmiomhbaa", sum := "940d0ca472d83c2323d33bcfa8b1bc9319b785205496ad9bd3d5c49dc19b4abd", func := "cloakroom/cloakroomlaw24.TokenOldest", spec := "tokenOldest", unfollowed := true, recurses := true, apart := false }
def TokenOldestSaid : Prop := tokenOldestRow.holds Try.pinned (OpenSpec.ofChange tokenOldestSpec)

/-- ITS FALSE NEIGHBOUR: 'it returns false'. Refute it at one input. -/
def tokenOldestWrong : ChangeSpec := { name := "tokenOldest", fn := fun _ => fun
  | [d] => { results := [.lit (.bool false)], args := [d] }
  | _ => none }
def TokenOldestWrongFalsely : Prop := tokenOldestRow.holds Try.pinned (OpenSpec.ofChange tokenOldestWrong)

/-- 'cloakroomlaw24.TokenZero': WHATEVER THE INPUT: true; the input reads as it did. -/
def tokenZeroSpec : ChangeSpec := { name := "tokenZero", fn := fun _ => fun
  | [d] => { results := [.lit (.bool true)], args := [d] }
  | _ => none }
def tokenZeroRow : OpenClaim := { program := "ytpbibdlmiomhbaa", sum := "940d0ca472d83c2323d33bcfa8b1bc9319b785205496ad9bd3d5c49dc19b4abd", func := "cloakroom/cloakroomlaw24.TokenZero", spec := "tokenZero", unfollowed := true, recurses := true, apart := false }
def TokenZeroSaid : Prop := tokenZeroRow.holds Try.pinned (OpenSpec.ofChange tokenZeroSpec)

/-- ITS FALSE NEIGHBOUR: 'it returns false'. Refute it at one input. -/
def tokenZeroWrong : ChangeSpec := { name := "tokenZero", fn := fun _ => fun
  | [d] => { results := [.lit (.bool false)], args := [d] }
  | _ => none }
def TokenZeroWrongFalsely : Prop := tokenZeroRow.holds Try.pinned (OpenSpec.ofChange tokenZeroWrong)

/-- 'cloakroomlaw24.TokenAll': WHATEVER THE INPUT: true; the input reads as it did. -/
def tokenAllSpec : ChangeSpec := { name := "tokenAll", fn := fun _ => fun
  | [d] => { results := [.lit (.bool true)], args := [d] }
  | _ => none }
def tokenAllRow : OpenClaim := { program := "ytpbibdlmiomhbaa", sum := "940d0ca472d83c2323d33bcfa8b1bc9319b785205496ad9bd3d5c49dc19b4abd", func := "cloakroom/cloakroomlaw24.TokenAll", spec := "tokenAll", unfollowed := true, recurses := true, apart := false }
def TokenAllSaid : Prop := tokenAllRow.holds Try.pinned (OpenSpec.ofChange tokenAllSpec)

/-- ITS FALSE NEIGHBOUR: 'it returns false'. Refute it at one input. -/
def tokenAllWrong : ChangeSpec := { name := "tokenAll", fn := fun _ => fun
  | [d] => { results := [.lit (.bool false)], args := [d] }
  | _ => none }
def TokenAllWrongFalsely : Prop := tokenAllRow.holds Try.pinned (OpenSpec.ofChange tokenAllWrong)

/- THE SECOND FORM. 'bulk': how many values and letters a reading holds, each counted each time it is reached (what is shared counts as often as it is met; a slice's spare places count too). A statement '..UptoSaid' is the law's where the arguments, and the package variables that the reading takes, are together of bulk at most 1048576: NARROWER than '..Said'. Prove '..Said' where nothing that the law and all that it calls make is longer than what came in: it says more and counts as full. Else prove '..UptoSaid'. A law counts once. -/
mutual
def uptoBulk {H : Type} : DataW H → Nat
  | .lit (.string bytes) => bytes.length + 1
  | .lit _ => 1
  | .nil => 1
  | .ptr d => uptoBulk d + 1
  | .slice elems spare => uptoBulkAll elems + uptoBulkAll spare + 1
  | .agg parts => uptoBulkAll parts + 1
  | .iface _ d => uptoBulk d + 1
  | .map entries => uptoBulkEntries entries + 1
  | .held _ => 1
def uptoBulkAll {H : Type} : List (DataW H) → Nat
  | [] => 0
  | d :: r => uptoBulk d + uptoBulkAll r
def uptoBulkEntries {H : Type} : List (Lit × DataW H) → Nat
  | [] => 0
  | x :: r => uptoBulkEntry x + uptoBulkEntries r
def uptoBulkEntry {H : Type} : Lit × DataW H → Nat
  | (.string bytes, d) => bytes.length + uptoBulk d + 1
  | (_, d) => uptoBulk d + 1
 end
def uptoSmall : (H : Type) → List (DataW H) → Bool := fun _ ds => decide (uptoBulkAll ds ≤ 1048576)
def OpenSpec.upto (s : _root_.Go.ChangeSpec) : _root_.Go.OpenSpec := { _root_.Go.OpenSpec.ofChange s with cond := some uptoSmall }

/-- 'cloakroomlaw2.FrameCuts', WHERE WHAT IT READS IS OF BULK AT MOST 1048576: true; the input reads as it did. -/
def frameCutsUptoRow : OpenClaim := { program := "ytpbibdlmiomhbaa", sum := "940d0ca472d83c2323d33bcfa8b1bc9319b785205496ad9bd3d5c49dc19b4abd", func := "cloakroom/cloakroomlaw2.FrameCuts", spec := "frameCuts", apart := false, narrowed := true }
def FrameCutsUptoSaid : Prop := frameCutsUptoRow.holds Try.pinned (OpenSpec.upto frameCutsSpec)

/-- 'cloakroomlaw2.FrameLong', WHERE WHAT IT READS IS OF BULK AT MOST 1048576: true; the input reads as it did. -/
def frameLongUptoRow : OpenClaim := { program := "ytpbibdlmiomhbaa", sum := "940d0ca472d83c2323d33bcfa8b1bc9319b785205496ad9bd3d5c49dc19b4abd", func := "cloakroom/cloakroomlaw2.FrameLong", spec := "frameLong", apart := false, narrowed := true }
def FrameLongUptoSaid : Prop := frameLongUptoRow.holds Try.pinned (OpenSpec.upto frameLongSpec)

/-- 'cloakroomlaw2.FrameRest', WHERE WHAT IT READS IS OF BULK AT MOST 1048576: true; the input reads as it did. -/
def frameRestUptoRow : OpenClaim := { program := "ytpbibdlmiomhbaa", sum := "940d0ca472d83c2323d33bcfa8b1bc9319b785205496ad9bd3d5c49dc19b4abd", func := "cloakroom/cloakroomlaw2.FrameRest", spec := "frameRest", apart := false, narrowed := true }
def FrameRestUptoSaid : Prop := frameRestUptoRow.holds Try.pinned (OpenSpec.upto frameRestSpec)

/-- 'cloakroomlaw2.FrameAll', WHERE WHAT IT READS IS OF BULK AT MOST 1048576: true; the input reads as it did. -/
def frameAllUptoRow : OpenClaim := { program := "ytpbibdlmiomhbaa", sum := "940d0ca472d83c2323d33bcfa8b1bc9319b785205496ad9bd3d5c49dc19b4abd", func := "cloakroom/cloakroomlaw2.FrameAll", spec := "frameAll", apart := false, narrowed := true }
def FrameAllUptoSaid : Prop := frameAllUptoRow.holds Try.pinned (OpenSpec.upto frameAllSpec)

/-- 'cloakroomlaw22.LockOrder', WHERE WHAT IT READS IS OF BULK AT MOST 1048576: true; the input reads as it did. -/
def lockOrderUptoRow : OpenClaim := { program := "ytpbibdlmiomhbaa", sum := "940d0ca472d83c2323d33bcfa8b1bc9319b785205496ad9bd3d5c49dc19b4abd", func := "cloakroom/cloakroomlaw22.LockOrder", spec := "lockOrder", unfollowed := true, recurses := true, apart := false, narrowed := true }
def LockOrderUptoSaid : Prop := lockOrderUptoRow.holds Try.pinned (OpenSpec.upto lockOrderSpec)

/-- 'cloakroomlaw22.LockRoom', WHERE WHAT IT READS IS OF BULK AT MOST 1048576: true; the input reads as it did. -/
def lockRoomUptoRow : OpenClaim := { program := "ytpbibdlmiomhbaa", sum := "940d0ca472d83c2323d33bcfa8b1bc9319b785205496ad9bd3d5c49dc19b4abd", func := "cloakroom/cloakroomlaw22.LockRoom", spec := "lockRoom", unfollowed := true, recurses := true, apart := false, narrowed := true }
def LockRoomUptoSaid : Prop := lockRoomUptoRow.holds Try.pinned (OpenSpec.upto lockRoomSpec)

/-- 'cloakroomlaw22.LockLeaves', WHERE WHAT IT READS IS OF BULK AT MOST 1048576: true; the input reads as it did. -/
def lockLeavesUptoRow : OpenClaim := { program := "ytpbibdlmiomhbaa", sum := "940d0ca472d83c2323d33bcfa8b1bc9319b785205496ad9bd3d5c49dc19b4abd", func := "cloakroom/cloakroomlaw22.LockLeaves", spec := "lockLeaves", unfollowed := true, recurses := true, apart := false, narrowed := true }
def LockLeavesUptoSaid : Prop := lockLeavesUptoRow.holds Try.pinned (OpenSpec.upto lockLeavesSpec)

/-- 'cloakroomlaw22.LockAll', WHERE WHAT IT READS IS OF BULK AT MOST 1048576: true; the input reads as it did. -/
def lockAllUptoRow : OpenClaim := { program := "ytpbibdlmiomhbaa", sum := "940d0ca472d83c2323d33bcfa8b1bc9319b785205496ad9bd3d5c49dc19b4abd", func := "cloakroom/cloakroomlaw22.LockAll", spec := "lockAll", unfollowed := true, recurses := true, apart := false, narrowed := true }
def LockAllUptoSaid : Prop := lockAllUptoRow.holds Try.pinned (OpenSpec.upto lockAllSpec)

/-- 'cloakroomlaw24.TokenOnce', WHERE WHAT IT READS IS OF BULK AT MOST 1048576: true; the input reads as it did. -/
def tokenOnceUptoRow : OpenClaim := { program := "ytpbibdlmiomhbaa", sum := "940d0ca472d83c2323d33bcfa8b1bc9319b785205496ad9bd3d5c49dc19b4abd", func := "cloakroom/cloakroomlaw24.TokenOnce", spec := "tokenOnce", unfollowed := true, recurses := true, apart := false, narrowed := true }
def TokenOnceUptoSaid : Prop := tokenOnceUptoRow.holds Try.pinned (OpenSpec.upto tokenOnceSpec)

/-- 'cloakroomlaw24.TokenOldest', WHERE WHAT IT READS IS OF BULK AT MOST 1048576: true; the input reads as it did. -/
def tokenOldestUptoRow : OpenClaim := { program := "ytpbibdlmiomhbaa", sum := "940d0ca472d83c2323d33bcfa8b1bc9319b785205496ad9bd3d5c49dc19b4abd", func := "cloakroom/cloakroomlaw24.TokenOldest", spec := "tokenOldest", unfollowed := true, recurses := true, apart := false, narrowed := true }
def TokenOldestUptoSaid : Prop := tokenOldestUptoRow.holds Try.pinned (OpenSpec.upto tokenOldestSpec)

/-- 'cloakroomlaw24.TokenZero', WHERE WHAT IT READS IS OF BULK AT MOST 1048576: true; the input reads as it did. -/
def tokenZeroUptoRow : OpenClaim := { program := "ytpbibdlmiomhbaa", sum := "940d0ca472d83c2323d33bcfa8b1bc9319b785205496ad9bd3d5c49dc19b4abd", func := "cloakroom/cloakroomlaw24.TokenZero", spec := "tokenZero", unfollowed := true, recurses := true, apart := false, narrowed := true }
def TokenZeroUptoSaid : Prop := tokenZeroUptoRow.holds Try.pinned (OpenSpec.upto tokenZeroSpec)

/-- 'cloakroomlaw24.TokenAll', WHERE WHAT IT READS IS OF BULK AT MOST 1048576: true; the input reads as it did. -/
def tokenAllUptoRow : OpenClaim := { program := "ytpbibdlmiomhbaa", sum := "940d0ca472d83c2323d33bcfa8b1bc9319b785205496ad9bd3d5c49dc19b4abd", func := "cloakroom/cloakroomlaw24.TokenAll", spec := "tokenAll", unfollowed := true, recurses := true, apart := false, narrowed := true }
def TokenAllUptoSaid : Prop := tokenAllUptoRow.holds Try.pinned (OpenSpec.upto tokenAllSpec)

end Rows
end Go.Proofs.Ytpbibdlmiomhbaa
