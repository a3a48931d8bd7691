/-
  No cell of these rows narrows 'for every input' (looked for: loops, veiled, ifaces, maps, wideKeys, modest, calm, conditions, laid).
  DERIVED. THE GIVEN ROWS OF THIS SEAT. 10 by the template 'for every input the law returns true; each argument reads behind the call as it read before'; 0 by the template 'total and deterministic' (their statements: YtjdbdmhjakfldaaGreatTotals.lean).
  GIVEN WITH THE SEED: the statements are not yours to turn. If you find one false, say at which input.
  Laid BY PROGRAM, IN A SANDBOX (cutbox-rows.mjs): the forced cells as the released guide's own fill.sh prints them over the translation fc72bff593efffec… (all of the seat's roots in one cut). By AI agents, Wed Nov 11 2026. No macro, syntax, notation, axiom, sorry.
-/
import Derived.Test.YtjdbdmhjakfldaaGreatChecked
import GoSem.Claim
import GoSem.ClaimJoined
import GoSem.ClaimMapViews
import Derived.JoinedTies
import Derived.KernelRfl
namespace Go.Proofs.YtjdbdmhjakfldaaGreat
/- THE CELL 'sum', in the pinned program and in every row, IS THE sha256 OF THE DUMP (.gsa) THAT YtjdbdmhjakfldaaGreatProg.lean LOADS. Nothing in Lean hashes anything: it is a label: what it is worth is what the hold of that sum in a sandbox is worth. -/
noncomputable def Tryz.pinned : Pinned := { name := "ytjdbdmhjakfldaagreat", sum := "fc72bff593efffeca73359260d1b0f13eb5d4c266df1df7716621b72ea4d9741", checked := Tryz.checked }
namespace Rows
def none {H : Type} : Left H := { results := [], args := [] }

/-- 'fluxionlaw09.MoveTransposes': WHATEVER THE INPUT: true; the input reads as it did. -/
def moveTransposesSpec : ChangeSpec := { name := "moveTransposes", fn := fun _ => fun
  | [d1, d2] => { results := [.lit (.bool true)], args := [d1, d2] }
  | _ => none }
def moveTransposesRow : OpenClaim := { program := "ytjdbdmhjakfldaagreat", sum := "fc72bff593efffeca73359260d1b0f13eb5d4c266df1df7716621b72ea4d9741", func := "fluxion/fluxionlaw09.MoveTransposes", spec := "moveTransposes", unfollowed := true, recurses := true, apart := false }
def MoveTransposesSaid : Prop := moveTransposesRow.holds Tryz.pinned (OpenSpec.ofChange moveTransposesSpec)

/-- ITS FALSE NEIGHBOUR: 'it returns false'. Refute it at one input. -/
def moveTransposesWrong : ChangeSpec := { name := "moveTransposes", fn := fun _ => fun
  | [d1, d2] => { results := [.lit (.bool false)], args := [d1, d2] }
  | _ => none }
def MoveTransposesWrongFalsely : Prop := moveTransposesRow.holds Tryz.pinned (OpenSpec.ofChange moveTransposesWrong)

/-- 'fluxionlaw09.MoveSlices': WHATEVER THE INPUT: true; the input reads as it did. -/
def moveSlicesSpec : ChangeSpec := { name := "moveSlices", fn := fun _ => fun
  | [d1, d2] => { results := [.lit (.bool true)], args := [d1, d2] }
  | _ => none }
def moveSlicesRow : OpenClaim := { program := "ytjdbdmhjakfldaagreat", sum := "fc72bff593efffeca73359260d1b0f13eb5d4c266df1df7716621b72ea4d9741", func := "fluxion/fluxionlaw09.MoveSlices", spec := "moveSlices", unfollowed := true, recurses := true, apart := false }
def MoveSlicesSaid : Prop := moveSlicesRow.holds Tryz.pinned (OpenSpec.ofChange moveSlicesSpec)

/-- ITS FALSE NEIGHBOUR: 'it returns false'. Refute it at one input. -/
def moveSlicesWrong : ChangeSpec := { name := "moveSlices", fn := fun _ => fun
  | [d1, d2] => { results := [.lit (.bool false)], args := [d1, d2] }
  | _ => none }
def MoveSlicesWrongFalsely : Prop := moveSlicesRow.holds Tryz.pinned (OpenSpec.ofChange moveSlicesWrong)

/-- 'fluxionlaw09.MovePads': WHATEVER THE INPUT: true; the input reads as it did. -/
def movePadsSpec : ChangeSpec := { name := "movePads", fn := fun _ => fun
  | [d1, d2] => { results := [.lit (.bool true)], args := [d1, d2] }
  | _ => none }
def movePadsRow : OpenClaim := { program := "ytjdbdmhjakfldaagreat", sum := "fc72bff593efffeca73359260d1b0f13eb5d4c266df1df7716621b72ea4d9741", func := "fluxion/fluxionlaw09.MovePads", spec := "movePads", unfollowed := true, recurses := true, apart := false }
def MovePadsSaid : Prop := movePadsRow.holds Tryz.pinned (OpenSpec.ofChange movePadsSpec)

/-- ITS FALSE NEIGHBOUR: 'it returns false'. Refute it at one input. -/
def movePadsWrong : ChangeSpec := { name := "movePads", fn := fun _ => fun
  | [d1, d2] => { results := [.lit (.bool false)], args := [d1, d2] }
  | _ => none }
def MovePadsWrongFalsely : Prop := movePadsRow.holds Tryz.pinned (OpenSpec.ofChange movePadsWrong)

/-- 'fluxionlaw09.MoveReshapes': WHATEVER THE INPUT: true; the input reads as it did. -/
def moveReshapesSpec : ChangeSpec := { name := "moveReshapes", fn := fun _ => fun
  | [d1, d2] => { results := [.lit (.bool true)], args := [d1, d2] }
  | _ => none }
def moveReshapesRow : OpenClaim := { program := "ytjdbdmhjakfldaagreat", sum := "fc72bff593efffeca73359260d1b0f13eb5d4c266df1df7716621b72ea4d9741", func := "fluxion/fluxionlaw09.MoveReshapes", spec := "moveReshapes", unfollowed := true, recurses := true, apart := false }
def MoveReshapesSaid : Prop := moveReshapesRow.holds Tryz.pinned (OpenSpec.ofChange moveReshapesSpec)

/-- ITS FALSE NEIGHBOUR: 'it returns false'. Refute it at one input. -/
def moveReshapesWrong : ChangeSpec := { name := "moveReshapes", fn := fun _ => fun
  | [d1, d2] => { results := [.lit (.bool false)], args := [d1, d2] }
  | _ => none }
def MoveReshapesWrongFalsely : Prop := moveReshapesRow.holds Tryz.pinned (OpenSpec.ofChange moveReshapesWrong)

/-- 'fluxionlaw09.MoveBack': WHATEVER THE INPUT: true; the input reads as it did. -/
def moveBackSpec : ChangeSpec := { name := "moveBack", fn := fun _ => fun
  | [d1, d2, d3, d4] => { results := [.lit (.bool true)], args := [d1, d2, d3, d4] }
  | _ => none }
def moveBackRow : OpenClaim := { program := "ytjdbdmhjakfldaagreat", sum := "fc72bff593efffeca73359260d1b0f13eb5d4c266df1df7716621b72ea4d9741", func := "fluxion/fluxionlaw09.MoveBack", spec := "moveBack", unfollowed := true, recurses := true, apart := false }
def MoveBackSaid : Prop := moveBackRow.holds Tryz.pinned (OpenSpec.ofChange moveBackSpec)

/-- ITS FALSE NEIGHBOUR: 'it returns false'. Refute it at one input. -/
def moveBackWrong : ChangeSpec := { name := "moveBack", fn := fun _ => fun
  | [d1, d2, d3, d4] => { results := [.lit (.bool false)], args := [d1, d2, d3, d4] }
  | _ => none }
def MoveBackWrongFalsely : Prop := moveBackRow.holds Tryz.pinned (OpenSpec.ofChange moveBackWrong)

/-- 'fluxionlaw09.MoveBroadcasts': WHATEVER THE INPUT: true; the input reads as it did. -/
def moveBroadcastsSpec : ChangeSpec := { name := "moveBroadcasts", fn := fun _ => fun
  | [d1, d2] => { results := [.lit (.bool true)], args := [d1, d2] }
  | _ => none }
def moveBroadcastsRow : OpenClaim := { program := "ytjdbdmhjakfldaagreat", sum := "fc72bff593efffeca73359260d1b0f13eb5d4c266df1df7716621b72ea4d9741", func := "fluxion/fluxionlaw09.MoveBroadcasts", spec := "moveBroadcasts", unfollowed := true, recurses := true, apart := false }
def MoveBroadcastsSaid : Prop := moveBroadcastsRow.holds Tryz.pinned (OpenSpec.ofChange moveBroadcastsSpec)

/-- ITS FALSE NEIGHBOUR: 'it returns false'. Refute it at one input. -/
def moveBroadcastsWrong : ChangeSpec := { name := "moveBroadcasts", fn := fun _ => fun
  | [d1, d2] => { results := [.lit (.bool false)], args := [d1, d2] }
  | _ => none }
def MoveBroadcastsWrongFalsely : Prop := moveBroadcastsRow.holds Tryz.pinned (OpenSpec.ofChange moveBroadcastsWrong)

/-- 'fluxionlaw09.MoveConcats': WHATEVER THE INPUT: true; the input reads as it did. -/
def moveConcatsSpec : ChangeSpec := { name := "moveConcats", fn := fun _ => fun
  | [d1, d2] => { results := [.lit (.bool true)], args := [d1, d2] }
  | _ => none }
def moveConcatsRow : OpenClaim := { program := "ytjdbdmhjakfldaagreat", sum := "fc72bff593efffeca73359260d1b0f13eb5d4c266df1df7716621b72ea4d9741", func := "fluxion/fluxionlaw09.MoveConcats", spec := "moveConcats", unfollowed := true, recurses := true, apart := false }
def MoveConcatsSaid : Prop := moveConcatsRow.holds Tryz.pinned (OpenSpec.ofChange moveConcatsSpec)

/-- ITS FALSE NEIGHBOUR: 'it returns false'. Refute it at one input. -/
def moveConcatsWrong : ChangeSpec := { name := "moveConcats", fn := fun _ => fun
  | [d1, d2] => { results := [.lit (.bool false)], args := [d1, d2] }
  | _ => none }
def MoveConcatsWrongFalsely : Prop := moveConcatsRow.holds Tryz.pinned (OpenSpec.ofChange moveConcatsWrong)

/-- 'fluxionlaw09.MoveParts': WHATEVER THE INPUT: true; the input reads as it did. -/
def movePartsSpec : ChangeSpec := { name := "moveParts", fn := fun _ => fun
  | [d1, d2] => { results := [.lit (.bool true)], args := [d1, d2] }
  | _ => none }
def movePartsRow : OpenClaim := { program := "ytjdbdmhjakfldaagreat", sum := "fc72bff593efffeca73359260d1b0f13eb5d4c266df1df7716621b72ea4d9741", func := "fluxion/fluxionlaw09.MoveParts", spec := "moveParts", unfollowed := true, recurses := true, apart := false }
def MovePartsSaid : Prop := movePartsRow.holds Tryz.pinned (OpenSpec.ofChange movePartsSpec)

/-- ITS FALSE NEIGHBOUR: 'it returns false'. Refute it at one input. -/
def movePartsWrong : ChangeSpec := { name := "moveParts", fn := fun _ => fun
  | [d1, d2] => { results := [.lit (.bool false)], args := [d1, d2] }
  | _ => none }
def MovePartsWrongFalsely : Prop := movePartsRow.holds Tryz.pinned (OpenSpec.ofChange movePartsWrong)

/-- 'fluxionlaw09.MoveOwn': WHATEVER THE INPUT: true; the input reads as it did. -/
def moveOwnSpec : ChangeSpec := { name := "moveOwn", fn := fun _ => fun
  | [d] => { results := [.lit (.bool true)], args := [d] }
  | _ => none }
def moveOwnRow : OpenClaim := { program := "ytjdbdmhjakfldaagreat", sum := "fc72bff593efffeca73359260d1b0f13eb5d4c266df1df7716621b72ea4d9741", func := "fluxion/fluxionlaw09.MoveOwn", spec := "moveOwn", unfollowed := true, recurses := true, apart := false }
def MoveOwnSaid : Prop := moveOwnRow.holds Tryz.pinned (OpenSpec.ofChange moveOwnSpec)

/-- ITS FALSE NEIGHBOUR: 'it returns false'. Refute it at one input. -/
def moveOwnWrong : ChangeSpec := { name := "moveOwn", fn := fun _ => fun
  | [d] => { results := [.lit (.bool false)], args := [d] }
  | _ => none }
def MoveOwnWrongFalsely : Prop := moveOwnRow.holds Tryz.pinned (OpenSpec.ofChange moveOwnWrong)

/-- 'fluxionlaw09.MoveTurns': WHATEVER THE INPUT: true; the input reads as it did. -/
def moveTurnsSpec : ChangeSpec := { name := "moveTurns", fn := fun _ => fun
  | [d1, d2, d3, d4, d5] => { results := [.lit (.bool true)], args := [d1, d2, d3, d4, d5] }
  | _ => none }
def moveTurnsRow : OpenClaim := { program := "ytjdbdmhjakfldaagreat", sum := "fc72bff593efffeca73359260d1b0f13eb5d4c266df1df7716621b72ea4d9741", func := "fluxion/fluxionlaw09.MoveTurns", spec := "moveTurns", unfollowed := true, recurses := true, apart := false }
def MoveTurnsSaid : Prop := moveTurnsRow.holds Tryz.pinned (OpenSpec.ofChange moveTurnsSpec)

/-- ITS FALSE NEIGHBOUR: 'it returns false'. Refute it at one input. -/
def moveTurnsWrong : ChangeSpec := { name := "moveTurns", fn := fun _ => fun
  | [d1, d2, d3, d4, d5] => { results := [.lit (.bool false)], args := [d1, d2, d3, d4, d5] }
  | _ => none }
def MoveTurnsWrongFalsely : Prop := moveTurnsRow.holds Tryz.pinned (OpenSpec.ofChange moveTurnsWrong)

/- THE SECOND FORM. 'bulk': how many values and letters a reading holds, each counted each time it is reached (what is shared counts as often as it is met; a slice's spare places count too). A statement '..UptoSaid' is the law's where the arguments, and the package variables that the reading takes, are together of bulk at most 1048576: NARROWER than '..Said'. Prove '..Said' where nothing that the law and all that it calls make is longer than what came in: it says more and counts as full. Else prove '..UptoSaid'. A law counts once. -/
mutual
def uptoBulk {H : Type} : DataW H → Nat
  | .lit (.string bytes) => bytes.length + 1
  | .lit _ => 1
  | .nil => 1
  | .ptr d => uptoBulk d + 1
  | .slice elems spare => uptoBulkAll elems + uptoBulkAll spare + 1
  | .agg parts => uptoBulkAll parts + 1
  | .iface _ d => uptoBulk d + 1
  | .map entries => uptoBulkEntries entries + 1
  | .held _ => 1
def uptoBulkAll {H : Type} : List (DataW H) → Nat
  | [] => 0
  | d :: r => uptoBulk d + uptoBulkAll r
def uptoBulkEntries {H : Type} : List (Lit × DataW H) → Nat
  | [] => 0
  | x :: r => uptoBulkEntry x + uptoBulkEntries r
def uptoBulkEntry {H : Type} : Lit × DataW H → Nat
  | (.string bytes, d) => bytes.length + uptoBulk d + 1
  | (_, d) => uptoBulk d + 1
 end
def uptoSmall : (H : Type) → List (DataW H) → Bool := fun _ ds => decide (uptoBulkAll ds ≤ 1048576)
def OpenSpec.upto (s : _root_.Go.ChangeSpec) : _root_.Go.OpenSpec := { _root_.Go.OpenSpec.ofChange s with cond := some uptoSmall }

/-- 'fluxionlaw09.MoveTransposes', WHERE WHAT IT READS IS OF BULK AT MOST 1048576: true; the input reads as it did. -/
def moveTransposesUptoRow : OpenClaim := { program := "ytjdbdmhjakfldaagreat", sum := "fc72bff593efffeca73359260d1b0f13eb5d4c266df1df7716621b72ea4d9741", func := "fluxion/fluxionlaw09.MoveTransposes", spec := "moveTransposes", unfollowed := true, recurses := true, apart := false, narrowed := true }
def MoveTransposesUptoSaid : Prop := moveTransposesUptoRow.holds Tryz.pinned (OpenSpec.upto moveTransposesSpec)

/-- 'fluxionlaw09.MoveSlices', WHERE WHAT IT READS IS OF BULK AT MOST 1048576: true; the input reads as it did. -/
def moveSlicesUptoRow : OpenClaim := { program := "ytjdbdmhjakfldaagreat", sum := "fc72bff593efffeca73359260d1b0f13eb5d4c266df1df7716621b72ea4d9741", func := "fluxion/fluxionlaw09.MoveSlices", spec := "moveSlices", unfollowed := true, recurses := true, apart := false, narrowed := true }
def MoveSlicesUptoSaid : Prop := moveSlicesUptoRow.holds Tryz.pinned (OpenSpec.upto moveSlicesSpec)

/-- 'fluxionlaw09.MovePads', WHERE WHAT IT READS IS OF BULK AT MOST 1048576: true; the input reads as it did. -/
def movePadsUptoRow : OpenClaim := { program := "ytjdbdmhjakfldaagreat", sum := "fc72bff593efffeca73359260d1b0f13eb5d4c266df1df7716621b72ea4d9741", func := "fluxion/fluxionlaw09.MovePads", spec := "movePads", unfollowed := true, recurses := true, apart := false, narrowed := true }
def MovePadsUptoSaid : Prop := movePadsUptoRow.holds Tryz.pinned (OpenSpec.upto movePadsSpec)

/-- 'fluxionlaw09.MoveReshapes', WHERE WHAT IT READS IS OF BULK AT MOST 1048576: true; the input reads as it did. -/
def moveReshapesUptoRow : OpenClaim := { program := "ytjdbdmhjakfldaagreat", sum := "fc72bff593efffeca73359260d1b0f13eb5d4c266df1df7716621b72ea4d9741", func := "fluxion/fluxionlaw09.MoveReshapes", spec := "moveReshapes", unfollowed := true, recurses := true, apart := false, narrowed := true }
def MoveReshapesUptoSaid : Prop := moveReshapesUptoRow.holds Tryz.pinned (OpenSpec.upto moveReshapesSpec)

/-- 'fluxionlaw09.MoveBack', WHERE WHAT IT READS IS OF BULK AT MOST 1048576: true; the input reads as it did. -/
def moveBackUptoRow : OpenClaim := { program := "ytjdbdmhjakfldaagreat", sum := "fc72bff593efffeca73359260d1b0f13eb5d4c266df1df7716621b72ea4d9741", func := "fluxion/fluxionlaw09.MoveBack", spec := "moveBack", unfollowed := true, recurses := true, apart := false, narrowed := true }
def MoveBackUptoSaid : Prop := moveBackUptoRow.holds Tryz.pinned (OpenSpec.upto moveBackSpec)

/-- 'fluxionlaw09.MoveBroadcasts', WHERE WHAT IT READS IS OF BULK AT MOST 1048576: true; the input reads as it did. -/
def moveBroadcastsUptoRow : OpenClaim := { program := "ytjdbdmhjakfldaagreat", sum := "fc72bff593efffeca73359260d1b0f13eb5d4c266df1df7716621b72ea4d9741", func := "fluxion/fluxionlaw09.MoveBroadcasts", spec := "moveBroadcasts", unfollowed := true, recurses := true, apart := false, narrowed := true }
def MoveBroadcastsUptoSaid : Prop := moveBroadcastsUptoRow.holds Tryz.pinned (OpenSpec.upto moveBroadcastsSpec)

/-- 'fluxionlaw09.MoveConcats', WHERE WHAT IT READS IS OF BULK AT MOST 1048576: true; the input reads as it did. -/
def moveConcatsUptoRow : OpenClaim := { program := "ytjdbdmhjakfldaagreat", sum := "fc72bff593efffeca73359260d1b0f13eb5d4c266df1df7716621b72ea4d9741", func := "fluxion/fluxionlaw09.MoveConcats", spec := "moveConcats", unfollowed := true, recurses := true, apart := false, narrowed := true }
def MoveConcatsUptoSaid : Prop := moveConcatsUptoRow.holds Tryz.pinned (OpenSpec.upto moveConcatsSpec)

/-- 'fluxionlaw09.MoveParts', WHERE WHAT IT READS IS OF BULK AT MOST 1048576: true; the input reads as it did. -/
def movePartsUptoRow : OpenClaim := { program := "ytjdbdmhjakfldaagreat", sum := "fc72bff593efffeca73359260d1b0f13eb5d4c266df1df7716621b72ea4d9741", func := "fluxion/fluxionlaw09.MoveParts", spec := "moveParts", unfollowed := true, recurses := true, apart := false, narrowed := true }
def MovePartsUptoSaid : Prop := movePartsUptoRow.holds Tryz.pinned (OpenSpec.upto movePartsSpec)

/-- 'fluxionlaw09.MoveOwn', WHERE WHAT IT READS IS OF BULK AT MOST 1048576: true; the input reads as it did. -/
def moveOwnUptoRow : OpenClaim := { program := "ytjdbdmhjakfldaagreat", sum := "fc72bff593efffeca73359260d1b0f13eb5d4c266df1df7716621b72ea4d9741", func := "fluxion/fluxionlaw09.MoveOwn", spec := "moveOwn", unfollowed := true, recurses := true, apart := false, narrowed := true }
def MoveOwnUptoSaid : Prop := moveOwnUptoRow.holds Tryz.pinned (OpenSpec.upto moveOwnSpec)

/-- 'fluxionlaw09.MoveTurns', WHERE WHAT IT READS IS OF BULK AT MOST 1048576: true; the input reads as it did. -/
def moveTurnsUptoRow : OpenClaim := { program := "ytjdbdmhjakfldaagreat", sum := "fc72bff593efffeca73359260d1b0f13eb5d4c266df1df7716621b72ea4d9741", func := "fluxion/fluxionlaw09.MoveTurns", spec := "moveTurns", unfollowed := true, recurses := true, apart := false, narrowed := true }
def MoveTurnsUptoSaid : Prop := moveTurnsUptoRow.holds Tryz.pinned (OpenSpec.upto moveTurnsSpec)

end Rows
end Go.Proofs.YtjdbdmhjakfldaaGreat
