/-
  No cell of these rows narrows 'for every input' (looked for: loops, veiled, ifaces, maps, wideKeys, modest, calm, conditions, laid).
  DERIVED. THE GIVEN ROWS OF THIS SEAT. 6 by the template 'for every input the law returns true; each argument reads behind the call as it read before'; 0 by the template 'total and deterministic' (their statements: YtepjcbnpbcmfcaaGreatTotals.lean).
  GIVEN WITH THE SEED: the statements are not yours to turn. If you find one false, say at which input.
  Laid BY PROGRAM, IN A SANDBOX (cutbox-rows.mjs): the forced cells as the released guide's own fill.sh prints them over the translation e9a332352fe60174… (all of the seat's roots in one cut). By AI agents, Wed Nov 11 2026. No macro, syntax, notation, axiom, sorry.
-/
import Derived.Test.YtepjcbnpbcmfcaaGreatChecked
import GoSem.Claim
import GoSem.ClaimJoined
import GoSem.ClaimMapViews
import Derived.JoinedTies
import Derived.KernelRfl
namespace Go.Proofs.YtepjcbnpbcmfcaaGreat
/- THE CELL 'sum', in the pinned program and in every row, IS THE sha256 OF THE DUMP (.gsa) THAT YtepjcbnpbcmfcaaGreatProg.lean LOADS. Nothing in Lean hashes anything: it is a label: what it is worth is what the hold of that sum in a sandbox is worth. -/
noncomputable def Tryz.pinned : Pinned := { name := "ytepjcbnpbcmfcaagreat", sum := "e9a332352fe60174289963269ff350f3cad2480039d5091fbcbbda663aba41dc", checked := Tryz.checked }
namespace Rows
def none {H : Type} : Left H := { results := [], args := [] }

/-- 'fluxionlaw21.RunSteps': WHATEVER THE INPUT: true; the input reads as it did. -/
def runStepsSpec : ChangeSpec := { name := "runSteps", fn := fun _ => fun
  | [d1, d2, d3, d4] => { results := [.lit (.bool true)], args := [d1, d2, d3, d4] }
  | _ => none }
def runStepsRow : OpenClaim := { program := "ytepjcbnpbcmfcaagreat", sum := "e9a332352fe60174289963269ff350f3cad2480039d5091fbcbbda663aba41dc", func := "fluxion/fluxionlaw21.RunSteps", spec := "runSteps", unfollowed := true, recurses := true, apart := false }
def RunStepsSaid : Prop := runStepsRow.holds Tryz.pinned (OpenSpec.ofChange runStepsSpec)

/-- ITS FALSE NEIGHBOUR: 'it returns false'. Refute it at one input. -/
def runStepsWrong : ChangeSpec := { name := "runSteps", fn := fun _ => fun
  | [d1, d2, d3, d4] => { results := [.lit (.bool false)], args := [d1, d2, d3, d4] }
  | _ => none }
def RunStepsWrongFalsely : Prop := runStepsRow.holds Tryz.pinned (OpenSpec.ofChange runStepsWrong)

/-- 'fluxionlaw21.RunShapes': WHATEVER THE INPUT: true; the input reads as it did. -/
def runShapesSpec : ChangeSpec := { name := "runShapes", fn := fun _ => fun
  | [d1, d2, d3, d4] => { results := [.lit (.bool true)], args := [d1, d2, d3, d4] }
  | _ => none }
def runShapesRow : OpenClaim := { program := "ytepjcbnpbcmfcaagreat", sum := "e9a332352fe60174289963269ff350f3cad2480039d5091fbcbbda663aba41dc", func := "fluxion/fluxionlaw21.RunShapes", spec := "runShapes", unfollowed := true, recurses := true, apart := false }
def RunShapesSaid : Prop := runShapesRow.holds Tryz.pinned (OpenSpec.ofChange runShapesSpec)

/-- ITS FALSE NEIGHBOUR: 'it returns false'. Refute it at one input. -/
def runShapesWrong : ChangeSpec := { name := "runShapes", fn := fun _ => fun
  | [d1, d2, d3, d4] => { results := [.lit (.bool false)], args := [d1, d2, d3, d4] }
  | _ => none }
def RunShapesWrongFalsely : Prop := runShapesRow.holds Tryz.pinned (OpenSpec.ofChange runShapesWrong)

/-- 'fluxionlaw21.RunLater': WHATEVER THE INPUT: true; the input reads as it did. -/
def runLaterSpec : ChangeSpec := { name := "runLater", fn := fun _ => fun
  | [d1, d2, d3, d4] => { results := [.lit (.bool true)], args := [d1, d2, d3, d4] }
  | _ => none }
def runLaterRow : OpenClaim := { program := "ytepjcbnpbcmfcaagreat", sum := "e9a332352fe60174289963269ff350f3cad2480039d5091fbcbbda663aba41dc", func := "fluxion/fluxionlaw21.RunLater", spec := "runLater", unfollowed := true, recurses := true, apart := false }
def RunLaterSaid : Prop := runLaterRow.holds Tryz.pinned (OpenSpec.ofChange runLaterSpec)

/-- ITS FALSE NEIGHBOUR: 'it returns false'. Refute it at one input. -/
def runLaterWrong : ChangeSpec := { name := "runLater", fn := fun _ => fun
  | [d1, d2, d3, d4] => { results := [.lit (.bool false)], args := [d1, d2, d3, d4] }
  | _ => none }
def RunLaterWrongFalsely : Prop := runLaterRow.holds Tryz.pinned (OpenSpec.ofChange runLaterWrong)

/-- 'fluxionlaw21.RunBudgets': WHATEVER THE INPUT: true; the input reads as it did. -/
def runBudgetsSpec : ChangeSpec := { name := "runBudgets", fn := fun _ => fun
  | [d1, d2, d3, d4] => { results := [.lit (.bool true)], args := [d1, d2, d3, d4] }
  | _ => none }
def runBudgetsRow : OpenClaim := { program := "ytepjcbnpbcmfcaagreat", sum := "e9a332352fe60174289963269ff350f3cad2480039d5091fbcbbda663aba41dc", func := "fluxion/fluxionlaw21.RunBudgets", spec := "runBudgets", unfollowed := true, recurses := true, apart := false }
def RunBudgetsSaid : Prop := runBudgetsRow.holds Tryz.pinned (OpenSpec.ofChange runBudgetsSpec)

/-- ITS FALSE NEIGHBOUR: 'it returns false'. Refute it at one input. -/
def runBudgetsWrong : ChangeSpec := { name := "runBudgets", fn := fun _ => fun
  | [d1, d2, d3, d4] => { results := [.lit (.bool false)], args := [d1, d2, d3, d4] }
  | _ => none }
def RunBudgetsWrongFalsely : Prop := runBudgetsRow.holds Tryz.pinned (OpenSpec.ofChange runBudgetsWrong)

/-- 'fluxionlaw21.RunNone': WHATEVER THE INPUT: true; the input reads as it did. -/
def runNoneSpec : ChangeSpec := { name := "runNone", fn := fun _ => fun
  | [d1, d2, d3, d4, d5] => { results := [.lit (.bool true)], args := [d1, d2, d3, d4, d5] }
  | _ => none }
def runNoneRow : OpenClaim := { program := "ytepjcbnpbcmfcaagreat", sum := "e9a332352fe60174289963269ff350f3cad2480039d5091fbcbbda663aba41dc", func := "fluxion/fluxionlaw21.RunNone", spec := "runNone", unfollowed := true, recurses := true, apart := false }
def RunNoneSaid : Prop := runNoneRow.holds Tryz.pinned (OpenSpec.ofChange runNoneSpec)

/-- ITS FALSE NEIGHBOUR: 'it returns false'. Refute it at one input. -/
def runNoneWrong : ChangeSpec := { name := "runNone", fn := fun _ => fun
  | [d1, d2, d3, d4, d5] => { results := [.lit (.bool false)], args := [d1, d2, d3, d4, d5] }
  | _ => none }
def RunNoneWrongFalsely : Prop := runNoneRow.holds Tryz.pinned (OpenSpec.ofChange runNoneWrong)

/-- 'fluxionlaw21.RunOwn': WHATEVER THE INPUT: true; the input reads as it did. -/
def runOwnSpec : ChangeSpec := { name := "runOwn", fn := fun _ => fun
  | [d1, d2, d3] => { results := [.lit (.bool true)], args := [d1, d2, d3] }
  | _ => none }
def runOwnRow : OpenClaim := { program := "ytepjcbnpbcmfcaagreat", sum := "e9a332352fe60174289963269ff350f3cad2480039d5091fbcbbda663aba41dc", func := "fluxion/fluxionlaw21.RunOwn", spec := "runOwn", unfollowed := true, recurses := true, apart := false }
def RunOwnSaid : Prop := runOwnRow.holds Tryz.pinned (OpenSpec.ofChange runOwnSpec)

/-- ITS FALSE NEIGHBOUR: 'it returns false'. Refute it at one input. -/
def runOwnWrong : ChangeSpec := { name := "runOwn", fn := fun _ => fun
  | [d1, d2, d3] => { results := [.lit (.bool false)], args := [d1, d2, d3] }
  | _ => none }
def RunOwnWrongFalsely : Prop := runOwnRow.holds Tryz.pinned (OpenSpec.ofChange runOwnWrong)

/- THE SECOND FORM. 'bulk': how many values and letters a reading holds, each counted each time it is reached (what is shared counts as often as it is met; a slice's spare places count too). A statement '..UptoSaid' is the law's where the arguments, and the package variables that the reading takes, are together of bulk at most 1048576: NARROWER than '..Said'. Prove '..Said' where nothing that the law and all that it calls make is longer than what came in: it says more and counts as full. Else prove '..UptoSaid'. A law counts once. -/
mutual
def uptoBulk {H : Type} : DataW H → Nat
  | .lit (.string bytes) => bytes.length + 1
  | .lit _ => 1
  | .nil => 1
  | .ptr d => uptoBulk d + 1
  | .slice elems spare => uptoBulkAll elems + uptoBulkAll spare + 1
  | .agg parts => uptoBulkAll parts + 1
  | .iface _ d => uptoBulk d + 1
  | .map entries => uptoBulkEntries entries + 1
  | .held _ => 1
def uptoBulkAll {H : Type} : List (DataW H) → Nat
  | [] => 0
  | d :: r => uptoBulk d + uptoBulkAll r
def uptoBulkEntries {H : Type} : List (Lit × DataW H) → Nat
  | [] => 0
  | x :: r => uptoBulkEntry x + uptoBulkEntries r
def uptoBulkEntry {H : Type} : Lit × DataW H → Nat
  | (.string bytes, d) => bytes.length + uptoBulk d + 1
  | (_, d) => uptoBulk d + 1
 end
def uptoSmall : (H : Type) → List (DataW H) → Bool := fun _ ds => decide (uptoBulkAll ds ≤ 1048576)
def OpenSpec.upto (s : _root_.Go.ChangeSpec) : _root_.Go.OpenSpec := { _root_.Go.OpenSpec.ofChange s with cond := some uptoSmall }

/-- 'fluxionlaw21.RunSteps', WHERE WHAT IT READS IS OF BULK AT MOST 1048576: true; the input reads as it did. -/
def runStepsUptoRow : OpenClaim := { program := "ytepjcbnpbcmfcaagreat", sum := "e9a332352fe60174289963269ff350f3cad2480039d5091fbcbbda663aba41dc", func := "fluxion/fluxionlaw21.RunSteps", spec := "runSteps", unfollowed := true, recurses := true, apart := false, narrowed := true }
def RunStepsUptoSaid : Prop := runStepsUptoRow.holds Tryz.pinned (OpenSpec.upto runStepsSpec)

/-- 'fluxionlaw21.RunShapes', WHERE WHAT IT READS IS OF BULK AT MOST 1048576: true; the input reads as it did. -/
def runShapesUptoRow : OpenClaim := { program := "ytepjcbnpbcmfcaagreat", sum := "e9a332352fe60174289963269ff350f3cad2480039d5091fbcbbda663aba41dc", func := "fluxion/fluxionlaw21.RunShapes", spec := "runShapes", unfollowed := true, recurses := true, apart := false, narrowed := true }
def RunShapesUptoSaid : Prop := runShapesUptoRow.holds Tryz.pinned (OpenSpec.upto runShapesSpec)

/-- 'fluxionlaw21.RunLater', WHERE WHAT IT READS IS OF BULK AT MOST 1048576: true; the input reads as it did. -/
def runLaterUptoRow : OpenClaim := { program := "ytepjcbnpbcmfcaagreat", sum := "e9a332352fe60174289963269ff350f3cad2480039d5091fbcbbda663aba41dc", func := "fluxion/fluxionlaw21.RunLater", spec := "runLater", unfollowed := true, recurses := true, apart := false, narrowed := true }
def RunLaterUptoSaid : Prop := runLaterUptoRow.holds Tryz.pinned (OpenSpec.upto runLaterSpec)

/-- 'fluxionlaw21.RunBudgets', WHERE WHAT IT READS IS OF BULK AT MOST 1048576: true; the input reads as it did. -/
def runBudgetsUptoRow : OpenClaim := { program := "ytepjcbnpbcmfcaagreat", sum := "e9a332352fe60174289963269ff350f3cad2480039d5091fbcbbda663aba41dc", func := "fluxion/fluxionlaw21.RunBudgets", spec := "runBudgets", unfollowed := true, recurses := true, apart := false, narrowed := true }
def RunBudgetsUptoSaid : Prop := runBudgetsUptoRow.holds Tryz.pinned (OpenSpec.upto runBudgetsSpec)

/-- 'fluxionlaw21.RunNone', WHERE WHAT IT READS IS OF BULK AT MOST 1048576: true; the input reads as it did. -/
def runNoneUptoRow : OpenClaim := { program := "ytepjcbnpbcmfcaagreat", sum := "e9a332352fe60174289963269ff350f3cad2480039d5091fbcbbda663aba41dc", func := "fluxion/fluxionlaw21.RunNone", spec := "runNone", unfollowed := true, recurses := true, apart := false, narrowed := true }
def RunNoneUptoSaid : Prop := runNoneUptoRow.holds Tryz.pinned (OpenSpec.upto runNoneSpec)

/-- 'fluxionlaw21.RunOwn', WHERE WHAT IT READS IS OF BULK AT MOST 1048576: true; the input reads as it did. -/
def runOwnUptoRow : OpenClaim := { program := "ytepjcbnpbcmfcaagreat", sum := "e9a332352fe60174289963269ff350f3cad2480039d5091fbcbbda663aba41dc", func := "fluxion/fluxionlaw21.RunOwn", spec := "runOwn", unfollowed := true, recurses := true, apart := false, narrowed := true }
def RunOwnUptoSaid : Prop := runOwnUptoRow.holds Tryz.pinned (OpenSpec.upto runOwnSpec)

end Rows
end Go.Proofs.YtepjcbnpbcmfcaaGreat
