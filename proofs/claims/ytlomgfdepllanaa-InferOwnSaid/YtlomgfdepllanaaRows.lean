/-
  No cell of these rows narrows 'for every input' (looked for: loops, veiled, ifaces, maps, wideKeys, modest, calm, conditions, laid).
  DERIVED. THE GIVEN ROWS OF THIS SEAT. 6 by the template 'for every input the law returns true; each argument reads behind the call as it read before'; 0 by the template 'total and deterministic' (their statements: YtlomgfdepllanaaTotals.lean).
  GIVEN WITH THE SEED: the statements are not yours to turn. If you find one false, say at which input.
  Laid BY PROGRAM, IN A SANDBOX (cutbox-rows.mjs): the forced cells as the released guide's own fill.sh prints them over the translation 0b4d8e390f8c7c16… (all of the seat's roots in one cut). By AI agents, Wed Nov 11 2026. No macro, syntax, notation, axiom, sorry.
-/
import Derived.Test.YtlomgfdepllanaaChecked
import GoSem.Claim
import GoSem.ClaimJoined
import GoSem.ClaimMapViews
import Derived.JoinedTies
import Derived.KernelRfl
namespace Go.Proofs.Ytlomgfdepllanaa
/- THE CELL 'sum', in the pinned program and in every row, IS THE sha256 OF THE DUMP (.gsa) THAT YtlomgfdepllanaaProg.lean LOADS. Nothing in Lean hashes anything: it is a label: what it is worth is what the hold of that sum in a sandbox is worth. -/
noncomputable def Try.pinned : Pinned := { name := "ytlomgfdepllanaa", sum := "0b4d8e390f8c7c162a8cad985e83479e86a25fd9e0072dd585d578a97d9cb0fb", checked := Try.checked }
namespace Rows
def none {H : Type} : Left H := { results := [], args := [] }

/-- 'fluxionlaw12.InferTells': WHATEVER THE INPUT: true; the input reads as it did. -/
def inferTellsSpec : ChangeSpec := { name := "inferTells", fn := fun _ => fun
  | [d1, d2, d3] => { results := [.lit (.bool true)], args := [d1, d2, d3] }
  | _ => none }
def inferTellsRow : OpenClaim := { program := "ytlomgfdepllanaa", sum := "0b4d8e390f8c7c162a8cad985e83479e86a25fd9e0072dd585d578a97d9cb0fb", func := "fluxion/fluxionlaw12.InferTells", spec := "inferTells", unfollowed := true, recurses := true, apart := false }
def InferTellsSaid : Prop := inferTellsRow.holds Try.pinned (OpenSpec.ofChange inferTellsSpec)

/-- ITS FALSE NEIGHBOUR: 'it returns false'. Refute it at one input. -/
def inferTellsWrong : ChangeSpec := { name := "inferTells", fn := fun _ => fun
  | [d1, d2, d3] => { results := [.lit (.bool false)], args := [d1, d2, d3] }
  | _ => none }
def InferTellsWrongFalsely : Prop := inferTellsRow.holds Try.pinned (OpenSpec.ofChange inferTellsWrong)

/-- 'fluxionlaw12.InferLater': WHATEVER THE INPUT: true; the input reads as it did. -/
def inferLaterSpec : ChangeSpec := { name := "inferLater", fn := fun _ => fun
  | [d1, d2, d3, d4] => { results := [.lit (.bool true)], args := [d1, d2, d3, d4] }
  | _ => none }
def inferLaterRow : OpenClaim := { program := "ytlomgfdepllanaa", sum := "0b4d8e390f8c7c162a8cad985e83479e86a25fd9e0072dd585d578a97d9cb0fb", func := "fluxion/fluxionlaw12.InferLater", spec := "inferLater", unfollowed := true, recurses := true, apart := false }
def InferLaterSaid : Prop := inferLaterRow.holds Try.pinned (OpenSpec.ofChange inferLaterSpec)

/-- ITS FALSE NEIGHBOUR: 'it returns false'. Refute it at one input. -/
def inferLaterWrong : ChangeSpec := { name := "inferLater", fn := fun _ => fun
  | [d1, d2, d3, d4] => { results := [.lit (.bool false)], args := [d1, d2, d3, d4] }
  | _ => none }
def InferLaterWrongFalsely : Prop := inferLaterRow.holds Try.pinned (OpenSpec.ofChange inferLaterWrong)

/-- 'fluxionlaw12.InferFew': WHATEVER THE INPUT: true; the input reads as it did. -/
def inferFewSpec : ChangeSpec := { name := "inferFew", fn := fun _ => fun
  | [d1, d2, d3] => { results := [.lit (.bool true)], args := [d1, d2, d3] }
  | _ => none }
def inferFewRow : OpenClaim := { program := "ytlomgfdepllanaa", sum := "0b4d8e390f8c7c162a8cad985e83479e86a25fd9e0072dd585d578a97d9cb0fb", func := "fluxion/fluxionlaw12.InferFew", spec := "inferFew", unfollowed := true, recurses := true, apart := false }
def InferFewSaid : Prop := inferFewRow.holds Try.pinned (OpenSpec.ofChange inferFewSpec)

/-- ITS FALSE NEIGHBOUR: 'it returns false'. Refute it at one input. -/
def inferFewWrong : ChangeSpec := { name := "inferFew", fn := fun _ => fun
  | [d1, d2, d3] => { results := [.lit (.bool false)], args := [d1, d2, d3] }
  | _ => none }
def InferFewWrongFalsely : Prop := inferFewRow.holds Try.pinned (OpenSpec.ofChange inferFewWrong)

/-- 'fluxionlaw12.InferOwn': WHATEVER THE INPUT: true; the input reads as it did. -/
def inferOwnSpec : ChangeSpec := { name := "inferOwn", fn := fun _ => fun
  | [d1, d2, d3] => { results := [.lit (.bool true)], args := [d1, d2, d3] }
  | _ => none }
def inferOwnRow : OpenClaim := { program := "ytlomgfdepllanaa", sum := "0b4d8e390f8c7c162a8cad985e83479e86a25fd9e0072dd585d578a97d9cb0fb", func := "fluxion/fluxionlaw12.InferOwn", spec := "inferOwn", unfollowed := true, recurses := true, apart := false }
def InferOwnSaid : Prop := inferOwnRow.holds Try.pinned (OpenSpec.ofChange inferOwnSpec)

/-- ITS FALSE NEIGHBOUR: 'it returns false'. Refute it at one input. -/
def inferOwnWrong : ChangeSpec := { name := "inferOwn", fn := fun _ => fun
  | [d1, d2, d3] => { results := [.lit (.bool false)], args := [d1, d2, d3] }
  | _ => none }
def InferOwnWrongFalsely : Prop := inferOwnRow.holds Try.pinned (OpenSpec.ofChange inferOwnWrong)

/-- 'fluxionlaw12.InferMay': WHATEVER THE INPUT: true; the input reads as it did. -/
def inferMaySpec : ChangeSpec := { name := "inferMay", fn := fun _ => fun
  | [d1, d2, d3] => { results := [.lit (.bool true)], args := [d1, d2, d3] }
  | _ => none }
def inferMayRow : OpenClaim := { program := "ytlomgfdepllanaa", sum := "0b4d8e390f8c7c162a8cad985e83479e86a25fd9e0072dd585d578a97d9cb0fb", func := "fluxion/fluxionlaw12.InferMay", spec := "inferMay", unfollowed := true, recurses := true, apart := false }
def InferMaySaid : Prop := inferMayRow.holds Try.pinned (OpenSpec.ofChange inferMaySpec)

/-- ITS FALSE NEIGHBOUR: 'it returns false'. Refute it at one input. -/
def inferMayWrong : ChangeSpec := { name := "inferMay", fn := fun _ => fun
  | [d1, d2, d3] => { results := [.lit (.bool false)], args := [d1, d2, d3] }
  | _ => none }
def InferMayWrongFalsely : Prop := inferMayRow.holds Try.pinned (OpenSpec.ofChange inferMayWrong)

/-- 'fluxionlaw12.InferScalars': WHATEVER THE INPUT: true; the input reads as it did. -/
def inferScalarsSpec : ChangeSpec := { name := "inferScalars", fn := fun _ => fun
  | [] => { results := [.lit (.bool true)], args := [] }
  | _ => none }
def inferScalarsRow : OpenClaim := { program := "ytlomgfdepllanaa", sum := "0b4d8e390f8c7c162a8cad985e83479e86a25fd9e0072dd585d578a97d9cb0fb", func := "fluxion/fluxionlaw12.InferScalars", spec := "inferScalars", unfollowed := true, recurses := true, apart := false }
def InferScalarsSaid : Prop := inferScalarsRow.holds Try.pinned (OpenSpec.ofChange inferScalarsSpec)

/-- ITS FALSE NEIGHBOUR: 'it returns false'. Refute it at one input. -/
def inferScalarsWrong : ChangeSpec := { name := "inferScalars", fn := fun _ => fun
  | [] => { results := [.lit (.bool false)], args := [] }
  | _ => none }
def InferScalarsWrongFalsely : Prop := inferScalarsRow.holds Try.pinned (OpenSpec.ofChange inferScalarsWrong)

/- THE SECOND FORM. 'bulk': how many values and letters a reading holds, each counted each time it is reached (what is shared counts as often as it is met; a slice's spare places count too). A statement '..UptoSaid' is the law's where the arguments, and the package variables that the reading takes, are together of bulk at most 1048576: NARROWER than '..Said'. Prove '..Said' where nothing that the law and all that it calls make is longer than what came in: it says more and counts as full. Else prove '..UptoSaid'. A law counts once. -/
mutual
def uptoBulk {H : Type} : DataW H → Nat
  | .lit (.string bytes) => bytes.length + 1
  | .lit _ => 1
  | .nil => 1
  | .ptr d => uptoBulk d + 1
  | .slice elems spare => uptoBulkAll elems + uptoBulkAll spare + 1
  | .agg parts => uptoBulkAll parts + 1
  | .iface _ d => uptoBulk d + 1
  | .map entries => uptoBulkEntries entries + 1
  | .held _ => 1
def uptoBulkAll {H : Type} : List (DataW H) → Nat
  | [] => 0
  | d :: r => uptoBulk d + uptoBulkAll r
def uptoBulkEntries {H : Type} : List (Lit × DataW H) → Nat
  | [] => 0
  | x :: r => uptoBulkEntry x + uptoBulkEntries r
def uptoBulkEntry {H : Type} : Lit × DataW H → Nat
  | (.string bytes, d) => bytes.length + uptoBulk d + 1
  | (_, d) => uptoBulk d + 1
 end
def uptoSmall : (H : Type) → List (DataW H) → Bool := fun _ ds => decide (uptoBulkAll ds ≤ 1048576)
def OpenSpec.upto (s : _root_.Go.ChangeSpec) : _root_.Go.OpenSpec := { _root_.Go.OpenSpec.ofChange s with cond := some uptoSmall }

/-- 'fluxionlaw12.InferTells', WHERE WHAT IT READS IS OF BULK AT MOST 1048576: true; the input reads as it did. -/
def inferTellsUptoRow : OpenClaim := { program := "ytlomgfdepllanaa", sum := "0b4d8e390f8c7c162a8cad985e83479e86a25fd9e0072dd585d578a97d9cb0fb", func := "fluxion/fluxionlaw12.InferTells", spec := "inferTells", unfollowed := true, recurses := true, apart := false, narrowed := true }
def InferTellsUptoSaid : Prop := inferTellsUptoRow.holds Try.pinned (OpenSpec.upto inferTellsSpec)

/-- 'fluxionlaw12.InferLater', WHERE WHAT IT READS IS OF BULK AT MOST 1048576: true; the input reads as it did. -/
def inferLaterUptoRow : OpenClaim := { program := "ytlomgfdepllanaa", sum := "0b4d8e390f8c7c162a8cad985e83479e86a25fd9e0072dd585d578a97d9cb0fb", func := "fluxion/fluxionlaw12.InferLater", spec := "inferLater", unfollowed := true, recurses := true, apart := false, narrowed := true }
def InferLaterUptoSaid : Prop := inferLaterUptoRow.holds Try.pinned (OpenSpec.upto inferLaterSpec)

/-- 'fluxionlaw12.InferFew', WHERE WHAT IT READS IS OF BULK AT MOST 1048576: true; the input reads as it did. -/
def inferFewUptoRow : OpenClaim := { program := "ytlomgfdepllanaa", sum := "0b4d8e390f8c7c162a8cad985e83479e86a25fd9e0072dd585d578a97d9cb0fb", func := "fluxion/fluxionlaw12.InferFew", spec := "inferFew", unfollowed := true, recurses := true, apart := false, narrowed := true }
def InferFewUptoSaid : Prop := inferFewUptoRow.holds Try.pinned (OpenSpec.upto inferFewSpec)

/-- 'fluxionlaw12.InferOwn', WHERE WHAT IT READS IS OF BULK AT MOST 1048576: true; the input reads as it did. -/
def inferOwnUptoRow : OpenClaim := { program := "ytlomgfdepllanaa", sum := "0b4d8e390f8c7c162a8cad985e83479e86a25fd9e0072dd585d578a97d9cb0fb", func := "fluxion/fluxionlaw12.InferOwn", spec := "inferOwn", unfollowed := true, recurses := true, apart := false, narrowed := true }
def InferOwnUptoSaid : Prop := inferOwnUptoRow.holds Try.pinned (OpenSpec.upto inferOwnSpec)

/-- 'fluxionlaw12.InferMay', WHERE WHAT IT READS IS OF BULK AT MOST 1048576: true; the input reads as it did. -/
def inferMayUptoRow : OpenClaim := { program := "ytlomgfdepllanaa", sum := "0b4d8e390f8c7c162a8cad985e83479e86a25fd9e0072dd585d578a97d9cb0fb", func := "fluxion/fluxionlaw12.InferMay", spec := "inferMay", unfollowed := true, recurses := true, apart := false, narrowed := true }
def InferMayUptoSaid : Prop := inferMayUptoRow.holds Try.pinned (OpenSpec.upto inferMaySpec)

/-- 'fluxionlaw12.InferScalars', WHERE WHAT IT READS IS OF BULK AT MOST 1048576: true; the input reads as it did. -/
def inferScalarsUptoRow : OpenClaim := { program := "ytlomgfdepllanaa", sum := "0b4d8e390f8c7c162a8cad985e83479e86a25fd9e0072dd585d578a97d9cb0fb", func := "fluxion/fluxionlaw12.InferScalars", spec := "inferScalars", unfollowed := true, recurses := true, apart := false, narrowed := true }
def InferScalarsUptoSaid : Prop := inferScalarsUptoRow.holds Try.pinned (OpenSpec.upto inferScalarsSpec)

end Rows
end Go.Proofs.Ytlomgfdepllanaa
