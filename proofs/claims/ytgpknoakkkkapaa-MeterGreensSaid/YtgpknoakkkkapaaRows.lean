/-
  No cell of these rows narrows 'for every input' (looked for: loops, veiled, ifaces, maps, wideKeys, modest, calm, conditions, laid).
  DERIVED. THE GIVEN ROWS OF THIS SEAT. 6 by the template 'for every input the law returns true; each argument reads behind the call as it read before'; 0 by the template 'total and deterministic' (their statements: YtgpknoakkkkapaaTotals.lean).
  GIVEN WITH THE SEED: the statements are not yours to turn. If you find one false, say at which input.
  Laid BY PROGRAM, IN A SANDBOX (cutbox-rows.mjs): the forced cells as the released guide's own fill.sh prints them over the translation 9505960177627de0… (all of the seat's roots in one cut). By AI agents, Wed Nov 11 2026. No macro, syntax, notation, axiom, sorry.
-/
import Derived.Test.YtgpknoakkkkapaaChecked
import GoSem.Claim
import GoSem.ClaimJoined
import GoSem.ClaimMapViews
import Derived.JoinedTies
import Derived.KernelRfl
namespace Go.Proofs.Ytgpknoakkkkapaa
/- THE CELL 'sum', in the pinned program and in every row, IS THE sha256 OF THE DUMP (.gsa) THAT YtgpknoakkkkapaaProg.lean LOADS. Nothing in Lean hashes anything: it is a label: what it is worth is what the hold of that sum in a sandbox is worth. -/
noncomputable def Try.pinned : Pinned := { name := "ytgpknoakkkkapaa", sum := "9505960177627de003942b699bfa88247975b63d18d4ca842b82a03a837df992", checked := Try.checked }
namespace Rows
def none {H : Type} : Left H := { results := [], args := [] }

/-- 'isochronlaw32.MeterMarks': WHATEVER THE INPUT: true; the input reads as it did. -/
def meterMarksSpec : ChangeSpec := { name := "meterMarks", fn := fun _ => fun
  | [d1, d2, d3, d4, d5] => { results := [.lit (.bool true)], args := [d1, d2, d3, d4, d5] }
  | _ => none }
def meterMarksRow : OpenClaim := { program := "ytgpknoakkkkapaa", sum := "9505960177627de003942b699bfa88247975b63d18d4ca842b82a03a837df992", func := "isochron/isochronlaw32.MeterMarks", spec := "meterMarks", unfollowed := true, recurses := true, apart := false }
def MeterMarksSaid : Prop := meterMarksRow.holds Try.pinned (OpenSpec.ofChange meterMarksSpec)

/-- ITS FALSE NEIGHBOUR: 'it returns false'. Refute it at one input. -/
def meterMarksWrong : ChangeSpec := { name := "meterMarks", fn := fun _ => fun
  | [d1, d2, d3, d4, d5] => { results := [.lit (.bool false)], args := [d1, d2, d3, d4, d5] }
  | _ => none }
def MeterMarksWrongFalsely : Prop := meterMarksRow.holds Try.pinned (OpenSpec.ofChange meterMarksWrong)

/-- 'isochronlaw32.MeterRuns': WHATEVER THE INPUT: true; the input reads as it did. -/
def meterRunsSpec : ChangeSpec := { name := "meterRuns", fn := fun _ => fun
  | [d1, d2, d3, d4] => { results := [.lit (.bool true)], args := [d1, d2, d3, d4] }
  | _ => none }
def meterRunsRow : OpenClaim := { program := "ytgpknoakkkkapaa", sum := "9505960177627de003942b699bfa88247975b63d18d4ca842b82a03a837df992", func := "isochron/isochronlaw32.MeterRuns", spec := "meterRuns", unfollowed := true, recurses := true, apart := false }
def MeterRunsSaid : Prop := meterRunsRow.holds Try.pinned (OpenSpec.ofChange meterRunsSpec)

/-- ITS FALSE NEIGHBOUR: 'it returns false'. Refute it at one input. -/
def meterRunsWrong : ChangeSpec := { name := "meterRuns", fn := fun _ => fun
  | [d1, d2, d3, d4] => { results := [.lit (.bool false)], args := [d1, d2, d3, d4] }
  | _ => none }
def MeterRunsWrongFalsely : Prop := meterRunsRow.holds Try.pinned (OpenSpec.ofChange meterRunsWrong)

/-- 'isochronlaw32.MeterSteps': WHATEVER THE INPUT: true; the input reads as it did. -/
def meterStepsSpec : ChangeSpec := { name := "meterSteps", fn := fun _ => fun
  | [d1, d2, d3] => { results := [.lit (.bool true)], args := [d1, d2, d3] }
  | _ => none }
def meterStepsRow : OpenClaim := { program := "ytgpknoakkkkapaa", sum := "9505960177627de003942b699bfa88247975b63d18d4ca842b82a03a837df992", func := "isochron/isochronlaw32.MeterSteps", spec := "meterSteps", unfollowed := true, recurses := true, apart := false }
def MeterStepsSaid : Prop := meterStepsRow.holds Try.pinned (OpenSpec.ofChange meterStepsSpec)

/-- ITS FALSE NEIGHBOUR: 'it returns false'. Refute it at one input. -/
def meterStepsWrong : ChangeSpec := { name := "meterSteps", fn := fun _ => fun
  | [d1, d2, d3] => { results := [.lit (.bool false)], args := [d1, d2, d3] }
  | _ => none }
def MeterStepsWrongFalsely : Prop := meterStepsRow.holds Try.pinned (OpenSpec.ofChange meterStepsWrong)

/-- 'isochronlaw32.MeterKnown': WHATEVER THE INPUT: true; the input reads as it did. -/
def meterKnownSpec : ChangeSpec := { name := "meterKnown", fn := fun _ => fun
  | [] => { results := [.lit (.bool true)], args := [] }
  | _ => none }
def meterKnownRow : OpenClaim := { program := "ytgpknoakkkkapaa", sum := "9505960177627de003942b699bfa88247975b63d18d4ca842b82a03a837df992", func := "isochron/isochronlaw32.MeterKnown", spec := "meterKnown", unfollowed := true, recurses := true, apart := false }
def MeterKnownSaid : Prop := meterKnownRow.holds Try.pinned (OpenSpec.ofChange meterKnownSpec)

/-- ITS FALSE NEIGHBOUR: 'it returns false'. Refute it at one input. -/
def meterKnownWrong : ChangeSpec := { name := "meterKnown", fn := fun _ => fun
  | [] => { results := [.lit (.bool false)], args := [] }
  | _ => none }
def MeterKnownWrongFalsely : Prop := meterKnownRow.holds Try.pinned (OpenSpec.ofChange meterKnownWrong)

/-- 'isochronlaw32.MeterGreens': WHATEVER THE INPUT: true; the input reads as it did. -/
def meterGreensSpec : ChangeSpec := { name := "meterGreens", fn := fun _ => fun
  | [d1, d2] => { results := [.lit (.bool true)], args := [d1, d2] }
  | _ => none }
def meterGreensRow : OpenClaim := { program := "ytgpknoakkkkapaa", sum := "9505960177627de003942b699bfa88247975b63d18d4ca842b82a03a837df992", func := "isochron/isochronlaw32.MeterGreens", spec := "meterGreens", unfollowed := true, recurses := true, apart := false }
def MeterGreensSaid : Prop := meterGreensRow.holds Try.pinned (OpenSpec.ofChange meterGreensSpec)

/-- ITS FALSE NEIGHBOUR: 'it returns false'. Refute it at one input. -/
def meterGreensWrong : ChangeSpec := { name := "meterGreens", fn := fun _ => fun
  | [d1, d2] => { results := [.lit (.bool false)], args := [d1, d2] }
  | _ => none }
def MeterGreensWrongFalsely : Prop := meterGreensRow.holds Try.pinned (OpenSpec.ofChange meterGreensWrong)

/-- 'isochronlaw32.MeterAll': WHATEVER THE INPUT: true; the input reads as it did. -/
def meterAllSpec : ChangeSpec := { name := "meterAll", fn := fun _ => fun
  | [d1, d2] => { results := [.lit (.bool true)], args := [d1, d2] }
  | _ => none }
def meterAllRow : OpenClaim := { program := "ytgpknoakkkkapaa", sum := "9505960177627de003942b699bfa88247975b63d18d4ca842b82a03a837df992", func := "isochron/isochronlaw32.MeterAll", spec := "meterAll", unfollowed := true, recurses := true, apart := false }
def MeterAllSaid : Prop := meterAllRow.holds Try.pinned (OpenSpec.ofChange meterAllSpec)

/-- ITS FALSE NEIGHBOUR: 'it returns false'. Refute it at one input. -/
def meterAllWrong : ChangeSpec := { name := "meterAll", fn := fun _ => fun
  | [d1, d2] => { results := [.lit (.bool false)], args := [d1, d2] }
  | _ => none }
def MeterAllWrongFalsely : Prop := meterAllRow.holds Try.pinned (OpenSpec.ofChange meterAllWrong)

/- THE SECOND FORM. 'bulk': how many values and letters a reading holds, each counted each time it is reached (what is shared counts as often as it is met; a slice's spare places count too). A statement '..UptoSaid' is the law's where the arguments, and the package variables that the reading takes, are together of bulk at most 1048576: NARROWER than '..Said'. Prove '..Said' where nothing that the law and all that it calls make is longer than what came in: it says more and counts as full. Else prove '..UptoSaid'. A law counts once. -/
mutual
def uptoBulk {H : Type} : DataW H → Nat
  | .lit (.string bytes) => bytes.length + 1
  | .lit _ => 1
  | .nil => 1
  | .ptr d => uptoBulk d + 1
  | .slice elems spare => uptoBulkAll elems + uptoBulkAll spare + 1
  | .agg parts => uptoBulkAll parts + 1
  | .iface _ d => uptoBulk d + 1
  | .map entries => uptoBulkEntries entries + 1
  | .held _ => 1
def uptoBulkAll {H : Type} : List (DataW H) → Nat
  | [] => 0
  | d :: r => uptoBulk d + uptoBulkAll r
def uptoBulkEntries {H : Type} : List (Lit × DataW H) → Nat
  | [] => 0
  | x :: r => uptoBulkEntry x + uptoBulkEntries r
def uptoBulkEntry {H : Type} : Lit × DataW H → Nat
  | (.string bytes, d) => bytes.length + uptoBulk d + 1
  | (_, d) => uptoBulk d + 1
 end
def uptoSmall : (H : Type) → List (DataW H) → Bool := fun _ ds => decide (uptoBulkAll ds ≤ 1048576)
def OpenSpec.upto (s : _root_.Go.ChangeSpec) : _root_.Go.OpenSpec := { _root_.Go.OpenSpec.ofChange s with cond := some uptoSmall }

/-- 'isochronlaw32.MeterMarks', WHERE WHAT IT READS IS OF BULK AT MOST 1048576: true; the input reads as it did. -/
def meterMarksUptoRow : OpenClaim := { program := "ytgpknoakkkkapaa", sum := "9505960177627de003942b699bfa88247975b63d18d4ca842b82a03a837df992", func := "isochron/isochronlaw32.MeterMarks", spec := "meterMarks", unfollowed := true, recurses := true, apart := false, narrowed := true }
def MeterMarksUptoSaid : Prop := meterMarksUptoRow.holds Try.pinned (OpenSpec.upto meterMarksSpec)

/-- 'isochronlaw32.MeterRuns', WHERE WHAT IT READS IS OF BULK AT MOST 1048576: true; the input reads as it did. -/
def meterRunsUptoRow : OpenClaim := { program := "ytgpknoakkkkapaa", sum := "9505960177627de003942b699bfa88247975b63d18d4ca842b82a03a837df992", func := "isochron/isochronlaw32.MeterRuns", spec := "meterRuns", unfollowed := true, recurses := true, apart := false, narrowed := true }
def MeterRunsUptoSaid : Prop := meterRunsUptoRow.holds Try.pinned (OpenSpec.upto meterRunsSpec)

/-- 'isochronlaw32.MeterSteps', WHERE WHAT IT READS IS OF BULK AT MOST 1048576: true; the input reads as it did. -/
def meterStepsUptoRow : OpenClaim := { program := "ytgpknoakkkkapaa", sum := "9505960177627de003942b699bfa88247975b63d18d4ca842b82a03a837df992", func := "isochron/isochronlaw32.MeterSteps", spec := "meterSteps", unfollowed := true, recurses := true, apart := false, narrowed := true }
def MeterStepsUptoSaid : Prop := meterStepsUptoRow.holds Try.pinned (OpenSpec.upto meterStepsSpec)

/-- 'isochronlaw32.MeterKnown', WHERE WHAT IT READS IS OF BULK AT MOST 1048576: true; the input reads as it did. -/
def meterKnownUptoRow : OpenClaim := { program := "ytgpknoakkkkapaa", sum := "9505960177627de003942b699bfa88247975b63d18d4ca842b82a03a837df992", func := "isochron/isochronlaw32.MeterKnown", spec := "meterKnown", unfollowed := true, recurses := true, apart := false, narrowed := true }
def MeterKnownUptoSaid : Prop := meterKnownUptoRow.holds Try.pinned (OpenSpec.upto meterKnownSpec)

/-- 'isochronlaw32.MeterGreens', WHERE WHAT IT READS IS OF BULK AT MOST 1048576: true; the input reads as it did. -/
def meterGreensUptoRow : OpenClaim := { program := "ytgpknoakkkkapaa", sum := "9505960177627de003942b699bfa88247975b63d18d4ca842b82a03a837df992", func := "isochron/isochronlaw32.MeterGreens", spec := "meterGreens", unfollowed := true, recurses := true, apart := false, narrowed := true }
def MeterGreensUptoSaid : Prop := meterGreensUptoRow.holds Try.pinned (OpenSpec.upto meterGreensSpec)

/-- 'isochronlaw32.MeterAll', WHERE WHAT IT READS IS OF BULK AT MOST 1048576: true; the input reads as it did. -/
def meterAllUptoRow : OpenClaim := { program := "ytgpknoakkkkapaa", sum := "9505960177627de003942b699bfa88247975b63d18d4ca842b82a03a837df992", func := "isochron/isochronlaw32.MeterAll", spec := "meterAll", unfollowed := true, recurses := true, apart := false, narrowed := true }
def MeterAllUptoSaid : Prop := meterAllUptoRow.holds Try.pinned (OpenSpec.upto meterAllSpec)

end Rows
end Go.Proofs.Ytgpknoakkkkapaa
