/-
  No cell of these rows narrows 'for every input' (looked for: loops, veiled, ifaces, maps, wideKeys, modest, calm, conditions, laid).
  DERIVED. THE GIVEN ROWS OF THIS SEAT. 5 by the template 'for every input the law returns true; each argument reads behind the call as it read before'; 0 by the template 'total and deterministic' (their statements: YtoglmfpmeajbeaaTotals.lean).
  GIVEN WITH THE SEED: the statements are not yours to turn. If you find one false, say at which input.
  Laid BY PROGRAM, IN A SANDBOX (cutbox-rows.mjs): the forced cells as the released guide's own fill.sh prints them over the translation fccd5db483939878… (all of the seat's roots in one cut). By AI agents, Wed Nov 11 2026. No macro, syntax, notation, axiom, sorry.
-/
import Derived.Test.YtoglmfpmeajbeaaChecked
import GoSem.Claim
import GoSem.ClaimJoined
import GoSem.ClaimMapViews
import Derived.JoinedTies
import Derived.KernelRfl
namespace Go.Proofs.Ytoglmfpmeajbeaa
/- THE CELL 'sum', in the pinned program and in every row, IS THE sha256 OF THE DUMP (.gsa) THAT YtoglmfpmeajbeaaProg.lean LOADS. Nothing in Lean hashes anything: it is a label: what it is worth is what the hold of that sum in a sandbox is worth. -/
noncomputable def Try.pinned : Pinned := { name := "ytoglmfpmeajbeaa", sum := "fccd5db48393987853f73b285a78ebbaaf3e1846eda2df2ddaceea24218172a8", checked := Try.checked }
namespace Rows
def none {H : Type} : Left H := { results := [], args := [] }

/-- 'isochronlaw35.CreditSteps': WHATEVER THE INPUT: true; the input reads as it did. -/
def creditStepsSpec : ChangeSpec := { name := "creditSteps", fn := fun _ => fun
  | [d1, d2, d3, d4] => { results := [.lit (.bool true)], args := [d1, d2, d3, d4] }
  | _ => none }
def creditStepsRow : OpenClaim := { program := "ytoglmfpmeajbeaa", sum := "fccd5db48393987853f73b285a78ebbaaf3e1846eda2df2ddaceea24218172a8", func := "isochron/isochronlaw35.CreditSteps", spec := "creditSteps", unfollowed := true, recurses := true, apart := false }
def CreditStepsSaid : Prop := creditStepsRow.holds Try.pinned (OpenSpec.ofChange creditStepsSpec)

/-- ITS FALSE NEIGHBOUR: 'it returns false'. Refute it at one input. -/
def creditStepsWrong : ChangeSpec := { name := "creditSteps", fn := fun _ => fun
  | [d1, d2, d3, d4] => { results := [.lit (.bool false)], args := [d1, d2, d3, d4] }
  | _ => none }
def CreditStepsWrongFalsely : Prop := creditStepsRow.holds Try.pinned (OpenSpec.ofChange creditStepsWrong)

/-- 'isochronlaw35.CreditShare': WHATEVER THE INPUT: true; the input reads as it did. -/
def creditShareSpec : ChangeSpec := { name := "creditShare", fn := fun _ => fun
  | [d1, d2, d3] => { results := [.lit (.bool true)], args := [d1, d2, d3] }
  | _ => none }
def creditShareRow : OpenClaim := { program := "ytoglmfpmeajbeaa", sum := "fccd5db48393987853f73b285a78ebbaaf3e1846eda2df2ddaceea24218172a8", func := "isochron/isochronlaw35.CreditShare", spec := "creditShare", unfollowed := true, recurses := true, apart := false }
def CreditShareSaid : Prop := creditShareRow.holds Try.pinned (OpenSpec.ofChange creditShareSpec)

/-- ITS FALSE NEIGHBOUR: 'it returns false'. Refute it at one input. -/
def creditShareWrong : ChangeSpec := { name := "creditShare", fn := fun _ => fun
  | [d1, d2, d3] => { results := [.lit (.bool false)], args := [d1, d2, d3] }
  | _ => none }
def CreditShareWrongFalsely : Prop := creditShareRow.holds Try.pinned (OpenSpec.ofChange creditShareWrong)

/-- 'isochronlaw35.CreditRun': WHATEVER THE INPUT: true; the input reads as it did. -/
def creditRunSpec : ChangeSpec := { name := "creditRun", fn := fun _ => fun
  | [d1, d2, d3, d4] => { results := [.lit (.bool true)], args := [d1, d2, d3, d4] }
  | _ => none }
def creditRunRow : OpenClaim := { program := "ytoglmfpmeajbeaa", sum := "fccd5db48393987853f73b285a78ebbaaf3e1846eda2df2ddaceea24218172a8", func := "isochron/isochronlaw35.CreditRun", spec := "creditRun", unfollowed := true, recurses := true, apart := false }
def CreditRunSaid : Prop := creditRunRow.holds Try.pinned (OpenSpec.ofChange creditRunSpec)

/-- ITS FALSE NEIGHBOUR: 'it returns false'. Refute it at one input. -/
def creditRunWrong : ChangeSpec := { name := "creditRun", fn := fun _ => fun
  | [d1, d2, d3, d4] => { results := [.lit (.bool false)], args := [d1, d2, d3, d4] }
  | _ => none }
def CreditRunWrongFalsely : Prop := creditRunRow.holds Try.pinned (OpenSpec.ofChange creditRunWrong)

/-- 'isochronlaw35.CreditKnown': WHATEVER THE INPUT: true; the input reads as it did. -/
def creditKnownSpec : ChangeSpec := { name := "creditKnown", fn := fun _ => fun
  | [] => { results := [.lit (.bool true)], args := [] }
  | _ => none }
def creditKnownRow : OpenClaim := { program := "ytoglmfpmeajbeaa", sum := "fccd5db48393987853f73b285a78ebbaaf3e1846eda2df2ddaceea24218172a8", func := "isochron/isochronlaw35.CreditKnown", spec := "creditKnown", unfollowed := true, recurses := true, apart := false }
def CreditKnownSaid : Prop := creditKnownRow.holds Try.pinned (OpenSpec.ofChange creditKnownSpec)

/-- ITS FALSE NEIGHBOUR: 'it returns false'. Refute it at one input. -/
def creditKnownWrong : ChangeSpec := { name := "creditKnown", fn := fun _ => fun
  | [] => { results := [.lit (.bool false)], args := [] }
  | _ => none }
def CreditKnownWrongFalsely : Prop := creditKnownRow.holds Try.pinned (OpenSpec.ofChange creditKnownWrong)

/-- 'isochronlaw35.CreditSmooth': WHATEVER THE INPUT: true; the input reads as it did. -/
def creditSmoothSpec : ChangeSpec := { name := "creditSmooth", fn := fun _ => fun
  | [d1, d2] => { results := [.lit (.bool true)], args := [d1, d2] }
  | _ => none }
def creditSmoothRow : OpenClaim := { program := "ytoglmfpmeajbeaa", sum := "fccd5db48393987853f73b285a78ebbaaf3e1846eda2df2ddaceea24218172a8", func := "isochron/isochronlaw35.CreditSmooth", spec := "creditSmooth", unfollowed := true, recurses := true, apart := false }
def CreditSmoothSaid : Prop := creditSmoothRow.holds Try.pinned (OpenSpec.ofChange creditSmoothSpec)

/-- ITS FALSE NEIGHBOUR: 'it returns false'. Refute it at one input. -/
def creditSmoothWrong : ChangeSpec := { name := "creditSmooth", fn := fun _ => fun
  | [d1, d2] => { results := [.lit (.bool false)], args := [d1, d2] }
  | _ => none }
def CreditSmoothWrongFalsely : Prop := creditSmoothRow.holds Try.pinned (OpenSpec.ofChange creditSmoothWrong)

/- THE SECOND FORM. 'bulk': how many values and letters a reading holds, each counted each time it is reached (what is shared counts as often as it is met; a slice's spare places count too). A statement '..UptoSaid' is the law's where the arguments, and the package variables that the reading takes, are together of bulk at most 1048576: NARROWER than '..Said'. Prove '..Said' where nothing that the law and all that it calls make is longer than what came in: it says more and counts as full. Else prove '..UptoSaid'. A law counts once. -/
mutual
def uptoBulk {H : Type} : DataW H → Nat
  | .lit (.string bytes) => bytes.length + 1
  | .lit _ => 1
  | .nil => 1
  | .ptr d => uptoBulk d + 1
  | .slice elems spare => uptoBulkAll elems + uptoBulkAll spare + 1
  | .agg parts => uptoBulkAll parts + 1
  | .iface _ d => uptoBulk d + 1
  | .map entries => uptoBulkEntries entries + 1
  | .held _ => 1
def uptoBulkAll {H : Type} : List (DataW H) → Nat
  | [] => 0
  | d :: r => uptoBulk d + uptoBulkAll r
def uptoBulkEntries {H : Type} : List (Lit × DataW H) → Nat
  | [] => 0
  | x :: r => uptoBulkEntry x + uptoBulkEntries r
def uptoBulkEntry {H : Type} : Lit × DataW H → Nat
  | (.string bytes, d) => bytes.length + uptoBulk d + 1
  | (_, d) => uptoBulk d + 1
 end
def uptoSmall : (H : Type) → List (DataW H) → Bool := fun _ ds => decide (uptoBulkAll ds ≤ 1048576)
def OpenSpec.upto (s : _root_.Go.ChangeSpec) : _root_.Go.OpenSpec := { _root_.Go.OpenSpec.ofChange s with cond := some uptoSmall }

/-- 'isochronlaw35.CreditSteps', WHERE WHAT IT READS IS OF BULK AT MOST 1048576: true; the input reads as it did. -/
def creditStepsUptoRow : OpenClaim := { program := "ytoglmfpmeajbeaa", sum := "fccd5db48393987853f73b285a78ebbaaf3e1846eda2df2ddaceea24218172a8", func := "isochron/isochronlaw35.CreditSteps", spec := "creditSteps", unfollowed := true, recurses := true, apart := false, narrowed := true }
def CreditStepsUptoSaid : Prop := creditStepsUptoRow.holds Try.pinned (OpenSpec.upto creditStepsSpec)

/-- 'isochronlaw35.CreditShare', WHERE WHAT IT READS IS OF BULK AT MOST 1048576: true; the input reads as it did. -/
def creditShareUptoRow : OpenClaim := { program := "ytoglmfpmeajbeaa", sum := "fccd5db48393987853f73b285a78ebbaaf3e1846eda2df2ddaceea24218172a8", func := "isochron/isochronlaw35.CreditShare", spec := "creditShare", unfollowed := true, recurses := true, apart := false, narrowed := true }
def CreditShareUptoSaid : Prop := creditShareUptoRow.holds Try.pinned (OpenSpec.upto creditShareSpec)

/-- 'isochronlaw35.CreditRun', WHERE WHAT IT READS IS OF BULK AT MOST 1048576: true; the input reads as it did. -/
def creditRunUptoRow : OpenClaim := { program := "ytoglmfpmeajbeaa", sum := "fccd5db48393987853f73b285a78ebbaaf3e1846eda2df2ddaceea24218172a8", func := "isochron/isochronlaw35.CreditRun", spec := "creditRun", unfollowed := true, recurses := true, apart := false, narrowed := true }
def CreditRunUptoSaid : Prop := creditRunUptoRow.holds Try.pinned (OpenSpec.upto creditRunSpec)

/-- 'isochronlaw35.CreditKnown', WHERE WHAT IT READS IS OF BULK AT MOST 1048576: true; the input reads as it did. -/
def creditKnownUptoRow : OpenClaim := { program := "ytoglmfpmeajbeaa", sum := "fccd5db48393987853f73b285a78ebbaaf3e1846eda2df2ddaceea24218172a8", func := "isochron/isochronlaw35.CreditKnown", spec := "creditKnown", unfollowed := true, recurses := true, apart := false, narrowed := true }
def CreditKnownUptoSaid : Prop := creditKnownUptoRow.holds Try.pinned (OpenSpec.upto creditKnownSpec)

/-- 'isochronlaw35.CreditSmooth', WHERE WHAT IT READS IS OF BULK AT MOST 1048576: true; the input reads as it did. -/
def creditSmoothUptoRow : OpenClaim := { program := "ytoglmfpmeajbeaa", sum := "fccd5db48393987853f73b285a78ebbaaf3e1846eda2df2ddaceea24218172a8", func := "isochron/isochronlaw35.CreditSmooth", spec := "creditSmooth", unfollowed := true, recurses := true, apart := false, narrowed := true }
def CreditSmoothUptoSaid : Prop := creditSmoothUptoRow.holds Try.pinned (OpenSpec.upto creditSmoothSpec)

end Rows
end Go.Proofs.Ytoglmfpmeajbeaa
