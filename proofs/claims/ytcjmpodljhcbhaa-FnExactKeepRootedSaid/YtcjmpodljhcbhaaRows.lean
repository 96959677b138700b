/-
  No cell of these rows narrows 'for every input' (looked for: loops, veiled, ifaces, maps, wideKeys, modest, calm, conditions, laid).
  DERIVED. THE GIVEN ROWS OF THIS SEAT. 12 by the template 'for every input the law returns true; each argument reads behind the call as it read before'; 0 by the template 'total and deterministic' (their statements: YtcjmpodljhcbhaaTotals.lean).
  GIVEN WITH THE SEED: the statements are not yours to turn. If you find one false, say at which input.
  Laid BY PROGRAM, IN A SANDBOX (cutbox-rows.mjs): the forced cells as the released guide's own fill.sh prints them over the translation 209bdebd6ac0c8a7… (all of the seat's roots in one cut). By AI agents, Wed Nov 11 2026. No macro, syntax, notation, axiom, sorry.
-/
import Derived.Test.YtcjmpodljhcbhaaChecked
import GoSem.Claim
import GoSem.ClaimJoined
import GoSem.ClaimMapViews
import Derived.JoinedTies
import Derived.KernelRfl
namespace Go.Proofs.Ytcjmpodljhcbhaa
/- THE CELL 'sum', in the pinned program and in every row, IS THE sha256 OF THE DUMP (.gsa) THAT YtcjmpodljhcbhaaProg.lean LOADS. Nothing in Lean hashes anything: it is a label: what it is worth is what the hold of that sum in a sandbox is worth. -/
noncomputable def Try.pinned : Pinned := { name := "ytcjmpodljhcbhaa", sum := "209bdebd6ac0c8a7a36bd294eca0e39ea6b8e0055d33a97e8ced34cecdc14b4d", checked := Try.checked }
namespace Rows
def none {H : Type} : Left H := { results := [], args := [] }

/-- 'laws.FnExactIsWalkProblem': WHATEVER THE INPUT: true; the input reads as it did. -/
def fnExactIsWalkProblemSpec : ChangeSpec := { name := "fnExactIsWalkProblem", fn := fun _ => fun
  | [d] => { results := [.lit (.bool true)], args := [d] }
  | _ => none }
def fnExactIsWalkProblemRow : OpenClaim := { program := "ytcjmpodljhcbhaa", sum := "209bdebd6ac0c8a7a36bd294eca0e39ea6b8e0055d33a97e8ced34cecdc14b4d", func := "loop.example/g01084/laws.FnExactIsWalkProblem", spec := "fnExactIsWalkProblem", unfollowed := true, recurses := true, apart := false }
def FnExactIsWalkProblemSaid : Prop := fnExactIsWalkProblemRow.holds Try.pinned (OpenSpec.ofChange fnExactIsWalkProblemSpec)

/-- ITS FALSE NEIGHBOUR: 'it returns false'. Refute it at one input. -/
def fnExactIsWalkProblemWrong : ChangeSpec := { name := "fnExactIsWalkProblem", fn := fun _ => fun
  | [d] => { results := [.lit (.bool false)], args := [d] }
  | _ => none }
def FnExactIsWalkProblemWrongFalsely : Prop := fnExactIsWalkProblemRow.holds Try.pinned (OpenSpec.ofChange fnExactIsWalkProblemWrong)

/-- 'laws.FnExactLoopOf': WHATEVER THE INPUT: true; the input reads as it did. -/
def fnExactLoopOfSpec : ChangeSpec := { name := "fnExactLoopOf", fn := fun _ => fun
  | [d] => { results := [.lit (.bool true)], args := [d] }
  | _ => none }
def fnExactLoopOfRow : OpenClaim := { program := "ytcjmpodljhcbhaa", sum := "209bdebd6ac0c8a7a36bd294eca0e39ea6b8e0055d33a97e8ced34cecdc14b4d", func := "loop.example/g01084/laws.FnExactLoopOf", spec := "fnExactLoopOf", unfollowed := true, recurses := true, apart := false }
def FnExactLoopOfSaid : Prop := fnExactLoopOfRow.holds Try.pinned (OpenSpec.ofChange fnExactLoopOfSpec)

/-- ITS FALSE NEIGHBOUR: 'it returns false'. Refute it at one input. -/
def fnExactLoopOfWrong : ChangeSpec := { name := "fnExactLoopOf", fn := fun _ => fun
  | [d] => { results := [.lit (.bool false)], args := [d] }
  | _ => none }
def FnExactLoopOfWrongFalsely : Prop := fnExactLoopOfRow.holds Try.pinned (OpenSpec.ofChange fnExactLoopOfWrong)

/-- 'laws.FnExactIsRootedProblem': WHATEVER THE INPUT: true; the input reads as it did. -/
def fnExactIsRootedProblemSpec : ChangeSpec := { name := "fnExactIsRootedProblem", fn := fun _ => fun
  | [d] => { results := [.lit (.bool true)], args := [d] }
  | _ => none }
def fnExactIsRootedProblemRow : OpenClaim := { program := "ytcjmpodljhcbhaa", sum := "209bdebd6ac0c8a7a36bd294eca0e39ea6b8e0055d33a97e8ced34cecdc14b4d", func := "loop.example/g01084/laws.FnExactIsRootedProblem", spec := "fnExactIsRootedProblem", unfollowed := true, recurses := true, apart := false }
def FnExactIsRootedProblemSaid : Prop := fnExactIsRootedProblemRow.holds Try.pinned (OpenSpec.ofChange fnExactIsRootedProblemSpec)

/-- ITS FALSE NEIGHBOUR: 'it returns false'. Refute it at one input. -/
def fnExactIsRootedProblemWrong : ChangeSpec := { name := "fnExactIsRootedProblem", fn := fun _ => fun
  | [d] => { results := [.lit (.bool false)], args := [d] }
  | _ => none }
def FnExactIsRootedProblemWrongFalsely : Prop := fnExactIsRootedProblemRow.holds Try.pinned (OpenSpec.ofChange fnExactIsRootedProblemWrong)

/-- 'laws.FnExactCountCycleLabelings': WHATEVER THE INPUT: true; the input reads as it did. -/
def fnExactCountCycleLabelingsSpec : ChangeSpec := { name := "fnExactCountCycleLabelings", fn := fun _ => fun
  | [d1, d2] => { results := [.lit (.bool true)], args := [d1, d2] }
  | _ => none }
def fnExactCountCycleLabelingsRow : OpenClaim := { program := "ytcjmpodljhcbhaa", sum := "209bdebd6ac0c8a7a36bd294eca0e39ea6b8e0055d33a97e8ced34cecdc14b4d", func := "loop.example/g01084/laws.FnExactCountCycleLabelings", spec := "fnExactCountCycleLabelings", unfollowed := true, recurses := true, apart := false }
def FnExactCountCycleLabelingsSaid : Prop := fnExactCountCycleLabelingsRow.holds Try.pinned (OpenSpec.ofChange fnExactCountCycleLabelingsSpec)

/-- ITS FALSE NEIGHBOUR: 'it returns false'. Refute it at one input. -/
def fnExactCountCycleLabelingsWrong : ChangeSpec := { name := "fnExactCountCycleLabelings", fn := fun _ => fun
  | [d1, d2] => { results := [.lit (.bool false)], args := [d1, d2] }
  | _ => none }
def FnExactCountCycleLabelingsWrongFalsely : Prop := fnExactCountCycleLabelingsRow.holds Try.pinned (OpenSpec.ofChange fnExactCountCycleLabelingsWrong)

/-- 'laws.FnExactIsPathLabeling': WHATEVER THE INPUT: true; the input reads as it did. -/
def fnExactIsPathLabelingSpec : ChangeSpec := { name := "fnExactIsPathLabeling", fn := fun _ => fun
  | [d1, d2] => { results := [.lit (.bool true)], args := [d1, d2] }
  | _ => none }
def fnExactIsPathLabelingRow : OpenClaim := { program := "ytcjmpodljhcbhaa", sum := "209bdebd6ac0c8a7a36bd294eca0e39ea6b8e0055d33a97e8ced34cecdc14b4d", func := "loop.example/g01084/laws.FnExactIsPathLabeling", spec := "fnExactIsPathLabeling", unfollowed := true, recurses := true, apart := false }
def FnExactIsPathLabelingSaid : Prop := fnExactIsPathLabelingRow.holds Try.pinned (OpenSpec.ofChange fnExactIsPathLabelingSpec)

/-- ITS FALSE NEIGHBOUR: 'it returns false'. Refute it at one input. -/
def fnExactIsPathLabelingWrong : ChangeSpec := { name := "fnExactIsPathLabeling", fn := fun _ => fun
  | [d1, d2] => { results := [.lit (.bool false)], args := [d1, d2] }
  | _ => none }
def FnExactIsPathLabelingWrongFalsely : Prop := fnExactIsPathLabelingRow.holds Try.pinned (OpenSpec.ofChange fnExactIsPathLabelingWrong)

/-- 'laws.FnExactIsCycleLabeling': WHATEVER THE INPUT: true; the input reads as it did. -/
def fnExactIsCycleLabelingSpec : ChangeSpec := { name := "fnExactIsCycleLabeling", fn := fun _ => fun
  | [d1, d2] => { results := [.lit (.bool true)], args := [d1, d2] }
  | _ => none }
def fnExactIsCycleLabelingRow : OpenClaim := { program := "ytcjmpodljhcbhaa", sum := "209bdebd6ac0c8a7a36bd294eca0e39ea6b8e0055d33a97e8ced34cecdc14b4d", func := "loop.example/g01084/laws.FnExactIsCycleLabeling", spec := "fnExactIsCycleLabeling", unfollowed := true, recurses := true, apart := false }
def FnExactIsCycleLabelingSaid : Prop := fnExactIsCycleLabelingRow.holds Try.pinned (OpenSpec.ofChange fnExactIsCycleLabelingSpec)

/-- ITS FALSE NEIGHBOUR: 'it returns false'. Refute it at one input. -/
def fnExactIsCycleLabelingWrong : ChangeSpec := { name := "fnExactIsCycleLabeling", fn := fun _ => fun
  | [d1, d2] => { results := [.lit (.bool false)], args := [d1, d2] }
  | _ => none }
def FnExactIsCycleLabelingWrongFalsely : Prop := fnExactIsCycleLabelingRow.holds Try.pinned (OpenSpec.ofChange fnExactIsCycleLabelingWrong)

/-- 'laws.FnExactSolvableLengths': WHATEVER THE INPUT: true; the input reads as it did. -/
def fnExactSolvableLengthsSpec : ChangeSpec := { name := "fnExactSolvableLengths", fn := fun _ => fun
  | [d1, d2] => { results := [.lit (.bool true)], args := [d1, d2] }
  | _ => none }
def fnExactSolvableLengthsRow : OpenClaim := { program := "ytcjmpodljhcbhaa", sum := "209bdebd6ac0c8a7a36bd294eca0e39ea6b8e0055d33a97e8ced34cecdc14b4d", func := "loop.example/g01084/laws.FnExactSolvableLengths", spec := "fnExactSolvableLengths", unfollowed := true, recurses := true, apart := false }
def FnExactSolvableLengthsSaid : Prop := fnExactSolvableLengthsRow.holds Try.pinned (OpenSpec.ofChange fnExactSolvableLengthsSpec)

/-- ITS FALSE NEIGHBOUR: 'it returns false'. Refute it at one input. -/
def fnExactSolvableLengthsWrong : ChangeSpec := { name := "fnExactSolvableLengths", fn := fun _ => fun
  | [d1, d2] => { results := [.lit (.bool false)], args := [d1, d2] }
  | _ => none }
def FnExactSolvableLengthsWrongFalsely : Prop := fnExactSolvableLengthsRow.holds Try.pinned (OpenSpec.ofChange fnExactSolvableLengthsWrong)

/-- 'laws.FnExactWalkBetween': WHATEVER THE INPUT: true; the input reads as it did. -/
def fnExactWalkBetweenSpec : ChangeSpec := { name := "fnExactWalkBetween", fn := fun _ => fun
  | [d1, d2, d3, d4] => { results := [.lit (.bool true)], args := [d1, d2, d3, d4] }
  | _ => none }
def fnExactWalkBetweenRow : OpenClaim := { program := "ytcjmpodljhcbhaa", sum := "209bdebd6ac0c8a7a36bd294eca0e39ea6b8e0055d33a97e8ced34cecdc14b4d", func := "loop.example/g01084/laws.FnExactWalkBetween", spec := "fnExactWalkBetween", unfollowed := true, recurses := true, apart := false }
def FnExactWalkBetweenSaid : Prop := fnExactWalkBetweenRow.holds Try.pinned (OpenSpec.ofChange fnExactWalkBetweenSpec)

/-- ITS FALSE NEIGHBOUR: 'it returns false'. Refute it at one input. -/
def fnExactWalkBetweenWrong : ChangeSpec := { name := "fnExactWalkBetween", fn := fun _ => fun
  | [d1, d2, d3, d4] => { results := [.lit (.bool false)], args := [d1, d2, d3, d4] }
  | _ => none }
def FnExactWalkBetweenWrongFalsely : Prop := fnExactWalkBetweenRow.holds Try.pinned (OpenSpec.ofChange fnExactWalkBetweenWrong)

/-- 'laws.FnExactPowerWalk': WHATEVER THE INPUT: true; the input reads as it did. -/
def fnExactPowerWalkSpec : ChangeSpec := { name := "fnExactPowerWalk", fn := fun _ => fun
  | [d1, d2] => { results := [.lit (.bool true)], args := [d1, d2] }
  | _ => none }
def fnExactPowerWalkRow : OpenClaim := { program := "ytcjmpodljhcbhaa", sum := "209bdebd6ac0c8a7a36bd294eca0e39ea6b8e0055d33a97e8ced34cecdc14b4d", func := "loop.example/g01084/laws.FnExactPowerWalk", spec := "fnExactPowerWalk", unfollowed := true, recurses := true, apart := false }
def FnExactPowerWalkSaid : Prop := fnExactPowerWalkRow.holds Try.pinned (OpenSpec.ofChange fnExactPowerWalkSpec)

/-- ITS FALSE NEIGHBOUR: 'it returns false'. Refute it at one input. -/
def fnExactPowerWalkWrong : ChangeSpec := { name := "fnExactPowerWalk", fn := fun _ => fun
  | [d1, d2] => { results := [.lit (.bool false)], args := [d1, d2] }
  | _ => none }
def FnExactPowerWalkWrongFalsely : Prop := fnExactPowerWalkRow.holds Try.pinned (OpenSpec.ofChange fnExactPowerWalkWrong)

/-- 'laws.FnExactFirstCycleLabeling': WHATEVER THE INPUT: true; the input reads as it did. -/
def fnExactFirstCycleLabelingSpec : ChangeSpec := { name := "fnExactFirstCycleLabeling", fn := fun _ => fun
  | [d1, d2] => { results := [.lit (.bool true)], args := [d1, d2] }
  | _ => none }
def fnExactFirstCycleLabelingRow : OpenClaim := { program := "ytcjmpodljhcbhaa", sum := "209bdebd6ac0c8a7a36bd294eca0e39ea6b8e0055d33a97e8ced34cecdc14b4d", func := "loop.example/g01084/laws.FnExactFirstCycleLabeling", spec := "fnExactFirstCycleLabeling", unfollowed := true, recurses := true, apart := false }
def FnExactFirstCycleLabelingSaid : Prop := fnExactFirstCycleLabelingRow.holds Try.pinned (OpenSpec.ofChange fnExactFirstCycleLabelingSpec)

/-- ITS FALSE NEIGHBOUR: 'it returns false'. Refute it at one input. -/
def fnExactFirstCycleLabelingWrong : ChangeSpec := { name := "fnExactFirstCycleLabeling", fn := fun _ => fun
  | [d1, d2] => { results := [.lit (.bool false)], args := [d1, d2] }
  | _ => none }
def FnExactFirstCycleLabelingWrongFalsely : Prop := fnExactFirstCycleLabelingRow.holds Try.pinned (OpenSpec.ofChange fnExactFirstCycleLabelingWrong)

/-- 'laws.FnExactLastingLabels': WHATEVER THE INPUT: true; the input reads as it did. -/
def fnExactLastingLabelsSpec : ChangeSpec := { name := "fnExactLastingLabels", fn := fun _ => fun
  | [d] => { results := [.lit (.bool true)], args := [d] }
  | _ => none }
def fnExactLastingLabelsRow : OpenClaim := { program := "ytcjmpodljhcbhaa", sum := "209bdebd6ac0c8a7a36bd294eca0e39ea6b8e0055d33a97e8ced34cecdc14b4d", func := "loop.example/g01084/laws.FnExactLastingLabels", spec := "fnExactLastingLabels", unfollowed := true, recurses := true, apart := false }
def FnExactLastingLabelsSaid : Prop := fnExactLastingLabelsRow.holds Try.pinned (OpenSpec.ofChange fnExactLastingLabelsSpec)

/-- ITS FALSE NEIGHBOUR: 'it returns false'. Refute it at one input. -/
def fnExactLastingLabelsWrong : ChangeSpec := { name := "fnExactLastingLabels", fn := fun _ => fun
  | [d] => { results := [.lit (.bool false)], args := [d] }
  | _ => none }
def FnExactLastingLabelsWrongFalsely : Prop := fnExactLastingLabelsRow.holds Try.pinned (OpenSpec.ofChange fnExactLastingLabelsWrong)

/-- 'laws.FnExactKeepRooted': WHATEVER THE INPUT: true; the input reads as it did. -/
def fnExactKeepRootedSpec : ChangeSpec := { name := "fnExactKeepRooted", fn := fun _ => fun
  | [d1, d2] => { results := [.lit (.bool true)], args := [d1, d2] }
  | _ => none }
def fnExactKeepRootedRow : OpenClaim := { program := "ytcjmpodljhcbhaa", sum := "209bdebd6ac0c8a7a36bd294eca0e39ea6b8e0055d33a97e8ced34cecdc14b4d", func := "loop.example/g01084/laws.FnExactKeepRooted", spec := "fnExactKeepRooted", unfollowed := true, recurses := true, apart := false }
def FnExactKeepRootedSaid : Prop := fnExactKeepRootedRow.holds Try.pinned (OpenSpec.ofChange fnExactKeepRootedSpec)

/-- ITS FALSE NEIGHBOUR: 'it returns false'. Refute it at one input. -/
def fnExactKeepRootedWrong : ChangeSpec := { name := "fnExactKeepRooted", fn := fun _ => fun
  | [d1, d2] => { results := [.lit (.bool false)], args := [d1, d2] }
  | _ => none }
def FnExactKeepRootedWrongFalsely : Prop := fnExactKeepRootedRow.holds Try.pinned (OpenSpec.ofChange fnExactKeepRootedWrong)

/- THE SECOND FORM. 'bulk': how many values and letters a reading holds, each counted each time it is reached (what is shared counts as often as it is met; a slice's spare places count too). A statement '..UptoSaid' is the law's where the arguments, and the package variables that the reading takes, are together of bulk at most 1048576: NARROWER than '..Said'. Prove '..Said' where nothing that the law and all that it calls make is longer than what came in: it says more and counts as full. Else prove '..UptoSaid'. A law counts once. -/
mutual
def uptoBulk {H : Type} : DataW H → Nat
  | .lit (.string bytes) => bytes.length + 1
  | .lit _ => 1
  | .nil => 1
  | .ptr d => uptoBulk d + 1
  | .slice elems spare => uptoBulkAll elems + uptoBulkAll spare + 1
  | .agg parts => uptoBulkAll parts + 1
  | .iface _ d => uptoBulk d + 1
  | .map entries => uptoBulkEntries entries + 1
  | .held _ => 1
def uptoBulkAll {H : Type} : List (DataW H) → Nat
  | [] => 0
  | d :: r => uptoBulk d + uptoBulkAll r
def uptoBulkEntries {H : Type} : List (Lit × DataW H) → Nat
  | [] => 0
  | x :: r => uptoBulkEntry x + uptoBulkEntries r
def uptoBulkEntry {H : Type} : Lit × DataW H → Nat
  | (.string bytes, d) => bytes.length + uptoBulk d + 1
  | (_, d) => uptoBulk d + 1
 end
def uptoSmall : (H : Type) → List (DataW H) → Bool := fun _ ds => decide (uptoBulkAll ds ≤ 1048576)
def OpenSpec.upto (s : _root_.Go.ChangeSpec) : _root_.Go.OpenSpec := { _root_.Go.OpenSpec.ofChange s with cond := some uptoSmall }

/-- 'laws.FnExactIsWalkProblem', WHERE WHAT IT READS IS OF BULK AT MOST 1048576: true; the input reads as it did. -/
def fnExactIsWalkProblemUptoRow : OpenClaim := { program := "ytcjmpodljhcbhaa", sum := "209bdebd6ac0c8a7a36bd294eca0e39ea6b8e0055d33a97e8ced34cecdc14b4d", func := "loop.example/g01084/laws.FnExactIsWalkProblem", spec := "fnExactIsWalkProblem", unfollowed := true, recurses := true, apart := false, narrowed := true }
def FnExactIsWalkProblemUptoSaid : Prop := fnExactIsWalkProblemUptoRow.holds Try.pinned (OpenSpec.upto fnExactIsWalkProblemSpec)

/-- 'laws.FnExactLoopOf', WHERE WHAT IT READS IS OF BULK AT MOST 1048576: true; the input reads as it did. -/
def fnExactLoopOfUptoRow : OpenClaim := { program := "ytcjmpodljhcbhaa", sum := "209bdebd6ac0c8a7a36bd294eca0e39ea6b8e0055d33a97e8ced34cecdc14b4d", func := "loop.example/g01084/laws.FnExactLoopOf", spec := "fnExactLoopOf", unfollowed := true, recurses := true, apart := false, narrowed := true }
def FnExactLoopOfUptoSaid : Prop := fnExactLoopOfUptoRow.holds Try.pinned (OpenSpec.upto fnExactLoopOfSpec)

/-- 'laws.FnExactIsRootedProblem', WHERE WHAT IT READS IS OF BULK AT MOST 1048576: true; the input reads as it did. -/
def fnExactIsRootedProblemUptoRow : OpenClaim := { program := "ytcjmpodljhcbhaa", sum := "209bdebd6ac0c8a7a36bd294eca0e39ea6b8e0055d33a97e8ced34cecdc14b4d", func := "loop.example/g01084/laws.FnExactIsRootedProblem", spec := "fnExactIsRootedProblem", unfollowed := true, recurses := true, apart := false, narrowed := true }
def FnExactIsRootedProblemUptoSaid : Prop := fnExactIsRootedProblemUptoRow.holds Try.pinned (OpenSpec.upto fnExactIsRootedProblemSpec)

/-- 'laws.FnExactCountCycleLabelings', WHERE WHAT IT READS IS OF BULK AT MOST 1048576: true; the input reads as it did. -/
def fnExactCountCycleLabelingsUptoRow : OpenClaim := { program := "ytcjmpodljhcbhaa", sum := "209bdebd6ac0c8a7a36bd294eca0e39ea6b8e0055d33a97e8ced34cecdc14b4d", func := "loop.example/g01084/laws.FnExactCountCycleLabelings", spec := "fnExactCountCycleLabelings", unfollowed := true, recurses := true, apart := false, narrowed := true }
def FnExactCountCycleLabelingsUptoSaid : Prop := fnExactCountCycleLabelingsUptoRow.holds Try.pinned (OpenSpec.upto fnExactCountCycleLabelingsSpec)

/-- 'laws.FnExactIsPathLabeling', WHERE WHAT IT READS IS OF BULK AT MOST 1048576: true; the input reads as it did. -/
def fnExactIsPathLabelingUptoRow : OpenClaim := { program := "ytcjmpodljhcbhaa", sum := "209bdebd6ac0c8a7a36bd294eca0e39ea6b8e0055d33a97e8ced34cecdc14b4d", func := "loop.example/g01084/laws.FnExactIsPathLabeling", spec := "fnExactIsPathLabeling", unfollowed := true, recurses := true, apart := false, narrowed := true }
def FnExactIsPathLabelingUptoSaid : Prop := fnExactIsPathLabelingUptoRow.holds Try.pinned (OpenSpec.upto fnExactIsPathLabelingSpec)

/-- 'laws.FnExactIsCycleLabeling', WHERE WHAT IT READS IS OF BULK AT MOST 1048576: true; the input reads as it did. -/
def fnExactIsCycleLabelingUptoRow : OpenClaim := { program := "ytcjmpodljhcbhaa", sum := "209bdebd6ac0c8a7a36bd294eca0e39ea6b8e0055d33a97e8ced34cecdc14b4d", func := "loop.example/g01084/laws.FnExactIsCycleLabeling", spec := "fnExactIsCycleLabeling", unfollowed := true, recurses := true, apart := false, narrowed := true }
def FnExactIsCycleLabelingUptoSaid : Prop := fnExactIsCycleLabelingUptoRow.holds Try.pinned (OpenSpec.upto fnExactIsCycleLabelingSpec)

/-- 'laws.FnExactSolvableLengths', WHERE WHAT IT READS IS OF BULK AT MOST 1048576: true; the input reads as it did. -/
def fnExactSolvableLengthsUptoRow : OpenClaim := { program := "ytcjmpodljhcbhaa", sum := "209bdebd6ac0c8a7a36bd294eca0e39ea6b8e0055d33a97e8ced34cecdc14b4d", func := "loop.example/g01084/laws.FnExactSolvableLengths", spec := "fnExactSolvableLengths", unfollowed := true, recurses := true, apart := false, narrowed := true }
def FnExactSolvableLengthsUptoSaid : Prop := fnExactSolvableLengthsUptoRow.holds Try.pinned (OpenSpec.upto fnExactSolvableLengthsSpec)

/-- 'laws.FnExactWalkBetween', WHERE WHAT IT READS IS OF BULK AT MOST 1048576: true; the input reads as it did. -/
def fnExactWalkBetweenUptoRow : OpenClaim := { program := "ytcjmpodljhcbhaa", sum := "209bdebd6ac0c8a7a36bd294eca0e39ea6b8e0055d33a97e8ced34cecdc14b4d", func := "loop.example/g01084/laws.FnExactWalkBetween", spec := "fnExactWalkBetween", unfollowed := true, recurses := true, apart := false, narrowed := true }
def FnExactWalkBetweenUptoSaid : Prop := fnExactWalkBetweenUptoRow.holds Try.pinned (OpenSpec.upto fnExactWalkBetweenSpec)

/-- 'laws.FnExactPowerWalk', WHERE WHAT IT READS IS OF BULK AT MOST 1048576: true; the input reads as it did. -/
def fnExactPowerWalkUptoRow : OpenClaim := { program := "ytcjmpodljhcbhaa", sum := "209bdebd6ac0c8a7a36bd294eca0e39ea6b8e0055d33a97e8ced34cecdc14b4d", func := "loop.example/g01084/laws.FnExactPowerWalk", spec := "fnExactPowerWalk", unfollowed := true, recurses := true, apart := false, narrowed := true }
def FnExactPowerWalkUptoSaid : Prop := fnExactPowerWalkUptoRow.holds Try.pinned (OpenSpec.upto fnExactPowerWalkSpec)

/-- 'laws.FnExactFirstCycleLabeling', WHERE WHAT IT READS IS OF BULK AT MOST 1048576: true; the input reads as it did. -/
def fnExactFirstCycleLabelingUptoRow : OpenClaim := { program := "ytcjmpodljhcbhaa", sum := "209bdebd6ac0c8a7a36bd294eca0e39ea6b8e0055d33a97e8ced34cecdc14b4d", func := "loop.example/g01084/laws.FnExactFirstCycleLabeling", spec := "fnExactFirstCycleLabeling", unfollowed := true, recurses := true, apart := false, narrowed := true }
def FnExactFirstCycleLabelingUptoSaid : Prop := fnExactFirstCycleLabelingUptoRow.holds Try.pinned (OpenSpec.upto fnExactFirstCycleLabelingSpec)

/-- 'laws.FnExactLastingLabels', WHERE WHAT IT READS IS OF BULK AT MOST 1048576: true; the input reads as it did. -/
def fnExactLastingLabelsUptoRow : OpenClaim := { program := "ytcjmpodljhcbhaa", sum := "209bdebd6ac0c8a7a36bd294eca0e39ea6b8e0055d33a97e8ced34cecdc14b4d", func := "loop.example/g01084/laws.FnExactLastingLabels", spec := "fnExactLastingLabels", unfollowed := true, recurses := true, apart := false, narrowed := true }
def FnExactLastingLabelsUptoSaid : Prop := fnExactLastingLabelsUptoRow.holds Try.pinned (OpenSpec.upto fnExactLastingLabelsSpec)

/-- 'laws.FnExactKeepRooted', WHERE WHAT IT READS IS OF BULK AT MOST 1048576: true; the input reads as it did. -/
def fnExactKeepRootedUptoRow : OpenClaim := { program := "ytcjmpodljhcbhaa", sum := "209bdebd6ac0c8a7a36bd294eca0e39ea6b8e0055d33a97e8ced34cecdc14b4d", func := "loop.example/g01084/laws.FnExactKeepRooted", spec := "fnExactKeepRooted", unfollowed := true, recurses := true, apart := false, narrowed := true }
def FnExactKeepRootedUptoSaid : Prop := fnExactKeepRootedUptoRow.holds Try.pinned (OpenSpec.upto fnExactKeepRootedSpec)

end Rows
end Go.Proofs.Ytcjmpodljhcbhaa
