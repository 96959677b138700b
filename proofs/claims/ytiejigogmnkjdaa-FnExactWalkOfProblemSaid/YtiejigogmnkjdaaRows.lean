/-
  No cell of these rows narrows 'for every input' (looked for: loops, veiled, ifaces, maps, wideKeys, modest, calm, conditions, laid).
  DERIVED. THE GIVEN ROWS OF THIS SEAT. 12 by the template 'for every input the law returns true; each argument reads behind the call as it read before'; 0 by the template 'total and deterministic' (their statements: YtiejigogmnkjdaaTotals.lean).
  GIVEN WITH THE SEED: the statements are not yours to turn. If you find one false, say at which input.
  Laid BY PROGRAM, IN A SANDBOX (cutbox-rows.mjs): the forced cells as the released guide's own fill.sh prints them over the translation 5994392f4516a436… (all of the seat's roots in one cut). By AI agents, Wed Nov 11 2026. No macro, syntax, notation, axiom, sorry.
-/
import Derived.Test.YtiejigogmnkjdaaChecked
import GoSem.Claim
import GoSem.ClaimJoined
import GoSem.ClaimMapViews
import Derived.JoinedTies
import Derived.KernelRfl
namespace Go.Proofs.Ytiejigogmnkjdaa
/- THE CELL 'sum', in the pinned program and in every row, IS THE sha256 OF THE DUMP (.gsa) THAT YtiejigogmnkjdaaProg.lean LOADS. Nothing in Lean hashes anything: it is a label: what it is worth is what the hold of that sum in a sandbox is worth. -/
noncomputable def Try.pinned : Pinned := { name := "ytiejigogmnkjdaa", sum := "5994392f4516a4369b2f0015ab6f42e947d494e6eea774b0bf51f91ff2b3a36f", checked := Try.checked }
namespace Rows
def none {H : Type} : Left H := { results := [], args := [] }

/-- 'laws.FnExactIsLabelMap': WHATEVER THE INPUT: true; the input reads as it did. -/
def fnExactIsLabelMapSpec : ChangeSpec := { name := "fnExactIsLabelMap", fn := fun _ => fun
  | [d1, d2, d3] => { results := [.lit (.bool true)], args := [d1, d2, d3] }
  | _ => none }
def fnExactIsLabelMapRow : OpenClaim := { program := "ytiejigogmnkjdaa", sum := "5994392f4516a4369b2f0015ab6f42e947d494e6eea774b0bf51f91ff2b3a36f", func := "loop.example/g01084/laws.FnExactIsLabelMap", spec := "fnExactIsLabelMap", unfollowed := true, recurses := true, apart := false }
def FnExactIsLabelMapSaid : Prop := fnExactIsLabelMapRow.holds Try.pinned (OpenSpec.ofChange fnExactIsLabelMapSpec)

/-- ITS FALSE NEIGHBOUR: 'it returns false'. Refute it at one input. -/
def fnExactIsLabelMapWrong : ChangeSpec := { name := "fnExactIsLabelMap", fn := fun _ => fun
  | [d1, d2, d3] => { results := [.lit (.bool false)], args := [d1, d2, d3] }
  | _ => none }
def FnExactIsLabelMapWrongFalsely : Prop := fnExactIsLabelMapRow.holds Try.pinned (OpenSpec.ofChange fnExactIsLabelMapWrong)

/-- 'laws.FnExactSameRoots': WHATEVER THE INPUT: true; the input reads as it did. -/
def fnExactSameRootsSpec : ChangeSpec := { name := "fnExactSameRoots", fn := fun _ => fun
  | [d1, d2, d3, d4] => { results := [.lit (.bool true)], args := [d1, d2, d3, d4] }
  | _ => none }
def fnExactSameRootsRow : OpenClaim := { program := "ytiejigogmnkjdaa", sum := "5994392f4516a4369b2f0015ab6f42e947d494e6eea774b0bf51f91ff2b3a36f", func := "loop.example/g01084/laws.FnExactSameRoots", spec := "fnExactSameRoots", unfollowed := true, recurses := true, apart := false }
def FnExactSameRootsSaid : Prop := fnExactSameRootsRow.holds Try.pinned (OpenSpec.ofChange fnExactSameRootsSpec)

/-- ITS FALSE NEIGHBOUR: 'it returns false'. Refute it at one input. -/
def fnExactSameRootsWrong : ChangeSpec := { name := "fnExactSameRoots", fn := fun _ => fun
  | [d1, d2, d3, d4] => { results := [.lit (.bool false)], args := [d1, d2, d3, d4] }
  | _ => none }
def FnExactSameRootsWrongFalsely : Prop := fnExactSameRootsRow.holds Try.pinned (OpenSpec.ofChange fnExactSameRootsWrong)

/-- 'laws.FnExactFittingNodes': WHATEVER THE INPUT: true; the input reads as it did. -/
def fnExactFittingNodesSpec : ChangeSpec := { name := "fnExactFittingNodes", fn := fun _ => fun
  | [d1, d2] => { results := [.lit (.bool true)], args := [d1, d2] }
  | _ => none }
def fnExactFittingNodesRow : OpenClaim := { program := "ytiejigogmnkjdaa", sum := "5994392f4516a4369b2f0015ab6f42e947d494e6eea774b0bf51f91ff2b3a36f", func := "loop.example/g01084/laws.FnExactFittingNodes", spec := "fnExactFittingNodes", unfollowed := true, recurses := true, apart := false }
def FnExactFittingNodesSaid : Prop := fnExactFittingNodesRow.holds Try.pinned (OpenSpec.ofChange fnExactFittingNodesSpec)

/-- ITS FALSE NEIGHBOUR: 'it returns false'. Refute it at one input. -/
def fnExactFittingNodesWrong : ChangeSpec := { name := "fnExactFittingNodes", fn := fun _ => fun
  | [d1, d2] => { results := [.lit (.bool false)], args := [d1, d2] }
  | _ => none }
def FnExactFittingNodesWrongFalsely : Prop := fnExactFittingNodesRow.holds Try.pinned (OpenSpec.ofChange fnExactFittingNodesWrong)

/-- 'laws.FnExactCodeFrom': WHATEVER THE INPUT: true; the input reads as it did. -/
def fnExactCodeFromSpec : ChangeSpec := { name := "fnExactCodeFrom", fn := fun _ => fun
  | [d1, d2] => { results := [.lit (.bool true)], args := [d1, d2] }
  | _ => none }
def fnExactCodeFromRow : OpenClaim := { program := "ytiejigogmnkjdaa", sum := "5994392f4516a4369b2f0015ab6f42e947d494e6eea774b0bf51f91ff2b3a36f", func := "loop.example/g01084/laws.FnExactCodeFrom", spec := "fnExactCodeFrom", unfollowed := true, recurses := true, apart := false }
def FnExactCodeFromSaid : Prop := fnExactCodeFromRow.holds Try.pinned (OpenSpec.ofChange fnExactCodeFromSpec)

/-- ITS FALSE NEIGHBOUR: 'it returns false'. Refute it at one input. -/
def fnExactCodeFromWrong : ChangeSpec := { name := "fnExactCodeFrom", fn := fun _ => fun
  | [d1, d2] => { results := [.lit (.bool false)], args := [d1, d2] }
  | _ => none }
def FnExactCodeFromWrongFalsely : Prop := fnExactCodeFromRow.holds Try.pinned (OpenSpec.ofChange fnExactCodeFromWrong)

/-- 'laws.FnExactIsConfigMap': WHATEVER THE INPUT: true; the input reads as it did. -/
def fnExactIsConfigMapSpec : ChangeSpec := { name := "fnExactIsConfigMap", fn := fun _ => fun
  | [d1, d2, d3] => { results := [.lit (.bool true)], args := [d1, d2, d3] }
  | _ => none }
def fnExactIsConfigMapRow : OpenClaim := { program := "ytiejigogmnkjdaa", sum := "5994392f4516a4369b2f0015ab6f42e947d494e6eea774b0bf51f91ff2b3a36f", func := "loop.example/g01084/laws.FnExactIsConfigMap", spec := "fnExactIsConfigMap", unfollowed := true, recurses := true, apart := false }
def FnExactIsConfigMapSaid : Prop := fnExactIsConfigMapRow.holds Try.pinned (OpenSpec.ofChange fnExactIsConfigMapSpec)

/-- ITS FALSE NEIGHBOUR: 'it returns false'. Refute it at one input. -/
def fnExactIsConfigMapWrong : ChangeSpec := { name := "fnExactIsConfigMap", fn := fun _ => fun
  | [d1, d2, d3] => { results := [.lit (.bool false)], args := [d1, d2, d3] }
  | _ => none }
def FnExactIsConfigMapWrongFalsely : Prop := fnExactIsConfigMapRow.holds Try.pinned (OpenSpec.ofChange fnExactIsConfigMapWrong)

/-- 'laws.FnExactIsRootedSolution': WHATEVER THE INPUT: true; the input reads as it did. -/
def fnExactIsRootedSolutionSpec : ChangeSpec := { name := "fnExactIsRootedSolution", fn := fun _ => fun
  | [d1, d2, d3] => { results := [.lit (.bool true)], args := [d1, d2, d3] }
  | _ => none }
def fnExactIsRootedSolutionRow : OpenClaim := { program := "ytiejigogmnkjdaa", sum := "5994392f4516a4369b2f0015ab6f42e947d494e6eea774b0bf51f91ff2b3a36f", func := "loop.example/g01084/laws.FnExactIsRootedSolution", spec := "fnExactIsRootedSolution", unfollowed := true, recurses := true, apart := false }
def FnExactIsRootedSolutionSaid : Prop := fnExactIsRootedSolutionRow.holds Try.pinned (OpenSpec.ofChange fnExactIsRootedSolutionSpec)

/-- ITS FALSE NEIGHBOUR: 'it returns false'. Refute it at one input. -/
def fnExactIsRootedSolutionWrong : ChangeSpec := { name := "fnExactIsRootedSolution", fn := fun _ => fun
  | [d1, d2, d3] => { results := [.lit (.bool false)], args := [d1, d2, d3] }
  | _ => none }
def FnExactIsRootedSolutionWrongFalsely : Prop := fnExactIsRootedSolutionRow.holds Try.pinned (OpenSpec.ofChange fnExactIsRootedSolutionWrong)

/-- 'laws.FnExactFirstRootedFault': WHATEVER THE INPUT: true; the input reads as it did. -/
def fnExactFirstRootedFaultSpec : ChangeSpec := { name := "fnExactFirstRootedFault", fn := fun _ => fun
  | [d1, d2, d3] => { results := [.lit (.bool true)], args := [d1, d2, d3] }
  | _ => none }
def fnExactFirstRootedFaultRow : OpenClaim := { program := "ytiejigogmnkjdaa", sum := "5994392f4516a4369b2f0015ab6f42e947d494e6eea774b0bf51f91ff2b3a36f", func := "loop.example/g01084/laws.FnExactFirstRootedFault", spec := "fnExactFirstRootedFault", unfollowed := true, recurses := true, apart := false }
def FnExactFirstRootedFaultSaid : Prop := fnExactFirstRootedFaultRow.holds Try.pinned (OpenSpec.ofChange fnExactFirstRootedFaultSpec)

/-- ITS FALSE NEIGHBOUR: 'it returns false'. Refute it at one input. -/
def fnExactFirstRootedFaultWrong : ChangeSpec := { name := "fnExactFirstRootedFault", fn := fun _ => fun
  | [d1, d2, d3] => { results := [.lit (.bool false)], args := [d1, d2, d3] }
  | _ => none }
def FnExactFirstRootedFaultWrongFalsely : Prop := fnExactFirstRootedFaultRow.holds Try.pinned (OpenSpec.ofChange fnExactFirstRootedFaultWrong)

/-- 'laws.FnExactRefutesOrder': WHATEVER THE INPUT: true; the input reads as it did. -/
def fnExactRefutesOrderSpec : ChangeSpec := { name := "fnExactRefutesOrder", fn := fun _ => fun
  | [d1, d2, d3, d4] => { results := [.lit (.bool true)], args := [d1, d2, d3, d4] }
  | _ => none }
def fnExactRefutesOrderRow : OpenClaim := { program := "ytiejigogmnkjdaa", sum := "5994392f4516a4369b2f0015ab6f42e947d494e6eea774b0bf51f91ff2b3a36f", func := "loop.example/g01084/laws.FnExactRefutesOrder", spec := "fnExactRefutesOrder", unfollowed := true, recurses := true, apart := false }
def FnExactRefutesOrderSaid : Prop := fnExactRefutesOrderRow.holds Try.pinned (OpenSpec.ofChange fnExactRefutesOrderSpec)

/-- ITS FALSE NEIGHBOUR: 'it returns false'. Refute it at one input. -/
def fnExactRefutesOrderWrong : ChangeSpec := { name := "fnExactRefutesOrder", fn := fun _ => fun
  | [d1, d2, d3, d4] => { results := [.lit (.bool false)], args := [d1, d2, d3, d4] }
  | _ => none }
def FnExactRefutesOrderWrongFalsely : Prop := fnExactRefutesOrderRow.holds Try.pinned (OpenSpec.ofChange fnExactRefutesOrderWrong)

/-- 'laws.FnExactPathForm': WHATEVER THE INPUT: true; the input reads as it did. -/
def fnExactPathFormSpec : ChangeSpec := { name := "fnExactPathForm", fn := fun _ => fun
  | [d] => { results := [.lit (.bool true)], args := [d] }
  | _ => none }
def fnExactPathFormRow : OpenClaim := { program := "ytiejigogmnkjdaa", sum := "5994392f4516a4369b2f0015ab6f42e947d494e6eea774b0bf51f91ff2b3a36f", func := "loop.example/g01084/laws.FnExactPathForm", spec := "fnExactPathForm", unfollowed := true, recurses := true, apart := false }
def FnExactPathFormSaid : Prop := fnExactPathFormRow.holds Try.pinned (OpenSpec.ofChange fnExactPathFormSpec)

/-- ITS FALSE NEIGHBOUR: 'it returns false'. Refute it at one input. -/
def fnExactPathFormWrong : ChangeSpec := { name := "fnExactPathForm", fn := fun _ => fun
  | [d] => { results := [.lit (.bool false)], args := [d] }
  | _ => none }
def FnExactPathFormWrongFalsely : Prop := fnExactPathFormRow.holds Try.pinned (OpenSpec.ofChange fnExactPathFormWrong)

/-- 'laws.FnExactOrbitsOf': WHATEVER THE INPUT: true; the input reads as it did. -/
def fnExactOrbitsOfSpec : ChangeSpec := { name := "fnExactOrbitsOf", fn := fun _ => fun
  | [d] => { results := [.lit (.bool true)], args := [d] }
  | _ => none }
def fnExactOrbitsOfRow : OpenClaim := { program := "ytiejigogmnkjdaa", sum := "5994392f4516a4369b2f0015ab6f42e947d494e6eea774b0bf51f91ff2b3a36f", func := "loop.example/g01084/laws.FnExactOrbitsOf", spec := "fnExactOrbitsOf", unfollowed := true, recurses := true, apart := false }
def FnExactOrbitsOfSaid : Prop := fnExactOrbitsOfRow.holds Try.pinned (OpenSpec.ofChange fnExactOrbitsOfSpec)

/-- ITS FALSE NEIGHBOUR: 'it returns false'. Refute it at one input. -/
def fnExactOrbitsOfWrong : ChangeSpec := { name := "fnExactOrbitsOf", fn := fun _ => fun
  | [d] => { results := [.lit (.bool false)], args := [d] }
  | _ => none }
def FnExactOrbitsOfWrongFalsely : Prop := fnExactOrbitsOfRow.holds Try.pinned (OpenSpec.ofChange fnExactOrbitsOfWrong)

/-- 'laws.FnExactWalkOfProblem': WHATEVER THE INPUT: true; the input reads as it did. -/
def fnExactWalkOfProblemSpec : ChangeSpec := { name := "fnExactWalkOfProblem", fn := fun _ => fun
  | [d] => { results := [.lit (.bool true)], args := [d] }
  | _ => none }
def fnExactWalkOfProblemRow : OpenClaim := { program := "ytiejigogmnkjdaa", sum := "5994392f4516a4369b2f0015ab6f42e947d494e6eea774b0bf51f91ff2b3a36f", func := "loop.example/g01084/laws.FnExactWalkOfProblem", spec := "fnExactWalkOfProblem", unfollowed := true, recurses := true, apart := false }
def FnExactWalkOfProblemSaid : Prop := fnExactWalkOfProblemRow.holds Try.pinned (OpenSpec.ofChange fnExactWalkOfProblemSpec)

/-- ITS FALSE NEIGHBOUR: 'it returns false'. Refute it at one input. -/
def fnExactWalkOfProblemWrong : ChangeSpec := { name := "fnExactWalkOfProblem", fn := fun _ => fun
  | [d] => { results := [.lit (.bool false)], args := [d] }
  | _ => none }
def FnExactWalkOfProblemWrongFalsely : Prop := fnExactWalkOfProblemRow.holds Try.pinned (OpenSpec.ofChange fnExactWalkOfProblemWrong)

/-- 'laws.FnExactFixedNodes': WHATEVER THE INPUT: true; the input reads as it did. -/
def fnExactFixedNodesSpec : ChangeSpec := { name := "fnExactFixedNodes", fn := fun _ => fun
  | [d] => { results := [.lit (.bool true)], args := [d] }
  | _ => none }
def fnExactFixedNodesRow : OpenClaim := { program := "ytiejigogmnkjdaa", sum := "5994392f4516a4369b2f0015ab6f42e947d494e6eea774b0bf51f91ff2b3a36f", func := "loop.example/g01084/laws.FnExactFixedNodes", spec := "fnExactFixedNodes", unfollowed := true, recurses := true, apart := false }
def FnExactFixedNodesSaid : Prop := fnExactFixedNodesRow.holds Try.pinned (OpenSpec.ofChange fnExactFixedNodesSpec)

/-- ITS FALSE NEIGHBOUR: 'it returns false'. Refute it at one input. -/
def fnExactFixedNodesWrong : ChangeSpec := { name := "fnExactFixedNodes", fn := fun _ => fun
  | [d] => { results := [.lit (.bool false)], args := [d] }
  | _ => none }
def FnExactFixedNodesWrongFalsely : Prop := fnExactFixedNodesRow.holds Try.pinned (OpenSpec.ofChange fnExactFixedNodesWrong)

/- THE SECOND FORM. 'bulk': how many values and letters a reading holds, each counted each time it is reached (what is shared counts as often as it is met; a slice's spare places count too). A statement '..UptoSaid' is the law's where the arguments, and the package variables that the reading takes, are together of bulk at most 1048576: NARROWER than '..Said'. Prove '..Said' where nothing that the law and all that it calls make is longer than what came in: it says more and counts as full. Else prove '..UptoSaid'. A law counts once. -/
mutual
def uptoBulk {H : Type} : DataW H → Nat
  | .lit (.string bytes) => bytes.length + 1
  | .lit _ => 1
  | .nil => 1
  | .ptr d => uptoBulk d + 1
  | .slice elems spare => uptoBulkAll elems + uptoBulkAll spare + 1
  | .agg parts => uptoBulkAll parts + 1
  | .iface _ d => uptoBulk d + 1
  | .map entries => uptoBulkEntries entries + 1
  | .held _ => 1
def uptoBulkAll {H : Type} : List (DataW H) → Nat
  | [] => 0
  | d :: r => uptoBulk d + uptoBulkAll r
def uptoBulkEntries {H : Type} : List (Lit × DataW H) → Nat
  | [] => 0
  | x :: r => uptoBulkEntry x + uptoBulkEntries r
def uptoBulkEntry {H : Type} : Lit × DataW H → Nat
  | (.string bytes, d) => bytes.length + uptoBulk d + 1
  | (_, d) => uptoBulk d + 1
 end
def uptoSmall : (H : Type) → List (DataW H) → Bool := fun _ ds => decide (uptoBulkAll ds ≤ 1048576)
def OpenSpec.upto (s : _root_.Go.ChangeSpec) : _root_.Go.OpenSpec := { _root_.Go.OpenSpec.ofChange s with cond := some uptoSmall }

/-- 'laws.FnExactIsLabelMap', WHERE WHAT IT READS IS OF BULK AT MOST 1048576: true; the input reads as it did. -/
def fnExactIsLabelMapUptoRow : OpenClaim := { program := "ytiejigogmnkjdaa", sum := "5994392f4516a4369b2f0015ab6f42e947d494e6eea774b0bf51f91ff2b3a36f", func := "loop.example/g01084/laws.FnExactIsLabelMap", spec := "fnExactIsLabelMap", unfollowed := true, recurses := true, apart := false, narrowed := true }
def FnExactIsLabelMapUptoSaid : Prop := fnExactIsLabelMapUptoRow.holds Try.pinned (OpenSpec.upto fnExactIsLabelMapSpec)

/-- 'laws.FnExactSameRoots', WHERE WHAT IT READS IS OF BULK AT MOST 1048576: true; the input reads as it did. -/
def fnExactSameRootsUptoRow : OpenClaim := { program := "ytiejigogmnkjdaa", sum := "5994392f4516a4369b2f0015ab6f42e947d494e6eea774b0bf51f91ff2b3a36f", func := "loop.example/g01084/laws.FnExactSameRoots", spec := "fnExactSameRoots", unfollowed := true, recurses := true, apart := false, narrowed := true }
def FnExactSameRootsUptoSaid : Prop := fnExactSameRootsUptoRow.holds Try.pinned (OpenSpec.upto fnExactSameRootsSpec)

/-- 'laws.FnExactFittingNodes', WHERE WHAT IT READS IS OF BULK AT MOST 1048576: true; the input reads as it did. -/
def fnExactFittingNodesUptoRow : OpenClaim := { program := "ytiejigogmnkjdaa", sum := "5994392f4516a4369b2f0015ab6f42e947d494e6eea774b0bf51f91ff2b3a36f", func := "loop.example/g01084/laws.FnExactFittingNodes", spec := "fnExactFittingNodes", unfollowed := true, recurses := true, apart := false, narrowed := true }
def FnExactFittingNodesUptoSaid : Prop := fnExactFittingNodesUptoRow.holds Try.pinned (OpenSpec.upto fnExactFittingNodesSpec)

/-- 'laws.FnExactCodeFrom', WHERE WHAT IT READS IS OF BULK AT MOST 1048576: true; the input reads as it did. -/
def fnExactCodeFromUptoRow : OpenClaim := { program := "ytiejigogmnkjdaa", sum := "5994392f4516a4369b2f0015ab6f42e947d494e6eea774b0bf51f91ff2b3a36f", func := "loop.example/g01084/laws.FnExactCodeFrom", spec := "fnExactCodeFrom", unfollowed := true, recurses := true, apart := false, narrowed := true }
def FnExactCodeFromUptoSaid : Prop := fnExactCodeFromUptoRow.holds Try.pinned (OpenSpec.upto fnExactCodeFromSpec)

/-- 'laws.FnExactIsConfigMap', WHERE WHAT IT READS IS OF BULK AT MOST 1048576: true; the input reads as it did. -/
def fnExactIsConfigMapUptoRow : OpenClaim := { program := "ytiejigogmnkjdaa", sum := "5994392f4516a4369b2f0015ab6f42e947d494e6eea774b0bf51f91ff2b3a36f", func := "loop.example/g01084/laws.FnExactIsConfigMap", spec := "fnExactIsConfigMap", unfollowed := true, recurses := true, apart := false, narrowed := true }
def FnExactIsConfigMapUptoSaid : Prop := fnExactIsConfigMapUptoRow.holds Try.pinned (OpenSpec.upto fnExactIsConfigMapSpec)

/-- 'laws.FnExactIsRootedSolution', WHERE WHAT IT READS IS OF BULK AT MOST 1048576: true; the input reads as it did. -/
def fnExactIsRootedSolutionUptoRow : OpenClaim := { program := "ytiejigogmnkjdaa", sum := "5994392f4516a4369b2f0015ab6f42e947d494e6eea774b0bf51f91ff2b3a36f", func := "loop.example/g01084/laws.FnExactIsRootedSolution", spec := "fnExactIsRootedSolution", unfollowed := true, recurses := true, apart := false, narrowed := true }
def FnExactIsRootedSolutionUptoSaid : Prop := fnExactIsRootedSolutionUptoRow.holds Try.pinned (OpenSpec.upto fnExactIsRootedSolutionSpec)

/-- 'laws.FnExactFirstRootedFault', WHERE WHAT IT READS IS OF BULK AT MOST 1048576: true; the input reads as it did. -/
def fnExactFirstRootedFaultUptoRow : OpenClaim := { program := "ytiejigogmnkjdaa", sum := "5994392f4516a4369b2f0015ab6f42e947d494e6eea774b0bf51f91ff2b3a36f", func := "loop.example/g01084/laws.FnExactFirstRootedFault", spec := "fnExactFirstRootedFault", unfollowed := true, recurses := true, apart := false, narrowed := true }
def FnExactFirstRootedFaultUptoSaid : Prop := fnExactFirstRootedFaultUptoRow.holds Try.pinned (OpenSpec.upto fnExactFirstRootedFaultSpec)

/-- 'laws.FnExactRefutesOrder', WHERE WHAT IT READS IS OF BULK AT MOST 1048576: true; the input reads as it did. -/
def fnExactRefutesOrderUptoRow : OpenClaim := { program := "ytiejigogmnkjdaa", sum := "5994392f4516a4369b2f0015ab6f42e947d494e6eea774b0bf51f91ff2b3a36f", func := "loop.example/g01084/laws.FnExactRefutesOrder", spec := "fnExactRefutesOrder", unfollowed := true, recurses := true, apart := false, narrowed := true }
def FnExactRefutesOrderUptoSaid : Prop := fnExactRefutesOrderUptoRow.holds Try.pinned (OpenSpec.upto fnExactRefutesOrderSpec)

/-- 'laws.FnExactPathForm', WHERE WHAT IT READS IS OF BULK AT MOST 1048576: true; the input reads as it did. -/
def fnExactPathFormUptoRow : OpenClaim := { program := "ytiejigogmnkjdaa", sum := "5994392f4516a4369b2f0015ab6f42e947d494e6eea774b0bf51f91ff2b3a36f", func := "loop.example/g01084/laws.FnExactPathForm", spec := "fnExactPathForm", unfollowed := true, recurses := true, apart := false, narrowed := true }
def FnExactPathFormUptoSaid : Prop := fnExactPathFormUptoRow.holds Try.pinned (OpenSpec.upto fnExactPathFormSpec)

/-- 'laws.FnExactOrbitsOf', WHERE WHAT IT READS IS OF BULK AT MOST 1048576: true; the input reads as it did. -/
def fnExactOrbitsOfUptoRow : OpenClaim := { program := "ytiejigogmnkjdaa", sum := "5994392f4516a4369b2f0015ab6f42e947d494e6eea774b0bf51f91ff2b3a36f", func := "loop.example/g01084/laws.FnExactOrbitsOf", spec := "fnExactOrbitsOf", unfollowed := true, recurses := true, apart := false, narrowed := true }
def FnExactOrbitsOfUptoSaid : Prop := fnExactOrbitsOfUptoRow.holds Try.pinned (OpenSpec.upto fnExactOrbitsOfSpec)

/-- 'laws.FnExactWalkOfProblem', WHERE WHAT IT READS IS OF BULK AT MOST 1048576: true; the input reads as it did. -/
def fnExactWalkOfProblemUptoRow : OpenClaim := { program := "ytiejigogmnkjdaa", sum := "5994392f4516a4369b2f0015ab6f42e947d494e6eea774b0bf51f91ff2b3a36f", func := "loop.example/g01084/laws.FnExactWalkOfProblem", spec := "fnExactWalkOfProblem", unfollowed := true, recurses := true, apart := false, narrowed := true }
def FnExactWalkOfProblemUptoSaid : Prop := fnExactWalkOfProblemUptoRow.holds Try.pinned (OpenSpec.upto fnExactWalkOfProblemSpec)

/-- 'laws.FnExactFixedNodes', WHERE WHAT IT READS IS OF BULK AT MOST 1048576: true; the input reads as it did. -/
def fnExactFixedNodesUptoRow : OpenClaim := { program := "ytiejigogmnkjdaa", sum := "5994392f4516a4369b2f0015ab6f42e947d494e6eea774b0bf51f91ff2b3a36f", func := "loop.example/g01084/laws.FnExactFixedNodes", spec := "fnExactFixedNodes", unfollowed := true, recurses := true, apart := false, narrowed := true }
def FnExactFixedNodesUptoSaid : Prop := fnExactFixedNodesUptoRow.holds Try.pinned (OpenSpec.upto fnExactFixedNodesSpec)

end Rows
end Go.Proofs.Ytiejigogmnkjdaa
