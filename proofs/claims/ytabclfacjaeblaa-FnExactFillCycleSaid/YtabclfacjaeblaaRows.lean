/-
  No cell of these rows narrows 'for every input' (looked for: loops, veiled, ifaces, maps, wideKeys, modest, calm, conditions, laid).
  DERIVED. THE GIVEN ROWS OF THIS SEAT. 9 by the template 'for every input the law returns true; each argument reads behind the call as it read before'; 0 by the template 'total and deterministic' (their statements: YtabclfacjaeblaaTotals.lean).
  GIVEN WITH THE SEED: the statements are not yours to turn. If you find one false, say at which input.
  Laid BY PROGRAM, IN A SANDBOX (cutbox-rows.mjs): the forced cells as the released guide's own fill.sh prints them over the translation 3403f5cd2487eb05… (all of the seat's roots in one cut). By AI agents, Wed Nov 11 2026. No macro, syntax, notation, axiom, sorry.
-/
import Derived.Test.YtabclfacjaeblaaChecked
import GoSem.Claim
import GoSem.ClaimJoined
import GoSem.ClaimMapViews
import Derived.JoinedTies
import Derived.KernelRfl
namespace Go.Proofs.Ytabclfacjaeblaa
/- THE CELL 'sum', in the pinned program and in every row, IS THE sha256 OF THE DUMP (.gsa) THAT YtabclfacjaeblaaProg.lean LOADS. Nothing in Lean hashes anything: it is a label: what it is worth is what the hold of that sum in a sandbox is worth. -/
noncomputable def Try.pinned : Pinned := { name := "ytabclfacjaeblaa", sum := "3403f5cd2487eb05c711dce88f880407d4b5af3599030df199e286ec0167f86c", checked := Try.checked }
namespace Rows
def none {H : Type} : Left H := { results := [], args := [] }

/-- 'laws.FnExactRootsOfDepth': WHATEVER THE INPUT: true; the input reads as it did. -/
def fnExactRootsOfDepthSpec : ChangeSpec := { name := "fnExactRootsOfDepth", fn := fun _ => fun
  | [d1, d2] => { results := [.lit (.bool true)], args := [d1, d2] }
  | _ => none }
def fnExactRootsOfDepthRow : OpenClaim := { program := "ytabclfacjaeblaa", sum := "3403f5cd2487eb05c711dce88f880407d4b5af3599030df199e286ec0167f86c", func := "loop.example/g01084/laws.FnExactRootsOfDepth", spec := "fnExactRootsOfDepth", unfollowed := true, recurses := true, apart := false }
def FnExactRootsOfDepthSaid : Prop := fnExactRootsOfDepthRow.holds Try.pinned (OpenSpec.ofChange fnExactRootsOfDepthSpec)

/-- ITS FALSE NEIGHBOUR: 'it returns false'. Refute it at one input. -/
def fnExactRootsOfDepthWrong : ChangeSpec := { name := "fnExactRootsOfDepth", fn := fun _ => fun
  | [d1, d2] => { results := [.lit (.bool false)], args := [d1, d2] }
  | _ => none }
def FnExactRootsOfDepthWrongFalsely : Prop := fnExactRootsOfDepthRow.holds Try.pinned (OpenSpec.ofChange fnExactRootsOfDepthWrong)

/-- 'laws.FnExactCheckWalkCertificate': WHATEVER THE INPUT: true; the input reads as it did. -/
def fnExactCheckWalkCertificateSpec : ChangeSpec := { name := "fnExactCheckWalkCertificate", fn := fun _ => fun
  | [d1, d2] => { results := [.lit (.bool true)], args := [d1, d2] }
  | _ => none }
def fnExactCheckWalkCertificateRow : OpenClaim := { program := "ytabclfacjaeblaa", sum := "3403f5cd2487eb05c711dce88f880407d4b5af3599030df199e286ec0167f86c", func := "loop.example/g01084/laws.FnExactCheckWalkCertificate", spec := "fnExactCheckWalkCertificate", unfollowed := true, recurses := true, apart := false }
def FnExactCheckWalkCertificateSaid : Prop := fnExactCheckWalkCertificateRow.holds Try.pinned (OpenSpec.ofChange fnExactCheckWalkCertificateSpec)

/-- ITS FALSE NEIGHBOUR: 'it returns false'. Refute it at one input. -/
def fnExactCheckWalkCertificateWrong : ChangeSpec := { name := "fnExactCheckWalkCertificate", fn := fun _ => fun
  | [d1, d2] => { results := [.lit (.bool false)], args := [d1, d2] }
  | _ => none }
def FnExactCheckWalkCertificateWrongFalsely : Prop := fnExactCheckWalkCertificateRow.holds Try.pinned (OpenSpec.ofChange fnExactCheckWalkCertificateWrong)

/-- 'laws.FnExactFillCycle': WHATEVER THE INPUT: true; the input reads as it did. -/
def fnExactFillCycleSpec : ChangeSpec := { name := "fnExactFillCycle", fn := fun _ => fun
  | [d1, d2, d3, d4] => { results := [.lit (.bool true)], args := [d1, d2, d3, d4] }
  | _ => none }
def fnExactFillCycleRow : OpenClaim := { program := "ytabclfacjaeblaa", sum := "3403f5cd2487eb05c711dce88f880407d4b5af3599030df199e286ec0167f86c", func := "loop.example/g01084/laws.FnExactFillCycle", spec := "fnExactFillCycle", unfollowed := true, recurses := true, apart := false }
def FnExactFillCycleSaid : Prop := fnExactFillCycleRow.holds Try.pinned (OpenSpec.ofChange fnExactFillCycleSpec)

/-- ITS FALSE NEIGHBOUR: 'it returns false'. Refute it at one input. -/
def fnExactFillCycleWrong : ChangeSpec := { name := "fnExactFillCycle", fn := fun _ => fun
  | [d1, d2, d3, d4] => { results := [.lit (.bool false)], args := [d1, d2, d3, d4] }
  | _ => none }
def FnExactFillCycleWrongFalsely : Prop := fnExactFillCycleRow.holds Try.pinned (OpenSpec.ofChange fnExactFillCycleWrong)

/-- 'laws.FnExactSolveDown': WHATEVER THE INPUT: true; the input reads as it did. -/
def fnExactSolveDownSpec : ChangeSpec := { name := "fnExactSolveDown", fn := fun _ => fun
  | [d1, d2] => { results := [.lit (.bool true)], args := [d1, d2] }
  | _ => none }
def fnExactSolveDownRow : OpenClaim := { program := "ytabclfacjaeblaa", sum := "3403f5cd2487eb05c711dce88f880407d4b5af3599030df199e286ec0167f86c", func := "loop.example/g01084/laws.FnExactSolveDown", spec := "fnExactSolveDown", unfollowed := true, recurses := true, apart := false }
def FnExactSolveDownSaid : Prop := fnExactSolveDownRow.holds Try.pinned (OpenSpec.ofChange fnExactSolveDownSpec)

/-- ITS FALSE NEIGHBOUR: 'it returns false'. Refute it at one input. -/
def fnExactSolveDownWrong : ChangeSpec := { name := "fnExactSolveDown", fn := fun _ => fun
  | [d1, d2] => { results := [.lit (.bool false)], args := [d1, d2] }
  | _ => none }
def FnExactSolveDownWrongFalsely : Prop := fnExactSolveDownRow.holds Try.pinned (OpenSpec.ofChange fnExactSolveDownWrong)

/-- 'laws.FnExactWalkComponents': WHATEVER THE INPUT: true; the input reads as it did. -/
def fnExactWalkComponentsSpec : ChangeSpec := { name := "fnExactWalkComponents", fn := fun _ => fun
  | [d] => { results := [.lit (.bool true)], args := [d] }
  | _ => none }
def fnExactWalkComponentsRow : OpenClaim := { program := "ytabclfacjaeblaa", sum := "3403f5cd2487eb05c711dce88f880407d4b5af3599030df199e286ec0167f86c", func := "loop.example/g01084/laws.FnExactWalkComponents", spec := "fnExactWalkComponents", unfollowed := true, recurses := true, apart := false }
def FnExactWalkComponentsSaid : Prop := fnExactWalkComponentsRow.holds Try.pinned (OpenSpec.ofChange fnExactWalkComponentsSpec)

/-- ITS FALSE NEIGHBOUR: 'it returns false'. Refute it at one input. -/
def fnExactWalkComponentsWrong : ChangeSpec := { name := "fnExactWalkComponents", fn := fun _ => fun
  | [d] => { results := [.lit (.bool false)], args := [d] }
  | _ => none }
def FnExactWalkComponentsWrongFalsely : Prop := fnExactWalkComponentsRow.holds Try.pinned (OpenSpec.ofChange fnExactWalkComponentsWrong)

/-- 'laws.FnExactOrderWindow': WHATEVER THE INPUT: true; the input reads as it did. -/
def fnExactOrderWindowSpec : ChangeSpec := { name := "fnExactOrderWindow", fn := fun _ => fun
  | [d1, d2, d3] => { results := [.lit (.bool true)], args := [d1, d2, d3] }
  | _ => none }
def fnExactOrderWindowRow : OpenClaim := { program := "ytabclfacjaeblaa", sum := "3403f5cd2487eb05c711dce88f880407d4b5af3599030df199e286ec0167f86c", func := "loop.example/g01084/laws.FnExactOrderWindow", spec := "fnExactOrderWindow", unfollowed := true, recurses := true, apart := false }
def FnExactOrderWindowSaid : Prop := fnExactOrderWindowRow.holds Try.pinned (OpenSpec.ofChange fnExactOrderWindowSpec)

/-- ITS FALSE NEIGHBOUR: 'it returns false'. Refute it at one input. -/
def fnExactOrderWindowWrong : ChangeSpec := { name := "fnExactOrderWindow", fn := fun _ => fun
  | [d1, d2, d3] => { results := [.lit (.bool false)], args := [d1, d2, d3] }
  | _ => none }
def FnExactOrderWindowWrongFalsely : Prop := fnExactOrderWindowRow.holds Try.pinned (OpenSpec.ofChange fnExactOrderWindowWrong)

/-- 'laws.FnExactSameOrderPair': WHATEVER THE INPUT: true; the input reads as it did. -/
def fnExactSameOrderPairSpec : ChangeSpec := { name := "fnExactSameOrderPair", fn := fun _ => fun
  | [d1, d2] => { results := [.lit (.bool true)], args := [d1, d2] }
  | _ => none }
def fnExactSameOrderPairRow : OpenClaim := { program := "ytabclfacjaeblaa", sum := "3403f5cd2487eb05c711dce88f880407d4b5af3599030df199e286ec0167f86c", func := "loop.example/g01084/laws.FnExactSameOrderPair", spec := "fnExactSameOrderPair", unfollowed := true, recurses := true, apart := false }
def FnExactSameOrderPairSaid : Prop := fnExactSameOrderPairRow.holds Try.pinned (OpenSpec.ofChange fnExactSameOrderPairSpec)

/-- ITS FALSE NEIGHBOUR: 'it returns false'. Refute it at one input. -/
def fnExactSameOrderPairWrong : ChangeSpec := { name := "fnExactSameOrderPair", fn := fun _ => fun
  | [d1, d2] => { results := [.lit (.bool false)], args := [d1, d2] }
  | _ => none }
def FnExactSameOrderPairWrongFalsely : Prop := fnExactSameOrderPairRow.holds Try.pinned (OpenSpec.ofChange fnExactSameOrderPairWrong)

/-- 'laws.FnExactAllowsNode': WHATEVER THE INPUT: true; the input reads as it did. -/
def fnExactAllowsNodeSpec : ChangeSpec := { name := "fnExactAllowsNode", fn := fun _ => fun
  | [d1, d2] => { results := [.lit (.bool true)], args := [d1, d2] }
  | _ => none }
def fnExactAllowsNodeRow : OpenClaim := { program := "ytabclfacjaeblaa", sum := "3403f5cd2487eb05c711dce88f880407d4b5af3599030df199e286ec0167f86c", func := "loop.example/g01084/laws.FnExactAllowsNode", spec := "fnExactAllowsNode", unfollowed := true, recurses := true, apart := false }
def FnExactAllowsNodeSaid : Prop := fnExactAllowsNodeRow.holds Try.pinned (OpenSpec.ofChange fnExactAllowsNodeSpec)

/-- ITS FALSE NEIGHBOUR: 'it returns false'. Refute it at one input. -/
def fnExactAllowsNodeWrong : ChangeSpec := { name := "fnExactAllowsNode", fn := fun _ => fun
  | [d1, d2] => { results := [.lit (.bool false)], args := [d1, d2] }
  | _ => none }
def FnExactAllowsNodeWrongFalsely : Prop := fnExactAllowsNodeRow.holds Try.pinned (OpenSpec.ofChange fnExactAllowsNodeWrong)

/-- 'laws.FnExactAllowsEdge': WHATEVER THE INPUT: true; the input reads as it did. -/
def fnExactAllowsEdgeSpec : ChangeSpec := { name := "fnExactAllowsEdge", fn := fun _ => fun
  | [d1, d2, d3] => { results := [.lit (.bool true)], args := [d1, d2, d3] }
  | _ => none }
def fnExactAllowsEdgeRow : OpenClaim := { program := "ytabclfacjaeblaa", sum := "3403f5cd2487eb05c711dce88f880407d4b5af3599030df199e286ec0167f86c", func := "loop.example/g01084/laws.FnExactAllowsEdge", spec := "fnExactAllowsEdge", unfollowed := true, recurses := true, apart := false }
def FnExactAllowsEdgeSaid : Prop := fnExactAllowsEdgeRow.holds Try.pinned (OpenSpec.ofChange fnExactAllowsEdgeSpec)

/-- ITS FALSE NEIGHBOUR: 'it returns false'. Refute it at one input. -/
def fnExactAllowsEdgeWrong : ChangeSpec := { name := "fnExactAllowsEdge", fn := fun _ => fun
  | [d1, d2, d3] => { results := [.lit (.bool false)], args := [d1, d2, d3] }
  | _ => none }
def FnExactAllowsEdgeWrongFalsely : Prop := fnExactAllowsEdgeRow.holds Try.pinned (OpenSpec.ofChange fnExactAllowsEdgeWrong)

/- THE SECOND FORM. 'bulk': how many values and letters a reading holds, each counted each time it is reached (what is shared counts as often as it is met; a slice's spare places count too). A statement '..UptoSaid' is the law's where the arguments, and the package variables that the reading takes, are together of bulk at most 1048576: NARROWER than '..Said'. Prove '..Said' where nothing that the law and all that it calls make is longer than what came in: it says more and counts as full. Else prove '..UptoSaid'. A law counts once. -/
mutual
def uptoBulk {H : Type} : DataW H → Nat
  | .lit (.string bytes) => bytes.length + 1
  | .lit _ => 1
  | .nil => 1
  | .ptr d => uptoBulk d + 1
  | .slice elems spare => uptoBulkAll elems + uptoBulkAll spare + 1
  | .agg parts => uptoBulkAll parts + 1
  | .iface _ d => uptoBulk d + 1
  | .map entries => uptoBulkEntries entries + 1
  | .held _ => 1
def uptoBulkAll {H : Type} : List (DataW H) → Nat
  | [] => 0
  | d :: r => uptoBulk d + uptoBulkAll r
def uptoBulkEntries {H : Type} : List (Lit × DataW H) → Nat
  | [] => 0
  | x :: r => uptoBulkEntry x + uptoBulkEntries r
def uptoBulkEntry {H : Type} : Lit × DataW H → Nat
  | (.string bytes, d) => bytes.length + uptoBulk d + 1
  | (_, d) => uptoBulk d + 1
 end
def uptoSmall : (H : Type) → List (DataW H) → Bool := fun _ ds => decide (uptoBulkAll ds ≤ 1048576)
def OpenSpec.upto (s : _root_.Go.ChangeSpec) : _root_.Go.OpenSpec := { _root_.Go.OpenSpec.ofChange s with cond := some uptoSmall }

/-- 'laws.FnExactRootsOfDepth', WHERE WHAT IT READS IS OF BULK AT MOST 1048576: true; the input reads as it did. -/
def fnExactRootsOfDepthUptoRow : OpenClaim := { program := "ytabclfacjaeblaa", sum := "3403f5cd2487eb05c711dce88f880407d4b5af3599030df199e286ec0167f86c", func := "loop.example/g01084/laws.FnExactRootsOfDepth", spec := "fnExactRootsOfDepth", unfollowed := true, recurses := true, apart := false, narrowed := true }
def FnExactRootsOfDepthUptoSaid : Prop := fnExactRootsOfDepthUptoRow.holds Try.pinned (OpenSpec.upto fnExactRootsOfDepthSpec)

/-- 'laws.FnExactCheckWalkCertificate', WHERE WHAT IT READS IS OF BULK AT MOST 1048576: true; the input reads as it did. -/
def fnExactCheckWalkCertificateUptoRow : OpenClaim := { program := "ytabclfacjaeblaa", sum := "3403f5cd2487eb05c711dce88f880407d4b5af3599030df199e286ec0167f86c", func := "loop.example/g01084/laws.FnExactCheckWalkCertificate", spec := "fnExactCheckWalkCertificate", unfollowed := true, recurses := true, apart := false, narrowed := true }
def FnExactCheckWalkCertificateUptoSaid : Prop := fnExactCheckWalkCertificateUptoRow.holds Try.pinned (OpenSpec.upto fnExactCheckWalkCertificateSpec)

/-- 'laws.FnExactFillCycle', WHERE WHAT IT READS IS OF BULK AT MOST 1048576: true; the input reads as it did. -/
def fnExactFillCycleUptoRow : OpenClaim := { program := "ytabclfacjaeblaa", sum := "3403f5cd2487eb05c711dce88f880407d4b5af3599030df199e286ec0167f86c", func := "loop.example/g01084/laws.FnExactFillCycle", spec := "fnExactFillCycle", unfollowed := true, recurses := true, apart := false, narrowed := true }
def FnExactFillCycleUptoSaid : Prop := fnExactFillCycleUptoRow.holds Try.pinned (OpenSpec.upto fnExactFillCycleSpec)

/-- 'laws.FnExactSolveDown', WHERE WHAT IT READS IS OF BULK AT MOST 1048576: true; the input reads as it did. -/
def fnExactSolveDownUptoRow : OpenClaim := { program := "ytabclfacjaeblaa", sum := "3403f5cd2487eb05c711dce88f880407d4b5af3599030df199e286ec0167f86c", func := "loop.example/g01084/laws.FnExactSolveDown", spec := "fnExactSolveDown", unfollowed := true, recurses := true, apart := false, narrowed := true }
def FnExactSolveDownUptoSaid : Prop := fnExactSolveDownUptoRow.holds Try.pinned (OpenSpec.upto fnExactSolveDownSpec)

/-- 'laws.FnExactWalkComponents', WHERE WHAT IT READS IS OF BULK AT MOST 1048576: true; the input reads as it did. -/
def fnExactWalkComponentsUptoRow : OpenClaim := { program := "ytabclfacjaeblaa", sum := "3403f5cd2487eb05c711dce88f880407d4b5af3599030df199e286ec0167f86c", func := "loop.example/g01084/laws.FnExactWalkComponents", spec := "fnExactWalkComponents", unfollowed := true, recurses := true, apart := false, narrowed := true }
def FnExactWalkComponentsUptoSaid : Prop := fnExactWalkComponentsUptoRow.holds Try.pinned (OpenSpec.upto fnExactWalkComponentsSpec)

/-- 'laws.FnExactOrderWindow', WHERE WHAT IT READS IS OF BULK AT MOST 1048576: true; the input reads as it did. -/
def fnExactOrderWindowUptoRow : OpenClaim := { program := "ytabclfacjaeblaa", sum := "3403f5cd2487eb05c711dce88f880407d4b5af3599030df199e286ec0167f86c", func := "loop.example/g01084/laws.FnExactOrderWindow", spec := "fnExactOrderWindow", unfollowed := true, recurses := true, apart := false, narrowed := true }
def FnExactOrderWindowUptoSaid : Prop := fnExactOrderWindowUptoRow.holds Try.pinned (OpenSpec.upto fnExactOrderWindowSpec)

/-- 'laws.FnExactSameOrderPair', WHERE WHAT IT READS IS OF BULK AT MOST 1048576: true; the input reads as it did. -/
def fnExactSameOrderPairUptoRow : OpenClaim := { program := "ytabclfacjaeblaa", sum := "3403f5cd2487eb05c711dce88f880407d4b5af3599030df199e286ec0167f86c", func := "loop.example/g01084/laws.FnExactSameOrderPair", spec := "fnExactSameOrderPair", unfollowed := true, recurses := true, apart := false, narrowed := true }
def FnExactSameOrderPairUptoSaid : Prop := fnExactSameOrderPairUptoRow.holds Try.pinned (OpenSpec.upto fnExactSameOrderPairSpec)

/-- 'laws.FnExactAllowsNode', WHERE WHAT IT READS IS OF BULK AT MOST 1048576: true; the input reads as it did. -/
def fnExactAllowsNodeUptoRow : OpenClaim := { program := "ytabclfacjaeblaa", sum := "3403f5cd2487eb05c711dce88f880407d4b5af3599030df199e286ec0167f86c", func := "loop.example/g01084/laws.FnExactAllowsNode", spec := "fnExactAllowsNode", unfollowed := true, recurses := true, apart := false, narrowed := true }
def FnExactAllowsNodeUptoSaid : Prop := fnExactAllowsNodeUptoRow.holds Try.pinned (OpenSpec.upto fnExactAllowsNodeSpec)

/-- 'laws.FnExactAllowsEdge', WHERE WHAT IT READS IS OF BULK AT MOST 1048576: true; the input reads as it did. -/
def fnExactAllowsEdgeUptoRow : OpenClaim := { program := "ytabclfacjaeblaa", sum := "3403f5cd2487eb05c711dce88f880407d4b5af3599030df199e286ec0167f86c", func := "loop.example/g01084/laws.FnExactAllowsEdge", spec := "fnExactAllowsEdge", unfollowed := true, recurses := true, apart := false, narrowed := true }
def FnExactAllowsEdgeUptoSaid : Prop := fnExactAllowsEdgeUptoRow.holds Try.pinned (OpenSpec.upto fnExactAllowsEdgeSpec)

end Rows
end Go.Proofs.Ytabclfacjaeblaa
