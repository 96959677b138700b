/-
  No cell of these rows narrows 'for every input' (looked for: loops, veiled, ifaces, maps, wideKeys, modest, calm, conditions, laid).
  DERIVED. THE GIVEN ROWS OF THIS SEAT. 5 by the template 'for every input the law returns true; each argument reads behind the call as it read before'; 0 by the template 'total and deterministic' (their statements: YtnamiakelifpiaaTotals.lean).
  GIVEN WITH THE SEED: the statements are not yours to turn. If you find one false, say at which input.
  Laid BY PROGRAM, IN A SANDBOX (cutbox-rows.mjs): the forced cells as the released guide's own fill.sh prints them over the translation 8195bb893e391bab… (all of the seat's roots in one cut). By AI agents, Wed Nov 11 2026. No macro, syntax, notation, axiom, sorry.
-/
import Derived.Test.YtnamiakelifpiaaChecked
import GoSem.Claim
import GoSem.ClaimJoined
import GoSem.ClaimMapViews
import Derived.JoinedTies
import Derived.KernelRfl
namespace Go.Proofs.Ytnamiakelifpiaa
/- THE CELL 'sum', in the pinned program and in every row, IS THE sha256 OF THE DUMP (.gsa) THAT YtnamiakelifpiaaProg.lean LOADS. Nothing in Lean hashes anything: it is a label: what it is worth is what the hold of that sum in a sandbox is worth. -/
noncomputable def Try.pinned : Pinned := { name := "ytnamiakelifpiaa", sum := "8195bb893e391bab48f1e0f6d9faa5c377be0018147e140e3cf508b845f9ab19", checked := Try.checked }
namespace Rows
def none {H : Type} : Left H := { results := [], args := [] }

/-- 'laws.FnExactCompleteTree': WHATEVER THE INPUT: true; the input reads as it did. -/
def fnExactCompleteTreeSpec : ChangeSpec := { name := "fnExactCompleteTree", fn := fun _ => fun
  | [d1, d2] => { results := [.lit (.bool true)], args := [d1, d2] }
  | _ => none }
def fnExactCompleteTreeRow : OpenClaim := { program := "ytnamiakelifpiaa", sum := "8195bb893e391bab48f1e0f6d9faa5c377be0018147e140e3cf508b845f9ab19", func := "loop.example/g01084/laws.FnExactCompleteTree", spec := "fnExactCompleteTree", apart := false }
def FnExactCompleteTreeSaid : Prop := fnExactCompleteTreeRow.holds Try.pinned (OpenSpec.ofChange fnExactCompleteTreeSpec)

/-- ITS FALSE NEIGHBOUR: 'it returns false'. Refute it at one input. -/
def fnExactCompleteTreeWrong : ChangeSpec := { name := "fnExactCompleteTree", fn := fun _ => fun
  | [d1, d2] => { results := [.lit (.bool false)], args := [d1, d2] }
  | _ => none }
def FnExactCompleteTreeWrongFalsely : Prop := fnExactCompleteTreeRow.holds Try.pinned (OpenSpec.ofChange fnExactCompleteTreeWrong)

/-- 'laws.FnExactIsRootedTree': WHATEVER THE INPUT: true; the input reads as it did. -/
def fnExactIsRootedTreeSpec : ChangeSpec := { name := "fnExactIsRootedTree", fn := fun _ => fun
  | [d1, d2] => { results := [.lit (.bool true)], args := [d1, d2] }
  | _ => none }
def fnExactIsRootedTreeRow : OpenClaim := { program := "ytnamiakelifpiaa", sum := "8195bb893e391bab48f1e0f6d9faa5c377be0018147e140e3cf508b845f9ab19", func := "loop.example/g01084/laws.FnExactIsRootedTree", spec := "fnExactIsRootedTree", unfollowed := true, recurses := true, apart := false }
def FnExactIsRootedTreeSaid : Prop := fnExactIsRootedTreeRow.holds Try.pinned (OpenSpec.ofChange fnExactIsRootedTreeSpec)

/-- ITS FALSE NEIGHBOUR: 'it returns false'. Refute it at one input. -/
def fnExactIsRootedTreeWrong : ChangeSpec := { name := "fnExactIsRootedTree", fn := fun _ => fun
  | [d1, d2] => { results := [.lit (.bool false)], args := [d1, d2] }
  | _ => none }
def FnExactIsRootedTreeWrongFalsely : Prop := fnExactIsRootedTreeRow.holds Try.pinned (OpenSpec.ofChange fnExactIsRootedTreeWrong)

/-- 'laws.FnExactGapsOf': WHATEVER THE INPUT: true; the input reads as it did. -/
def fnExactGapsOfSpec : ChangeSpec := { name := "fnExactGapsOf", fn := fun _ => fun
  | [d1, d2] => { results := [.lit (.bool true)], args := [d1, d2] }
  | _ => none }
def fnExactGapsOfRow : OpenClaim := { program := "ytnamiakelifpiaa", sum := "8195bb893e391bab48f1e0f6d9faa5c377be0018147e140e3cf508b845f9ab19", func := "loop.example/g01084/laws.FnExactGapsOf", spec := "fnExactGapsOf", apart := false }
def FnExactGapsOfSaid : Prop := fnExactGapsOfRow.holds Try.pinned (OpenSpec.ofChange fnExactGapsOfSpec)

/-- ITS FALSE NEIGHBOUR: 'it returns false'. Refute it at one input. -/
def fnExactGapsOfWrong : ChangeSpec := { name := "fnExactGapsOf", fn := fun _ => fun
  | [d1, d2] => { results := [.lit (.bool false)], args := [d1, d2] }
  | _ => none }
def FnExactGapsOfWrongFalsely : Prop := fnExactGapsOfRow.holds Try.pinned (OpenSpec.ofChange fnExactGapsOfWrong)

/-- 'laws.FnExactCycleMarks': WHATEVER THE INPUT: true; the input reads as it did. -/
def fnExactCycleMarksSpec : ChangeSpec := { name := "fnExactCycleMarks", fn := fun _ => fun
  | [d] => { results := [.lit (.bool true)], args := [d] }
  | _ => none }
def fnExactCycleMarksRow : OpenClaim := { program := "ytnamiakelifpiaa", sum := "8195bb893e391bab48f1e0f6d9faa5c377be0018147e140e3cf508b845f9ab19", func := "loop.example/g01084/laws.FnExactCycleMarks", spec := "fnExactCycleMarks", unfollowed := true, recurses := true, apart := false }
def FnExactCycleMarksSaid : Prop := fnExactCycleMarksRow.holds Try.pinned (OpenSpec.ofChange fnExactCycleMarksSpec)

/-- ITS FALSE NEIGHBOUR: 'it returns false'. Refute it at one input. -/
def fnExactCycleMarksWrong : ChangeSpec := { name := "fnExactCycleMarks", fn := fun _ => fun
  | [d] => { results := [.lit (.bool false)], args := [d] }
  | _ => none }
def FnExactCycleMarksWrongFalsely : Prop := fnExactCycleMarksRow.holds Try.pinned (OpenSpec.ofChange fnExactCycleMarksWrong)

/-- 'laws.FnExactLeastRotation': WHATEVER THE INPUT: true; the input reads as it did. -/
def fnExactLeastRotationSpec : ChangeSpec := { name := "fnExactLeastRotation", fn := fun _ => fun
  | [d] => { results := [.lit (.bool true)], args := [d] }
  | _ => none }
def fnExactLeastRotationRow : OpenClaim := { program := "ytnamiakelifpiaa", sum := "8195bb893e391bab48f1e0f6d9faa5c377be0018147e140e3cf508b845f9ab19", func := "loop.example/g01084/laws.FnExactLeastRotation", spec := "fnExactLeastRotation", apart := false }
def FnExactLeastRotationSaid : Prop := fnExactLeastRotationRow.holds Try.pinned (OpenSpec.ofChange fnExactLeastRotationSpec)

/-- ITS FALSE NEIGHBOUR: 'it returns false'. Refute it at one input. -/
def fnExactLeastRotationWrong : ChangeSpec := { name := "fnExactLeastRotation", fn := fun _ => fun
  | [d] => { results := [.lit (.bool false)], args := [d] }
  | _ => none }
def FnExactLeastRotationWrongFalsely : Prop := fnExactLeastRotationRow.holds Try.pinned (OpenSpec.ofChange fnExactLeastRotationWrong)

/- THE SECOND FORM. 'bulk': how many values and letters a reading holds, each counted each time it is reached (what is shared counts as often as it is met; a slice's spare places count too). A statement '..UptoSaid' is the law's where the arguments, and the package variables that the reading takes, are together of bulk at most 1048576: NARROWER than '..Said'. Prove '..Said' where nothing that the law and all that it calls make is longer than what came in: it says more and counts as full. Else prove '..UptoSaid'. A law counts once. -/
mutual
def uptoBulk {H : Type} : DataW H → Nat
  | .lit (.string bytes) => bytes.length + 1
  | .lit _ => 1
  | .nil => 1
  | .ptr d => uptoBulk d + 1
  | .slice elems spare => uptoBulkAll elems + uptoBulkAll spare + 1
  | .agg parts => uptoBulkAll parts + 1
  | .iface _ d => uptoBulk d + 1
  | .map entries => uptoBulkEntries entries + 1
  | .held _ => 1
def uptoBulkAll {H : Type} : List (DataW H) → Nat
  | [] => 0
  | d :: r => uptoBulk d + uptoBulkAll r
def uptoBulkEntries {H : Type} : List (Lit × DataW H) → Nat
  | [] => 0
  | x :: r => uptoBulkEntry x + uptoBulkEntries r
def uptoBulkEntry {H : Type} : Lit × DataW H → Nat
  | (.string bytes, d) => bytes.length + uptoBulk d + 1
  | (_, d) => uptoBulk d + 1
 end
def uptoSmall : (H : Type) → List (DataW H) → Bool := fun _ ds => decide (uptoBulkAll ds ≤ 1048576)
def OpenSpec.upto (s : _root_.Go.ChangeSpec) : _root_.Go.OpenSpec := { _root_.Go.OpenSpec.ofChange s with cond := some uptoSmall }

/-- 'laws.FnExactCompleteTree', WHERE WHAT IT READS IS OF BULK AT MOST 1048576: true; the input reads as it did. -/
def fnExactCompleteTreeUptoRow : OpenClaim := { program := "ytnamiakelifpiaa", sum := "8195bb893e391bab48f1e0f6d9faa5c377be0018147e140e3cf508b845f9ab19", func := "loop.example/g01084/laws.FnExactCompleteTree", spec := "fnExactCompleteTree", apart := false, narrowed := true }
def FnExactCompleteTreeUptoSaid : Prop := fnExactCompleteTreeUptoRow.holds Try.pinned (OpenSpec.upto fnExactCompleteTreeSpec)

/-- 'laws.FnExactIsRootedTree', WHERE WHAT IT READS IS OF BULK AT MOST 1048576: true; the input reads as it did. -/
def fnExactIsRootedTreeUptoRow : OpenClaim := { program := "ytnamiakelifpiaa", sum := "8195bb893e391bab48f1e0f6d9faa5c377be0018147e140e3cf508b845f9ab19", func := "loop.example/g01084/laws.FnExactIsRootedTree", spec := "fnExactIsRootedTree", unfollowed := true, recurses := true, apart := false, narrowed := true }
def FnExactIsRootedTreeUptoSaid : Prop := fnExactIsRootedTreeUptoRow.holds Try.pinned (OpenSpec.upto fnExactIsRootedTreeSpec)

/-- 'laws.FnExactGapsOf', WHERE WHAT IT READS IS OF BULK AT MOST 1048576: true; the input reads as it did. -/
def fnExactGapsOfUptoRow : OpenClaim := { program := "ytnamiakelifpiaa", sum := "8195bb893e391bab48f1e0f6d9faa5c377be0018147e140e3cf508b845f9ab19", func := "loop.example/g01084/laws.FnExactGapsOf", spec := "fnExactGapsOf", apart := false, narrowed := true }
def FnExactGapsOfUptoSaid : Prop := fnExactGapsOfUptoRow.holds Try.pinned (OpenSpec.upto fnExactGapsOfSpec)

/-- 'laws.FnExactCycleMarks', WHERE WHAT IT READS IS OF BULK AT MOST 1048576: true; the input reads as it did. -/
def fnExactCycleMarksUptoRow : OpenClaim := { program := "ytnamiakelifpiaa", sum := "8195bb893e391bab48f1e0f6d9faa5c377be0018147e140e3cf508b845f9ab19", func := "loop.example/g01084/laws.FnExactCycleMarks", spec := "fnExactCycleMarks", unfollowed := true, recurses := true, apart := false, narrowed := true }
def FnExactCycleMarksUptoSaid : Prop := fnExactCycleMarksUptoRow.holds Try.pinned (OpenSpec.upto fnExactCycleMarksSpec)

/-- 'laws.FnExactLeastRotation', WHERE WHAT IT READS IS OF BULK AT MOST 1048576: true; the input reads as it did. -/
def fnExactLeastRotationUptoRow : OpenClaim := { program := "ytnamiakelifpiaa", sum := "8195bb893e391bab48f1e0f6d9faa5c377be0018147e140e3cf508b845f9ab19", func := "loop.example/g01084/laws.FnExactLeastRotation", spec := "fnExactLeastRotation", apart := false, narrowed := true }
def FnExactLeastRotationUptoSaid : Prop := fnExactLeastRotationUptoRow.holds Try.pinned (OpenSpec.upto fnExactLeastRotationSpec)

end Rows
end Go.Proofs.Ytnamiakelifpiaa
