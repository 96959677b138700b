/-
  No cell of these rows narrows 'for every input' (looked for: loops, veiled, ifaces, maps, wideKeys, modest, calm, conditions, laid).
  DERIVED. THE GIVEN ROWS OF THIS SEAT. 6 by the template 'for every input the law returns true; each argument reads behind the call as it read before'; 0 by the template 'total and deterministic' (their statements: YtffgdhbhlcifmaaTotals.lean).
  GIVEN WITH THE SEED: the statements are not yours to turn. If you find one false, say at which input.
  Laid BY PROGRAM, IN A SANDBOX (cutbox-rows.mjs): the forced cells as the released guide's own fill.sh prints them over the translation 5e1c93e8f614ef19… (all of the seat's roots in one cut). By AI agents, Wed Nov 11 2026. No macro, syntax, notation, axiom, sorry.
-/
import Derived.Test.YtffgdhbhlcifmaaChecked
import GoSem.Claim
import GoSem.ClaimJoined
import GoSem.ClaimMapViews
import Derived.JoinedTies
import Derived.KernelRfl
namespace Go.Proofs.Ytffgdhbhlcifmaa
/- THE CELL 'sum', in the pinned program and in every row, IS THE sha256 OF THE DUMP (.gsa) THAT YtffgdhbhlcifmaaProg.lean LOADS. Nothing in Lean hashes anything: it is a label: what it is worth is what the hold of that sum in a sandbox is worth. -/
noncomputable def Try.pinned : Pinned := { name := "ytffgdhbhlcifmaa", sum := "5e1c93e8f614ef19a0e3734ea754113419d3d0b5e60bc14db736e0e4983d5407", checked := Try.checked }
namespace Rows
def none {H : Type} : Left H := { results := [], args := [] }

/-- 'laws.FnExactWalkComponents': WHATEVER THE INPUT: true; the input reads as it did. -/
def fnExactWalkComponentsSpec : ChangeSpec := { name := "fnExactWalkComponents", fn := fun _ => fun
  | [d] => { results := [.lit (.bool true)], args := [d] }
  | _ => none }
def fnExactWalkComponentsRow : OpenClaim := { program := "ytffgdhbhlcifmaa", sum := "5e1c93e8f614ef19a0e3734ea754113419d3d0b5e60bc14db736e0e4983d5407", func := "loop.example/g01084/laws.FnExactWalkComponents", spec := "fnExactWalkComponents", unfollowed := true, recurses := true, apart := false }
def FnExactWalkComponentsSaid : Prop := fnExactWalkComponentsRow.holds Try.pinned (OpenSpec.ofChange fnExactWalkComponentsSpec)

/-- ITS FALSE NEIGHBOUR: 'it returns false'. Refute it at one input. -/
def fnExactWalkComponentsWrong : ChangeSpec := { name := "fnExactWalkComponents", fn := fun _ => fun
  | [d] => { results := [.lit (.bool false)], args := [d] }
  | _ => none }
def FnExactWalkComponentsWrongFalsely : Prop := fnExactWalkComponentsRow.holds Try.pinned (OpenSpec.ofChange fnExactWalkComponentsWrong)

/-- 'laws.FnExactCountRootedSolutions': WHATEVER THE INPUT: true; the input reads as it did. -/
def fnExactCountRootedSolutionsSpec : ChangeSpec := { name := "fnExactCountRootedSolutions", fn := fun _ => fun
  | [d1, d2] => { results := [.lit (.bool true)], args := [d1, d2] }
  | _ => none }
def fnExactCountRootedSolutionsRow : OpenClaim := { program := "ytffgdhbhlcifmaa", sum := "5e1c93e8f614ef19a0e3734ea754113419d3d0b5e60bc14db736e0e4983d5407", func := "loop.example/g01084/laws.FnExactCountRootedSolutions", spec := "fnExactCountRootedSolutions", unfollowed := true, recurses := true, apart := false }
def FnExactCountRootedSolutionsSaid : Prop := fnExactCountRootedSolutionsRow.holds Try.pinned (OpenSpec.ofChange fnExactCountRootedSolutionsSpec)

/-- ITS FALSE NEIGHBOUR: 'it returns false'. Refute it at one input. -/
def fnExactCountRootedSolutionsWrong : ChangeSpec := { name := "fnExactCountRootedSolutions", fn := fun _ => fun
  | [d1, d2] => { results := [.lit (.bool false)], args := [d1, d2] }
  | _ => none }
def FnExactCountRootedSolutionsWrongFalsely : Prop := fnExactCountRootedSolutionsRow.holds Try.pinned (OpenSpec.ofChange fnExactCountRootedSolutionsWrong)

/-- 'laws.FnExactCompleteRooted': WHATEVER THE INPUT: true; the input reads as it did. -/
def fnExactCompleteRootedSpec : ChangeSpec := { name := "fnExactCompleteRooted", fn := fun _ => fun
  | [d1, d2, d3] => { results := [.lit (.bool true)], args := [d1, d2, d3] }
  | _ => none }
def fnExactCompleteRootedRow : OpenClaim := { program := "ytffgdhbhlcifmaa", sum := "5e1c93e8f614ef19a0e3734ea754113419d3d0b5e60bc14db736e0e4983d5407", func := "loop.example/g01084/laws.FnExactCompleteRooted", spec := "fnExactCompleteRooted", unfollowed := true, recurses := true, apart := false }
def FnExactCompleteRootedSaid : Prop := fnExactCompleteRootedRow.holds Try.pinned (OpenSpec.ofChange fnExactCompleteRootedSpec)

/-- ITS FALSE NEIGHBOUR: 'it returns false'. Refute it at one input. -/
def fnExactCompleteRootedWrong : ChangeSpec := { name := "fnExactCompleteRooted", fn := fun _ => fun
  | [d1, d2, d3] => { results := [.lit (.bool false)], args := [d1, d2, d3] }
  | _ => none }
def FnExactCompleteRootedWrongFalsely : Prop := fnExactCompleteRootedRow.holds Try.pinned (OpenSpec.ofChange fnExactCompleteRootedWrong)

/-- 'laws.FnExactFlexibilityOf': WHATEVER THE INPUT: true; the input reads as it did. -/
def fnExactFlexibilityOfSpec : ChangeSpec := { name := "fnExactFlexibilityOf", fn := fun _ => fun
  | [d1, d2] => { results := [.lit (.bool true)], args := [d1, d2] }
  | _ => none }
def fnExactFlexibilityOfRow : OpenClaim := { program := "ytffgdhbhlcifmaa", sum := "5e1c93e8f614ef19a0e3734ea754113419d3d0b5e60bc14db736e0e4983d5407", func := "loop.example/g01084/laws.FnExactFlexibilityOf", spec := "fnExactFlexibilityOf", unfollowed := true, recurses := true, apart := false }
def FnExactFlexibilityOfSaid : Prop := fnExactFlexibilityOfRow.holds Try.pinned (OpenSpec.ofChange fnExactFlexibilityOfSpec)

/-- ITS FALSE NEIGHBOUR: 'it returns false'. Refute it at one input. -/
def fnExactFlexibilityOfWrong : ChangeSpec := { name := "fnExactFlexibilityOf", fn := fun _ => fun
  | [d1, d2] => { results := [.lit (.bool false)], args := [d1, d2] }
  | _ => none }
def FnExactFlexibilityOfWrongFalsely : Prop := fnExactFlexibilityOfRow.holds Try.pinned (OpenSpec.ofChange fnExactFlexibilityOfWrong)

/-- 'laws.FnExactFlexibleLabels': WHATEVER THE INPUT: true; the input reads as it did. -/
def fnExactFlexibleLabelsSpec : ChangeSpec := { name := "fnExactFlexibleLabels", fn := fun _ => fun
  | [d] => { results := [.lit (.bool true)], args := [d] }
  | _ => none }
def fnExactFlexibleLabelsRow : OpenClaim := { program := "ytffgdhbhlcifmaa", sum := "5e1c93e8f614ef19a0e3734ea754113419d3d0b5e60bc14db736e0e4983d5407", func := "loop.example/g01084/laws.FnExactFlexibleLabels", spec := "fnExactFlexibleLabels", unfollowed := true, recurses := true, apart := false }
def FnExactFlexibleLabelsSaid : Prop := fnExactFlexibleLabelsRow.holds Try.pinned (OpenSpec.ofChange fnExactFlexibleLabelsSpec)

/-- ITS FALSE NEIGHBOUR: 'it returns false'. Refute it at one input. -/
def fnExactFlexibleLabelsWrong : ChangeSpec := { name := "fnExactFlexibleLabels", fn := fun _ => fun
  | [d] => { results := [.lit (.bool false)], args := [d] }
  | _ => none }
def FnExactFlexibleLabelsWrongFalsely : Prop := fnExactFlexibleLabelsRow.holds Try.pinned (OpenSpec.ofChange fnExactFlexibleLabelsWrong)

/-- 'laws.FnExactClassOfWalk': WHATEVER THE INPUT: true; the input reads as it did. -/
def fnExactClassOfWalkSpec : ChangeSpec := { name := "fnExactClassOfWalk", fn := fun _ => fun
  | [d] => { results := [.lit (.bool true)], args := [d] }
  | _ => none }
def fnExactClassOfWalkRow : OpenClaim := { program := "ytffgdhbhlcifmaa", sum := "5e1c93e8f614ef19a0e3734ea754113419d3d0b5e60bc14db736e0e4983d5407", func := "loop.example/g01084/laws.FnExactClassOfWalk", spec := "fnExactClassOfWalk", unfollowed := true, recurses := true, apart := false }
def FnExactClassOfWalkSaid : Prop := fnExactClassOfWalkRow.holds Try.pinned (OpenSpec.ofChange fnExactClassOfWalkSpec)

/-- ITS FALSE NEIGHBOUR: 'it returns false'. Refute it at one input. -/
def fnExactClassOfWalkWrong : ChangeSpec := { name := "fnExactClassOfWalk", fn := fun _ => fun
  | [d] => { results := [.lit (.bool false)], args := [d] }
  | _ => none }
def FnExactClassOfWalkWrongFalsely : Prop := fnExactClassOfWalkRow.holds Try.pinned (OpenSpec.ofChange fnExactClassOfWalkWrong)

/- THE SECOND FORM. 'bulk': how many values and letters a reading holds, each counted each time it is reached (what is shared counts as often as it is met; a slice's spare places count too). A statement '..UptoSaid' is the law's where the arguments, and the package variables that the reading takes, are together of bulk at most 1048576: NARROWER than '..Said'. Prove '..Said' where nothing that the law and all that it calls make is longer than what came in: it says more and counts as full. Else prove '..UptoSaid'. A law counts once. -/
mutual
def uptoBulk {H : Type} : DataW H → Nat
  | .lit (.string bytes) => bytes.length + 1
  | .lit _ => 1
  | .nil => 1
  | .ptr d => uptoBulk d + 1
  | .slice elems spare => uptoBulkAll elems + uptoBulkAll spare + 1
  | .agg parts => uptoBulkAll parts + 1
  | .iface _ d => uptoBulk d + 1
  | .map entries => uptoBulkEntries entries + 1
  | .held _ => 1
def uptoBulkAll {H : Type} : List (DataW H) → Nat
  | [] => 0
  | d :: r => uptoBulk d + uptoBulkAll r
def uptoBulkEntries {H : Type} : List (Lit × DataW H) → Nat
  | [] => 0
  | x :: r => uptoBulkEntry x + uptoBulkEntries r
def uptoBulkEntry {H : Type} : Lit × DataW H → Nat
  | (.string bytes, d) => bytes.length + uptoBulk d + 1
  | (_, d) => uptoBulk d + 1
 end
def uptoSmall : (H : Type) → List (DataW H) → Bool := fun _ ds => decide (uptoBulkAll ds ≤ 1048576)
def OpenSpec.upto (s : _root_.Go.ChangeSpec) : _root_.Go.OpenSpec := { _root_.Go.OpenSpec.ofChange s with cond := some uptoSmall }

/-- 'laws.FnExactWalkComponents', WHERE WHAT IT READS IS OF BULK AT MOST 1048576: true; the input reads as it did. -/
def fnExactWalkComponentsUptoRow : OpenClaim := { program := "ytffgdhbhlcifmaa", sum := "5e1c93e8f614ef19a0e3734ea754113419d3d0b5e60bc14db736e0e4983d5407", func := "loop.example/g01084/laws.FnExactWalkComponents", spec := "fnExactWalkComponents", unfollowed := true, recurses := true, apart := false, narrowed := true }
def FnExactWalkComponentsUptoSaid : Prop := fnExactWalkComponentsUptoRow.holds Try.pinned (OpenSpec.upto fnExactWalkComponentsSpec)

/-- 'laws.FnExactCountRootedSolutions', WHERE WHAT IT READS IS OF BULK AT MOST 1048576: true; the input reads as it did. -/
def fnExactCountRootedSolutionsUptoRow : OpenClaim := { program := "ytffgdhbhlcifmaa", sum := "5e1c93e8f614ef19a0e3734ea754113419d3d0b5e60bc14db736e0e4983d5407", func := "loop.example/g01084/laws.FnExactCountRootedSolutions", spec := "fnExactCountRootedSolutions", unfollowed := true, recurses := true, apart := false, narrowed := true }
def FnExactCountRootedSolutionsUptoSaid : Prop := fnExactCountRootedSolutionsUptoRow.holds Try.pinned (OpenSpec.upto fnExactCountRootedSolutionsSpec)

/-- 'laws.FnExactCompleteRooted', WHERE WHAT IT READS IS OF BULK AT MOST 1048576: true; the input reads as it did. -/
def fnExactCompleteRootedUptoRow : OpenClaim := { program := "ytffgdhbhlcifmaa", sum := "5e1c93e8f614ef19a0e3734ea754113419d3d0b5e60bc14db736e0e4983d5407", func := "loop.example/g01084/laws.FnExactCompleteRooted", spec := "fnExactCompleteRooted", unfollowed := true, recurses := true, apart := false, narrowed := true }
def FnExactCompleteRootedUptoSaid : Prop := fnExactCompleteRootedUptoRow.holds Try.pinned (OpenSpec.upto fnExactCompleteRootedSpec)

/-- 'laws.FnExactFlexibilityOf', WHERE WHAT IT READS IS OF BULK AT MOST 1048576: true; the input reads as it did. -/
def fnExactFlexibilityOfUptoRow : OpenClaim := { program := "ytffgdhbhlcifmaa", sum := "5e1c93e8f614ef19a0e3734ea754113419d3d0b5e60bc14db736e0e4983d5407", func := "loop.example/g01084/laws.FnExactFlexibilityOf", spec := "fnExactFlexibilityOf", unfollowed := true, recurses := true, apart := false, narrowed := true }
def FnExactFlexibilityOfUptoSaid : Prop := fnExactFlexibilityOfUptoRow.holds Try.pinned (OpenSpec.upto fnExactFlexibilityOfSpec)

/-- 'laws.FnExactFlexibleLabels', WHERE WHAT IT READS IS OF BULK AT MOST 1048576: true; the input reads as it did. -/
def fnExactFlexibleLabelsUptoRow : OpenClaim := { program := "ytffgdhbhlcifmaa", sum := "5e1c93e8f614ef19a0e3734ea754113419d3d0b5e60bc14db736e0e4983d5407", func := "loop.example/g01084/laws.FnExactFlexibleLabels", spec := "fnExactFlexibleLabels", unfollowed := true, recurses := true, apart := false, narrowed := true }
def FnExactFlexibleLabelsUptoSaid : Prop := fnExactFlexibleLabelsUptoRow.holds Try.pinned (OpenSpec.upto fnExactFlexibleLabelsSpec)

/-- 'laws.FnExactClassOfWalk', WHERE WHAT IT READS IS OF BULK AT MOST 1048576: true; the input reads as it did. -/
def fnExactClassOfWalkUptoRow : OpenClaim := { program := "ytffgdhbhlcifmaa", sum := "5e1c93e8f614ef19a0e3734ea754113419d3d0b5e60bc14db736e0e4983d5407", func := "loop.example/g01084/laws.FnExactClassOfWalk", spec := "fnExactClassOfWalk", unfollowed := true, recurses := true, apart := false, narrowed := true }
def FnExactClassOfWalkUptoSaid : Prop := fnExactClassOfWalkUptoRow.holds Try.pinned (OpenSpec.upto fnExactClassOfWalkSpec)

end Rows
end Go.Proofs.Ytffgdhbhlcifmaa
