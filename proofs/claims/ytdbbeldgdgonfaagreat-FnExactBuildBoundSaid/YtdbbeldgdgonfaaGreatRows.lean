/-
  No cell of these rows narrows 'for every input' (looked for: loops, veiled, ifaces, maps, wideKeys, modest, calm, conditions, laid).
  DERIVED. THE GIVEN ROWS OF THIS SEAT. 6 by the template 'for every input the law returns true; each argument reads behind the call as it read before'; 0 by the template 'total and deterministic' (their statements: YtdbbeldgdgonfaaGreatTotals.lean).
  GIVEN WITH THE SEED: the statements are not yours to turn. If you find one false, say at which input.
  Laid BY PROGRAM, IN A SANDBOX (cutbox-rows.mjs): the forced cells as the released guide's own fill.sh prints them over the translation 0d0979186ae0569f… (all of the seat's roots in one cut). By AI agents, Wed Nov 11 2026. No macro, syntax, notation, axiom, sorry.
-/
import Derived.Test.YtdbbeldgdgonfaaGreatChecked
import GoSem.Claim
import GoSem.ClaimJoined
import GoSem.ClaimMapViews
import Derived.JoinedTies
import Derived.KernelRfl
namespace Go.Proofs.YtdbbeldgdgonfaaGreat
/- THE CELL 'sum', in the pinned program and in every row, IS THE sha256 OF THE DUMP (.gsa) THAT YtdbbeldgdgonfaaGreatProg.lean LOADS. Nothing in Lean hashes anything: it is a label: what it is worth is what the hold of that sum in a sandbox is worth. -/
noncomputable def Tryz.pinned : Pinned := { name := "ytdbbeldgdgonfaagreat", sum := "0d0979186ae0569f9ac85bb9a822ad30f57595bb3e1b6ae930788351fc8d9685", checked := Tryz.checked }
namespace Rows
def none {H : Type} : Left H := { results := [], args := [] }

/-- 'laws.FnExactLeastRounds': WHATEVER THE INPUT: true; the input reads as it did. -/
def fnExactLeastRoundsSpec : ChangeSpec := { name := "fnExactLeastRounds", fn := fun _ => fun
  | [d1, d2] => { results := [.lit (.bool true)], args := [d1, d2] }
  | _ => none }
def fnExactLeastRoundsRow : OpenClaim := { program := "ytdbbeldgdgonfaagreat", sum := "0d0979186ae0569f9ac85bb9a822ad30f57595bb3e1b6ae930788351fc8d9685", func := "loop.example/g01084/laws.FnExactLeastRounds", spec := "fnExactLeastRounds", unfollowed := true, recurses := true, apart := false }
def FnExactLeastRoundsSaid : Prop := fnExactLeastRoundsRow.holds Tryz.pinned (OpenSpec.ofChange fnExactLeastRoundsSpec)

/-- ITS FALSE NEIGHBOUR: 'it returns false'. Refute it at one input. -/
def fnExactLeastRoundsWrong : ChangeSpec := { name := "fnExactLeastRounds", fn := fun _ => fun
  | [d1, d2] => { results := [.lit (.bool false)], args := [d1, d2] }
  | _ => none }
def FnExactLeastRoundsWrongFalsely : Prop := fnExactLeastRoundsRow.holds Tryz.pinned (OpenSpec.ofChange fnExactLeastRoundsWrong)

/-- 'laws.FnExactEliminateTimes': WHATEVER THE INPUT: true; the input reads as it did. -/
def fnExactEliminateTimesSpec : ChangeSpec := { name := "fnExactEliminateTimes", fn := fun _ => fun
  | [d1, d2] => { results := [.lit (.bool true)], args := [d1, d2] }
  | _ => none }
def fnExactEliminateTimesRow : OpenClaim := { program := "ytdbbeldgdgonfaagreat", sum := "0d0979186ae0569f9ac85bb9a822ad30f57595bb3e1b6ae930788351fc8d9685", func := "loop.example/g01084/laws.FnExactEliminateTimes", spec := "fnExactEliminateTimes", unfollowed := true, recurses := true, apart := false }
def FnExactEliminateTimesSaid : Prop := fnExactEliminateTimesRow.holds Tryz.pinned (OpenSpec.ofChange fnExactEliminateTimesSpec)

/-- ITS FALSE NEIGHBOUR: 'it returns false'. Refute it at one input. -/
def fnExactEliminateTimesWrong : ChangeSpec := { name := "fnExactEliminateTimes", fn := fun _ => fun
  | [d1, d2] => { results := [.lit (.bool false)], args := [d1, d2] }
  | _ => none }
def FnExactEliminateTimesWrongFalsely : Prop := fnExactEliminateTimesRow.holds Tryz.pinned (OpenSpec.ofChange fnExactEliminateTimesWrong)

/-- 'laws.FnExactIsFixedPoint': WHATEVER THE INPUT: true; the input reads as it did. -/
def fnExactIsFixedPointSpec : ChangeSpec := { name := "fnExactIsFixedPoint", fn := fun _ => fun
  | [d] => { results := [.lit (.bool true)], args := [d] }
  | _ => none }
def fnExactIsFixedPointRow : OpenClaim := { program := "ytdbbeldgdgonfaagreat", sum := "0d0979186ae0569f9ac85bb9a822ad30f57595bb3e1b6ae930788351fc8d9685", func := "loop.example/g01084/laws.FnExactIsFixedPoint", spec := "fnExactIsFixedPoint", unfollowed := true, recurses := true, apart := false }
def FnExactIsFixedPointSaid : Prop := fnExactIsFixedPointRow.holds Tryz.pinned (OpenSpec.ofChange fnExactIsFixedPointSpec)

/-- ITS FALSE NEIGHBOUR: 'it returns false'. Refute it at one input. -/
def fnExactIsFixedPointWrong : ChangeSpec := { name := "fnExactIsFixedPoint", fn := fun _ => fun
  | [d] => { results := [.lit (.bool false)], args := [d] }
  | _ => none }
def FnExactIsFixedPointWrongFalsely : Prop := fnExactIsFixedPointRow.holds Tryz.pinned (OpenSpec.ofChange fnExactIsFixedPointWrong)

/-- 'laws.FnExactEndlessOf': WHATEVER THE INPUT: true; the input reads as it did. -/
def fnExactEndlessOfSpec : ChangeSpec := { name := "fnExactEndlessOf", fn := fun _ => fun
  | [d] => { results := [.lit (.bool true)], args := [d] }
  | _ => none }
def fnExactEndlessOfRow : OpenClaim := { program := "ytdbbeldgdgonfaagreat", sum := "0d0979186ae0569f9ac85bb9a822ad30f57595bb3e1b6ae930788351fc8d9685", func := "loop.example/g01084/laws.FnExactEndlessOf", spec := "fnExactEndlessOf", unfollowed := true, recurses := true, apart := false }
def FnExactEndlessOfSaid : Prop := fnExactEndlessOfRow.holds Tryz.pinned (OpenSpec.ofChange fnExactEndlessOfSpec)

/-- ITS FALSE NEIGHBOUR: 'it returns false'. Refute it at one input. -/
def fnExactEndlessOfWrong : ChangeSpec := { name := "fnExactEndlessOf", fn := fun _ => fun
  | [d] => { results := [.lit (.bool false)], args := [d] }
  | _ => none }
def FnExactEndlessOfWrongFalsely : Prop := fnExactEndlessOfRow.holds Tryz.pinned (OpenSpec.ofChange fnExactEndlessOfWrong)

/-- 'laws.FnExactBuildBound': WHATEVER THE INPUT: true; the input reads as it did. -/
def fnExactBuildBoundSpec : ChangeSpec := { name := "fnExactBuildBound", fn := fun _ => fun
  | [d] => { results := [.lit (.bool true)], args := [d] }
  | _ => none }
def fnExactBuildBoundRow : OpenClaim := { program := "ytdbbeldgdgonfaagreat", sum := "0d0979186ae0569f9ac85bb9a822ad30f57595bb3e1b6ae930788351fc8d9685", func := "loop.example/g01084/laws.FnExactBuildBound", spec := "fnExactBuildBound", unfollowed := true, recurses := true, apart := false }
def FnExactBuildBoundSaid : Prop := fnExactBuildBoundRow.holds Tryz.pinned (OpenSpec.ofChange fnExactBuildBoundSpec)

/-- ITS FALSE NEIGHBOUR: 'it returns false'. Refute it at one input. -/
def fnExactBuildBoundWrong : ChangeSpec := { name := "fnExactBuildBound", fn := fun _ => fun
  | [d] => { results := [.lit (.bool false)], args := [d] }
  | _ => none }
def FnExactBuildBoundWrongFalsely : Prop := fnExactBuildBoundRow.holds Tryz.pinned (OpenSpec.ofChange fnExactBuildBoundWrong)

/-- 'laws.FnExactGreedyBound': WHATEVER THE INPUT: true; the input reads as it did. -/
def fnExactGreedyBoundSpec : ChangeSpec := { name := "fnExactGreedyBound", fn := fun _ => fun
  | [d1, d2] => { results := [.lit (.bool true)], args := [d1, d2] }
  | _ => none }
def fnExactGreedyBoundRow : OpenClaim := { program := "ytdbbeldgdgonfaagreat", sum := "0d0979186ae0569f9ac85bb9a822ad30f57595bb3e1b6ae930788351fc8d9685", func := "loop.example/g01084/laws.FnExactGreedyBound", spec := "fnExactGreedyBound", unfollowed := true, recurses := true, apart := false }
def FnExactGreedyBoundSaid : Prop := fnExactGreedyBoundRow.holds Tryz.pinned (OpenSpec.ofChange fnExactGreedyBoundSpec)

/-- ITS FALSE NEIGHBOUR: 'it returns false'. Refute it at one input. -/
def fnExactGreedyBoundWrong : ChangeSpec := { name := "fnExactGreedyBound", fn := fun _ => fun
  | [d1, d2] => { results := [.lit (.bool false)], args := [d1, d2] }
  | _ => none }
def FnExactGreedyBoundWrongFalsely : Prop := fnExactGreedyBoundRow.holds Tryz.pinned (OpenSpec.ofChange fnExactGreedyBoundWrong)

/- THE SECOND FORM. 'bulk': how many values and letters a reading holds, each counted each time it is reached (what is shared counts as often as it is met; a slice's spare places count too). A statement '..UptoSaid' is the law's where the arguments, and the package variables that the reading takes, are together of bulk at most 1048576: NARROWER than '..Said'. Prove '..Said' where nothing that the law and all that it calls make is longer than what came in: it says more and counts as full. Else prove '..UptoSaid'. A law counts once. -/
mutual
def uptoBulk {H : Type} : DataW H → Nat
  | .lit (.string bytes) => bytes.length + 1
  | .lit _ => 1
  | .nil => 1
  | .ptr d => uptoBulk d + 1
  | .slice elems spare => uptoBulkAll elems + uptoBulkAll spare + 1
  | .agg parts => uptoBulkAll parts + 1
  | .iface _ d => uptoBulk d + 1
  | .map entries => uptoBulkEntries entries + 1
  | .held _ => 1
def uptoBulkAll {H : Type} : List (DataW H) → Nat
  | [] => 0
  | d :: r => uptoBulk d + uptoBulkAll r
def uptoBulkEntries {H : Type} : List (Lit × DataW H) → Nat
  | [] => 0
  | x :: r => uptoBulkEntry x + uptoBulkEntries r
def uptoBulkEntry {H : Type} : Lit × DataW H → Nat
  | (.string bytes, d) => bytes.length + uptoBulk d + 1
  | (_, d) => uptoBulk d + 1
 end
def uptoSmall : (H : Type) → List (DataW H) → Bool := fun _ ds => decide (uptoBulkAll ds ≤ 1048576)
def OpenSpec.upto (s : _root_.Go.ChangeSpec) : _root_.Go.OpenSpec := { _root_.Go.OpenSpec.ofChange s with cond := some uptoSmall }

/-- 'laws.FnExactLeastRounds', WHERE WHAT IT READS IS OF BULK AT MOST 1048576: true; the input reads as it did. -/
def fnExactLeastRoundsUptoRow : OpenClaim := { program := "ytdbbeldgdgonfaagreat", sum := "0d0979186ae0569f9ac85bb9a822ad30f57595bb3e1b6ae930788351fc8d9685", func := "loop.example/g01084/laws.FnExactLeastRounds", spec := "fnExactLeastRounds", unfollowed := true, recurses := true, apart := false, narrowed := true }
def FnExactLeastRoundsUptoSaid : Prop := fnExactLeastRoundsUptoRow.holds Tryz.pinned (OpenSpec.upto fnExactLeastRoundsSpec)

/-- 'laws.FnExactEliminateTimes', WHERE WHAT IT READS IS OF BULK AT MOST 1048576: true; the input reads as it did. -/
def fnExactEliminateTimesUptoRow : OpenClaim := { program := "ytdbbeldgdgonfaagreat", sum := "0d0979186ae0569f9ac85bb9a822ad30f57595bb3e1b6ae930788351fc8d9685", func := "loop.example/g01084/laws.FnExactEliminateTimes", spec := "fnExactEliminateTimes", unfollowed := true, recurses := true, apart := false, narrowed := true }
def FnExactEliminateTimesUptoSaid : Prop := fnExactEliminateTimesUptoRow.holds Tryz.pinned (OpenSpec.upto fnExactEliminateTimesSpec)

/-- 'laws.FnExactIsFixedPoint', WHERE WHAT IT READS IS OF BULK AT MOST 1048576: true; the input reads as it did. -/
def fnExactIsFixedPointUptoRow : OpenClaim := { program := "ytdbbeldgdgonfaagreat", sum := "0d0979186ae0569f9ac85bb9a822ad30f57595bb3e1b6ae930788351fc8d9685", func := "loop.example/g01084/laws.FnExactIsFixedPoint", spec := "fnExactIsFixedPoint", unfollowed := true, recurses := true, apart := false, narrowed := true }
def FnExactIsFixedPointUptoSaid : Prop := fnExactIsFixedPointUptoRow.holds Tryz.pinned (OpenSpec.upto fnExactIsFixedPointSpec)

/-- 'laws.FnExactEndlessOf', WHERE WHAT IT READS IS OF BULK AT MOST 1048576: true; the input reads as it did. -/
def fnExactEndlessOfUptoRow : OpenClaim := { program := "ytdbbeldgdgonfaagreat", sum := "0d0979186ae0569f9ac85bb9a822ad30f57595bb3e1b6ae930788351fc8d9685", func := "loop.example/g01084/laws.FnExactEndlessOf", spec := "fnExactEndlessOf", unfollowed := true, recurses := true, apart := false, narrowed := true }
def FnExactEndlessOfUptoSaid : Prop := fnExactEndlessOfUptoRow.holds Tryz.pinned (OpenSpec.upto fnExactEndlessOfSpec)

/-- 'laws.FnExactBuildBound', WHERE WHAT IT READS IS OF BULK AT MOST 1048576: true; the input reads as it did. -/
def fnExactBuildBoundUptoRow : OpenClaim := { program := "ytdbbeldgdgonfaagreat", sum := "0d0979186ae0569f9ac85bb9a822ad30f57595bb3e1b6ae930788351fc8d9685", func := "loop.example/g01084/laws.FnExactBuildBound", spec := "fnExactBuildBound", unfollowed := true, recurses := true, apart := false, narrowed := true }
def FnExactBuildBoundUptoSaid : Prop := fnExactBuildBoundUptoRow.holds Tryz.pinned (OpenSpec.upto fnExactBuildBoundSpec)

/-- 'laws.FnExactGreedyBound', WHERE WHAT IT READS IS OF BULK AT MOST 1048576: true; the input reads as it did. -/
def fnExactGreedyBoundUptoRow : OpenClaim := { program := "ytdbbeldgdgonfaagreat", sum := "0d0979186ae0569f9ac85bb9a822ad30f57595bb3e1b6ae930788351fc8d9685", func := "loop.example/g01084/laws.FnExactGreedyBound", spec := "fnExactGreedyBound", unfollowed := true, recurses := true, apart := false, narrowed := true }
def FnExactGreedyBoundUptoSaid : Prop := fnExactGreedyBoundUptoRow.holds Tryz.pinned (OpenSpec.upto fnExactGreedyBoundSpec)

end Rows
end Go.Proofs.YtdbbeldgdgonfaaGreat
