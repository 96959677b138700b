/-
  No cell of these rows narrows 'for every input' (looked for: loops, veiled, ifaces, maps, wideKeys, modest, calm, conditions, laid).
  DERIVED. THE GIVEN ROWS OF THIS SEAT. 10 by the template 'for every input the law returns true; each argument reads behind the call as it read before'; 0 by the template 'total and deterministic' (their statements: YtijaojnaamkinaaTotals.lean).
  GIVEN WITH THE SEED: the statements are not yours to turn. If you find one false, say at which input.
  Laid BY PROGRAM, IN A SANDBOX (cutbox-rows.mjs): the forced cells as the released guide's own fill.sh prints them over the translation 7eda5333e7251da7… (all of the seat's roots in one cut). By AI agents, Wed Nov 11 2026. No macro, syntax, notation, axiom, sorry.
-/
import Derived.Test.YtijaojnaamkinaaChecked
import GoSem.Claim
import GoSem.ClaimJoined
import GoSem.ClaimMapViews
import Derived.JoinedTies
import Derived.KernelRfl
namespace Go.Proofs.Ytijaojnaamkinaa
/- THE CELL 'sum', in the pinned program and in every row, IS THE sha256 OF THE DUMP (.gsa) THAT YtijaojnaamkinaaProg.lean LOADS. Nothing in Lean hashes anything: it is a label: what it is worth is what the hold of that sum in a sandbox is worth. -/
noncomputable def Try.pinned : Pinned := { name := "ytijaojnaamkinaa", sum := "7eda5333e7251da7d16ca7157689cc234f27304aa54a3204ca17ef7ede8d2280", checked := Try.checked }
namespace Rows
def none {H : Type} : Left H := { results := [], args := [] }

/-- 'laws.FnExactSameRoots': WHATEVER THE INPUT: true; the input reads as it did. -/
def fnExactSameRootsSpec : ChangeSpec := { name := "fnExactSameRoots", fn := fun _ => fun
  | [d1, d2, d3, d4] => { results := [.lit (.bool true)], args := [d1, d2, d3, d4] }
  | _ => none }
def fnExactSameRootsRow : OpenClaim := { program := "ytijaojnaamkinaa", sum := "7eda5333e7251da7d16ca7157689cc234f27304aa54a3204ca17ef7ede8d2280", func := "loop.example/g01084/laws.FnExactSameRoots", spec := "fnExactSameRoots", unfollowed := true, recurses := true, apart := false }
def FnExactSameRootsSaid : Prop := fnExactSameRootsRow.holds Try.pinned (OpenSpec.ofChange fnExactSameRootsSpec)

/-- ITS FALSE NEIGHBOUR: 'it returns false'. Refute it at one input. -/
def fnExactSameRootsWrong : ChangeSpec := { name := "fnExactSameRoots", fn := fun _ => fun
  | [d1, d2, d3, d4] => { results := [.lit (.bool false)], args := [d1, d2, d3, d4] }
  | _ => none }
def FnExactSameRootsWrongFalsely : Prop := fnExactSameRootsRow.holds Try.pinned (OpenSpec.ofChange fnExactSameRootsWrong)

/-- 'laws.FnExactCodeFrom': WHATEVER THE INPUT: true; the input reads as it did. -/
def fnExactCodeFromSpec : ChangeSpec := { name := "fnExactCodeFrom", fn := fun _ => fun
  | [d1, d2] => { results := [.lit (.bool true)], args := [d1, d2] }
  | _ => none }
def fnExactCodeFromRow : OpenClaim := { program := "ytijaojnaamkinaa", sum := "7eda5333e7251da7d16ca7157689cc234f27304aa54a3204ca17ef7ede8d2280", func := "loop.example/g01084/laws.FnExactCodeFrom", spec := "fnExactCodeFrom", unfollowed := true, recurses := true, apart := false }
def FnExactCodeFromSaid : Prop := fnExactCodeFromRow.holds Try.pinned (OpenSpec.ofChange fnExactCodeFromSpec)

/-- ITS FALSE NEIGHBOUR: 'it returns false'. Refute it at one input. -/
def fnExactCodeFromWrong : ChangeSpec := { name := "fnExactCodeFrom", fn := fun _ => fun
  | [d1, d2] => { results := [.lit (.bool false)], args := [d1, d2] }
  | _ => none }
def FnExactCodeFromWrongFalsely : Prop := fnExactCodeFromRow.holds Try.pinned (OpenSpec.ofChange fnExactCodeFromWrong)

/-- 'laws.FnExactPathForm': WHATEVER THE INPUT: true; the input reads as it did. -/
def fnExactPathFormSpec : ChangeSpec := { name := "fnExactPathForm", fn := fun _ => fun
  | [d] => { results := [.lit (.bool true)], args := [d] }
  | _ => none }
def fnExactPathFormRow : OpenClaim := { program := "ytijaojnaamkinaa", sum := "7eda5333e7251da7d16ca7157689cc234f27304aa54a3204ca17ef7ede8d2280", func := "loop.example/g01084/laws.FnExactPathForm", spec := "fnExactPathForm", unfollowed := true, recurses := true, apart := false }
def FnExactPathFormSaid : Prop := fnExactPathFormRow.holds Try.pinned (OpenSpec.ofChange fnExactPathFormSpec)

/-- ITS FALSE NEIGHBOUR: 'it returns false'. Refute it at one input. -/
def fnExactPathFormWrong : ChangeSpec := { name := "fnExactPathForm", fn := fun _ => fun
  | [d] => { results := [.lit (.bool false)], args := [d] }
  | _ => none }
def FnExactPathFormWrongFalsely : Prop := fnExactPathFormRow.holds Try.pinned (OpenSpec.ofChange fnExactPathFormWrong)

/-- 'laws.FnExactOrbitsOf': WHATEVER THE INPUT: true; the input reads as it did. -/
def fnExactOrbitsOfSpec : ChangeSpec := { name := "fnExactOrbitsOf", fn := fun _ => fun
  | [d] => { results := [.lit (.bool true)], args := [d] }
  | _ => none }
def fnExactOrbitsOfRow : OpenClaim := { program := "ytijaojnaamkinaa", sum := "7eda5333e7251da7d16ca7157689cc234f27304aa54a3204ca17ef7ede8d2280", func := "loop.example/g01084/laws.FnExactOrbitsOf", spec := "fnExactOrbitsOf", unfollowed := true, recurses := true, apart := false }
def FnExactOrbitsOfSaid : Prop := fnExactOrbitsOfRow.holds Try.pinned (OpenSpec.ofChange fnExactOrbitsOfSpec)

/-- ITS FALSE NEIGHBOUR: 'it returns false'. Refute it at one input. -/
def fnExactOrbitsOfWrong : ChangeSpec := { name := "fnExactOrbitsOf", fn := fun _ => fun
  | [d] => { results := [.lit (.bool false)], args := [d] }
  | _ => none }
def FnExactOrbitsOfWrongFalsely : Prop := fnExactOrbitsOfRow.holds Try.pinned (OpenSpec.ofChange fnExactOrbitsOfWrong)

/-- 'laws.FnExactFixedNodes': WHATEVER THE INPUT: true; the input reads as it did. -/
def fnExactFixedNodesSpec : ChangeSpec := { name := "fnExactFixedNodes", fn := fun _ => fun
  | [d] => { results := [.lit (.bool true)], args := [d] }
  | _ => none }
def fnExactFixedNodesRow : OpenClaim := { program := "ytijaojnaamkinaa", sum := "7eda5333e7251da7d16ca7157689cc234f27304aa54a3204ca17ef7ede8d2280", func := "loop.example/g01084/laws.FnExactFixedNodes", spec := "fnExactFixedNodes", unfollowed := true, recurses := true, apart := false }
def FnExactFixedNodesSaid : Prop := fnExactFixedNodesRow.holds Try.pinned (OpenSpec.ofChange fnExactFixedNodesSpec)

/-- ITS FALSE NEIGHBOUR: 'it returns false'. Refute it at one input. -/
def fnExactFixedNodesWrong : ChangeSpec := { name := "fnExactFixedNodes", fn := fun _ => fun
  | [d] => { results := [.lit (.bool false)], args := [d] }
  | _ => none }
def FnExactFixedNodesWrongFalsely : Prop := fnExactFixedNodesRow.holds Try.pinned (OpenSpec.ofChange fnExactFixedNodesWrong)

/-- 'laws.FnExactIsLabeling': WHATEVER THE INPUT: true; the input reads as it did. -/
def fnExactIsLabelingSpec : ChangeSpec := { name := "fnExactIsLabeling", fn := fun _ => fun
  | [d1, d2, d3] => { results := [.lit (.bool true)], args := [d1, d2, d3] }
  | _ => none }
def fnExactIsLabelingRow : OpenClaim := { program := "ytijaojnaamkinaa", sum := "7eda5333e7251da7d16ca7157689cc234f27304aa54a3204ca17ef7ede8d2280", func := "loop.example/g01084/laws.FnExactIsLabeling", spec := "fnExactIsLabeling", unfollowed := true, recurses := true, apart := false }
def FnExactIsLabelingSaid : Prop := fnExactIsLabelingRow.holds Try.pinned (OpenSpec.ofChange fnExactIsLabelingSpec)

/-- ITS FALSE NEIGHBOUR: 'it returns false'. Refute it at one input. -/
def fnExactIsLabelingWrong : ChangeSpec := { name := "fnExactIsLabeling", fn := fun _ => fun
  | [d1, d2, d3] => { results := [.lit (.bool false)], args := [d1, d2, d3] }
  | _ => none }
def FnExactIsLabelingWrongFalsely : Prop := fnExactIsLabelingRow.holds Try.pinned (OpenSpec.ofChange fnExactIsLabelingWrong)

/-- 'laws.FnExactSameNetworks': WHATEVER THE INPUT: true; the input reads as it did. -/
def fnExactSameNetworksSpec : ChangeSpec := { name := "fnExactSameNetworks", fn := fun _ => fun
  | [d1, d2] => { results := [.lit (.bool true)], args := [d1, d2] }
  | _ => none }
def fnExactSameNetworksRow : OpenClaim := { program := "ytijaojnaamkinaa", sum := "7eda5333e7251da7d16ca7157689cc234f27304aa54a3204ca17ef7ede8d2280", func := "loop.example/g01084/laws.FnExactSameNetworks", spec := "fnExactSameNetworks", unfollowed := true, recurses := true, apart := false }
def FnExactSameNetworksSaid : Prop := fnExactSameNetworksRow.holds Try.pinned (OpenSpec.ofChange fnExactSameNetworksSpec)

/-- ITS FALSE NEIGHBOUR: 'it returns false'. Refute it at one input. -/
def fnExactSameNetworksWrong : ChangeSpec := { name := "fnExactSameNetworks", fn := fun _ => fun
  | [d1, d2] => { results := [.lit (.bool false)], args := [d1, d2] }
  | _ => none }
def FnExactSameNetworksWrongFalsely : Prop := fnExactSameNetworksRow.holds Try.pinned (OpenSpec.ofChange fnExactSameNetworksWrong)

/-- 'laws.FnExactIsomorphismOf': WHATEVER THE INPUT: true; the input reads as it did. -/
def fnExactIsomorphismOfSpec : ChangeSpec := { name := "fnExactIsomorphismOf", fn := fun _ => fun
  | [d1, d2] => { results := [.lit (.bool true)], args := [d1, d2] }
  | _ => none }
def fnExactIsomorphismOfRow : OpenClaim := { program := "ytijaojnaamkinaa", sum := "7eda5333e7251da7d16ca7157689cc234f27304aa54a3204ca17ef7ede8d2280", func := "loop.example/g01084/laws.FnExactIsomorphismOf", spec := "fnExactIsomorphismOf", unfollowed := true, recurses := true, apart := false }
def FnExactIsomorphismOfSaid : Prop := fnExactIsomorphismOfRow.holds Try.pinned (OpenSpec.ofChange fnExactIsomorphismOfSpec)

/-- ITS FALSE NEIGHBOUR: 'it returns false'. Refute it at one input. -/
def fnExactIsomorphismOfWrong : ChangeSpec := { name := "fnExactIsomorphismOf", fn := fun _ => fun
  | [d1, d2] => { results := [.lit (.bool false)], args := [d1, d2] }
  | _ => none }
def FnExactIsomorphismOfWrongFalsely : Prop := fnExactIsomorphismOfRow.holds Try.pinned (OpenSpec.ofChange fnExactIsomorphismOfWrong)

/-- 'laws.FnExactImagesOf': WHATEVER THE INPUT: true; the input reads as it did. -/
def fnExactImagesOfSpec : ChangeSpec := { name := "fnExactImagesOf", fn := fun _ => fun
  | [d1, d2, d3] => { results := [.lit (.bool true)], args := [d1, d2, d3] }
  | _ => none }
def fnExactImagesOfRow : OpenClaim := { program := "ytijaojnaamkinaa", sum := "7eda5333e7251da7d16ca7157689cc234f27304aa54a3204ca17ef7ede8d2280", func := "loop.example/g01084/laws.FnExactImagesOf", spec := "fnExactImagesOf", unfollowed := true, recurses := true, apart := false }
def FnExactImagesOfSaid : Prop := fnExactImagesOfRow.holds Try.pinned (OpenSpec.ofChange fnExactImagesOfSpec)

/-- ITS FALSE NEIGHBOUR: 'it returns false'. Refute it at one input. -/
def fnExactImagesOfWrong : ChangeSpec := { name := "fnExactImagesOf", fn := fun _ => fun
  | [d1, d2, d3] => { results := [.lit (.bool false)], args := [d1, d2, d3] }
  | _ => none }
def FnExactImagesOfWrongFalsely : Prop := fnExactImagesOfRow.holds Try.pinned (OpenSpec.ofChange fnExactImagesOfWrong)

/-- 'laws.FnExactAutomorphismCount': WHATEVER THE INPUT: true; the input reads as it did. -/
def fnExactAutomorphismCountSpec : ChangeSpec := { name := "fnExactAutomorphismCount", fn := fun _ => fun
  | [d] => { results := [.lit (.bool true)], args := [d] }
  | _ => none }
def fnExactAutomorphismCountRow : OpenClaim := { program := "ytijaojnaamkinaa", sum := "7eda5333e7251da7d16ca7157689cc234f27304aa54a3204ca17ef7ede8d2280", func := "loop.example/g01084/laws.FnExactAutomorphismCount", spec := "fnExactAutomorphismCount", unfollowed := true, recurses := true, apart := false }
def FnExactAutomorphismCountSaid : Prop := fnExactAutomorphismCountRow.holds Try.pinned (OpenSpec.ofChange fnExactAutomorphismCountSpec)

/-- ITS FALSE NEIGHBOUR: 'it returns false'. Refute it at one input. -/
def fnExactAutomorphismCountWrong : ChangeSpec := { name := "fnExactAutomorphismCount", fn := fun _ => fun
  | [d] => { results := [.lit (.bool false)], args := [d] }
  | _ => none }
def FnExactAutomorphismCountWrongFalsely : Prop := fnExactAutomorphismCountRow.holds Try.pinned (OpenSpec.ofChange fnExactAutomorphismCountWrong)

/- THE SECOND FORM. 'bulk': how many values and letters a reading holds, each counted each time it is reached (what is shared counts as often as it is met; a slice's spare places count too). A statement '..UptoSaid' is the law's where the arguments, and the package variables that the reading takes, are together of bulk at most 1048576: NARROWER than '..Said'. Prove '..Said' where nothing that the law and all that it calls make is longer than what came in: it says more and counts as full. Else prove '..UptoSaid'. A law counts once. -/
mutual
def uptoBulk {H : Type} : DataW H → Nat
  | .lit (.string bytes) => bytes.length + 1
  | .lit _ => 1
  | .nil => 1
  | .ptr d => uptoBulk d + 1
  | .slice elems spare => uptoBulkAll elems + uptoBulkAll spare + 1
  | .agg parts => uptoBulkAll parts + 1
  | .iface _ d => uptoBulk d + 1
  | .map entries => uptoBulkEntries entries + 1
  | .held _ => 1
def uptoBulkAll {H : Type} : List (DataW H) → Nat
  | [] => 0
  | d :: r => uptoBulk d + uptoBulkAll r
def uptoBulkEntries {H : Type} : List (Lit × DataW H) → Nat
  | [] => 0
  | x :: r => uptoBulkEntry x + uptoBulkEntries r
def uptoBulkEntry {H : Type} : Lit × DataW H → Nat
  | (.string bytes, d) => bytes.length + uptoBulk d + 1
  | (_, d) => uptoBulk d + 1
 end
def uptoSmall : (H : Type) → List (DataW H) → Bool := fun _ ds => decide (uptoBulkAll ds ≤ 1048576)
def OpenSpec.upto (s : _root_.Go.ChangeSpec) : _root_.Go.OpenSpec := { _root_.Go.OpenSpec.ofChange s with cond := some uptoSmall }

/-- 'laws.FnExactSameRoots', WHERE WHAT IT READS IS OF BULK AT MOST 1048576: true; the input reads as it did. -/
def fnExactSameRootsUptoRow : OpenClaim := { program := "ytijaojnaamkinaa", sum := "7eda5333e7251da7d16ca7157689cc234f27304aa54a3204ca17ef7ede8d2280", func := "loop.example/g01084/laws.FnExactSameRoots", spec := "fnExactSameRoots", unfollowed := true, recurses := true, apart := false, narrowed := true }
def FnExactSameRootsUptoSaid : Prop := fnExactSameRootsUptoRow.holds Try.pinned (OpenSpec.upto fnExactSameRootsSpec)

/-- 'laws.FnExactCodeFrom', WHERE WHAT IT READS IS OF BULK AT MOST 1048576: true; the input reads as it did. -/
def fnExactCodeFromUptoRow : OpenClaim := { program := "ytijaojnaamkinaa", sum := "7eda5333e7251da7d16ca7157689cc234f27304aa54a3204ca17ef7ede8d2280", func := "loop.example/g01084/laws.FnExactCodeFrom", spec := "fnExactCodeFrom", unfollowed := true, recurses := true, apart := false, narrowed := true }
def FnExactCodeFromUptoSaid : Prop := fnExactCodeFromUptoRow.holds Try.pinned (OpenSpec.upto fnExactCodeFromSpec)

/-- 'laws.FnExactPathForm', WHERE WHAT IT READS IS OF BULK AT MOST 1048576: true; the input reads as it did. -/
def fnExactPathFormUptoRow : OpenClaim := { program := "ytijaojnaamkinaa", sum := "7eda5333e7251da7d16ca7157689cc234f27304aa54a3204ca17ef7ede8d2280", func := "loop.example/g01084/laws.FnExactPathForm", spec := "fnExactPathForm", unfollowed := true, recurses := true, apart := false, narrowed := true }
def FnExactPathFormUptoSaid : Prop := fnExactPathFormUptoRow.holds Try.pinned (OpenSpec.upto fnExactPathFormSpec)

/-- 'laws.FnExactOrbitsOf', WHERE WHAT IT READS IS OF BULK AT MOST 1048576: true; the input reads as it did. -/
def fnExactOrbitsOfUptoRow : OpenClaim := { program := "ytijaojnaamkinaa", sum := "7eda5333e7251da7d16ca7157689cc234f27304aa54a3204ca17ef7ede8d2280", func := "loop.example/g01084/laws.FnExactOrbitsOf", spec := "fnExactOrbitsOf", unfollowed := true, recurses := true, apart := false, narrowed := true }
def FnExactOrbitsOfUptoSaid : Prop := fnExactOrbitsOfUptoRow.holds Try.pinned (OpenSpec.upto fnExactOrbitsOfSpec)

/-- 'laws.FnExactFixedNodes', WHERE WHAT IT READS IS OF BULK AT MOST 1048576: true; the input reads as it did. -/
def fnExactFixedNodesUptoRow : OpenClaim := { program := "ytijaojnaamkinaa", sum := "7eda5333e7251da7d16ca7157689cc234f27304aa54a3204ca17ef7ede8d2280", func := "loop.example/g01084/laws.FnExactFixedNodes", spec := "fnExactFixedNodes", unfollowed := true, recurses := true, apart := false, narrowed := true }
def FnExactFixedNodesUptoSaid : Prop := fnExactFixedNodesUptoRow.holds Try.pinned (OpenSpec.upto fnExactFixedNodesSpec)

/-- 'laws.FnExactIsLabeling', WHERE WHAT IT READS IS OF BULK AT MOST 1048576: true; the input reads as it did. -/
def fnExactIsLabelingUptoRow : OpenClaim := { program := "ytijaojnaamkinaa", sum := "7eda5333e7251da7d16ca7157689cc234f27304aa54a3204ca17ef7ede8d2280", func := "loop.example/g01084/laws.FnExactIsLabeling", spec := "fnExactIsLabeling", unfollowed := true, recurses := true, apart := false, narrowed := true }
def FnExactIsLabelingUptoSaid : Prop := fnExactIsLabelingUptoRow.holds Try.pinned (OpenSpec.upto fnExactIsLabelingSpec)

/-- 'laws.FnExactSameNetworks', WHERE WHAT IT READS IS OF BULK AT MOST 1048576: true; the input reads as it did. -/
def fnExactSameNetworksUptoRow : OpenClaim := { program := "ytijaojnaamkinaa", sum := "7eda5333e7251da7d16ca7157689cc234f27304aa54a3204ca17ef7ede8d2280", func := "loop.example/g01084/laws.FnExactSameNetworks", spec := "fnExactSameNetworks", unfollowed := true, recurses := true, apart := false, narrowed := true }
def FnExactSameNetworksUptoSaid : Prop := fnExactSameNetworksUptoRow.holds Try.pinned (OpenSpec.upto fnExactSameNetworksSpec)

/-- 'laws.FnExactIsomorphismOf', WHERE WHAT IT READS IS OF BULK AT MOST 1048576: true; the input reads as it did. -/
def fnExactIsomorphismOfUptoRow : OpenClaim := { program := "ytijaojnaamkinaa", sum := "7eda5333e7251da7d16ca7157689cc234f27304aa54a3204ca17ef7ede8d2280", func := "loop.example/g01084/laws.FnExactIsomorphismOf", spec := "fnExactIsomorphismOf", unfollowed := true, recurses := true, apart := false, narrowed := true }
def FnExactIsomorphismOfUptoSaid : Prop := fnExactIsomorphismOfUptoRow.holds Try.pinned (OpenSpec.upto fnExactIsomorphismOfSpec)

/-- 'laws.FnExactImagesOf', WHERE WHAT IT READS IS OF BULK AT MOST 1048576: true; the input reads as it did. -/
def fnExactImagesOfUptoRow : OpenClaim := { program := "ytijaojnaamkinaa", sum := "7eda5333e7251da7d16ca7157689cc234f27304aa54a3204ca17ef7ede8d2280", func := "loop.example/g01084/laws.FnExactImagesOf", spec := "fnExactImagesOf", unfollowed := true, recurses := true, apart := false, narrowed := true }
def FnExactImagesOfUptoSaid : Prop := fnExactImagesOfUptoRow.holds Try.pinned (OpenSpec.upto fnExactImagesOfSpec)

/-- 'laws.FnExactAutomorphismCount', WHERE WHAT IT READS IS OF BULK AT MOST 1048576: true; the input reads as it did. -/
def fnExactAutomorphismCountUptoRow : OpenClaim := { program := "ytijaojnaamkinaa", sum := "7eda5333e7251da7d16ca7157689cc234f27304aa54a3204ca17ef7ede8d2280", func := "loop.example/g01084/laws.FnExactAutomorphismCount", spec := "fnExactAutomorphismCount", unfollowed := true, recurses := true, apart := false, narrowed := true }
def FnExactAutomorphismCountUptoSaid : Prop := fnExactAutomorphismCountUptoRow.holds Try.pinned (OpenSpec.upto fnExactAutomorphismCountSpec)

end Rows
end Go.Proofs.Ytijaojnaamkinaa
