/-
  DERIVED. GIVEN WITH THE SEED: THE CARDS: each row of YthhpcledhflapaaDoorRows.lean that lists a variable, with what it lists TIED to the program's text (the seventh form; the later family's looks); each row that meets fmt, with fmt's text TOLD by the authors' own Lean function (tested against real Go, not proved from fmt's source: count such statements apart). THE CARD IS WHAT COUNTS. Prove the row's statement (the work); the ties are given (YthhpcledhflapaaDoorTie.lean); close each card by the builder's one call (the guide's Derived/Test/ToyasCard.lean, 'card_holds'). Laid BY PROGRAM, IN A SANDBOX (cutbox-door.mjs). By AI agents, Wed Nov 11 2026. No macro, syntax, notation, axiom, sorry.
-/
import Derived.Test.YthhpcledhflapaaDoorRows
import GoSem.ClaimSeven
namespace Go.Proofs.YthhpcledhflapaaDoor
namespace Rows

/-- THE TIED CARD OF 'laws.FnExactBitStep'. -/
def fnExactBitStepCard : Claim7 := { stood := { row := fnExactBitStepRow, standIns := [], harness := (true, "43f4c5ba94434668e2351340fd0f9fbac5bfe1aada51a43992303930be6dada7"), looks := false }, kinds := [], alts := [], laidByText := true, laidKinds := [.data], laidTests := true, laidLooks := .later }
def FnExactBitStepCardSaid : Prop := Claim7.holds Tryd.pinned (.plain (OpenSpec.ofChange fnExactBitStepSpec)) fnExactBitStepCard

/-- THE TIED CARD OF 'laws.FnExactThreeColours'. -/
def fnExactThreeColoursCard : Claim7 := { stood := { row := fnExactThreeColoursRow, standIns := [], harness := (true, "43f4c5ba94434668e2351340fd0f9fbac5bfe1aada51a43992303930be6dada7"), looks := false }, kinds := [], alts := [], laidByText := true, laidKinds := [.data], laidTests := true, laidLooks := .later }
def FnExactThreeColoursCardSaid : Prop := Claim7.holds Tryd.pinned (.plain (OpenSpec.ofChange fnExactThreeColoursSpec)) fnExactThreeColoursCard

/-- THE TIED CARD OF 'laws.FnExactSpacedMarks'. -/
def fnExactSpacedMarksCard : Claim7 := { stood := { row := fnExactSpacedMarksRow, standIns := [], harness := (true, "43f4c5ba94434668e2351340fd0f9fbac5bfe1aada51a43992303930be6dada7"), looks := false }, kinds := [], alts := [], laidByText := true, laidKinds := [.data], laidTests := true, laidLooks := .later }
def FnExactSpacedMarksCardSaid : Prop := Claim7.holds Tryd.pinned (.plain (OpenSpec.ofChange fnExactSpacedMarksSpec)) fnExactSpacedMarksCard

/-- THE TIED CARD OF 'laws.FnExactRootedText'. -/
def fnExactRootedTextCard : Claim7 := { stood := { row := fnExactRootedTextRow, standIns := [], harness := (true, "43f4c5ba94434668e2351340fd0f9fbac5bfe1aada51a43992303930be6dada7"), looks := false }, kinds := [], alts := [], laidByText := true, laidKinds := [.data, .data, .data], laidTests := true, laidLooks := .later }
def FnExactRootedTextCardSaid : Prop := Claim7.holds Tryd.pinned (.plain (OpenSpec.ofChange fnExactRootedTextSpec)) fnExactRootedTextCard

/-- THE SECOND FORM's CARD OF 'laws.FnExactBitStep'. -/
def fnExactBitStepUptoCard : Claim7 := { stood := { row := fnExactBitStepUptoRow, standIns := [], harness := (true, "43f4c5ba94434668e2351340fd0f9fbac5bfe1aada51a43992303930be6dada7"), looks := false }, kinds := [], alts := [], laidByText := true, laidKinds := [.data], laidTests := true, laidLooks := .later }
def FnExactBitStepUptoCardSaid : Prop := Claim7.holds Tryd.pinned (.plain (OpenSpec.upto fnExactBitStepSpec)) fnExactBitStepUptoCard

/-- THE SECOND FORM's CARD OF 'laws.FnExactThreeColours'. -/
def fnExactThreeColoursUptoCard : Claim7 := { stood := { row := fnExactThreeColoursUptoRow, standIns := [], harness := (true, "43f4c5ba94434668e2351340fd0f9fbac5bfe1aada51a43992303930be6dada7"), looks := false }, kinds := [], alts := [], laidByText := true, laidKinds := [.data], laidTests := true, laidLooks := .later }
def FnExactThreeColoursUptoCardSaid : Prop := Claim7.holds Tryd.pinned (.plain (OpenSpec.upto fnExactThreeColoursSpec)) fnExactThreeColoursUptoCard

/-- THE SECOND FORM's CARD OF 'laws.FnExactSpacedMarks'. -/
def fnExactSpacedMarksUptoCard : Claim7 := { stood := { row := fnExactSpacedMarksUptoRow, standIns := [], harness := (true, "43f4c5ba94434668e2351340fd0f9fbac5bfe1aada51a43992303930be6dada7"), looks := false }, kinds := [], alts := [], laidByText := true, laidKinds := [.data], laidTests := true, laidLooks := .later }
def FnExactSpacedMarksUptoCardSaid : Prop := Claim7.holds Tryd.pinned (.plain (OpenSpec.upto fnExactSpacedMarksSpec)) fnExactSpacedMarksUptoCard

/-- THE SECOND FORM's CARD OF 'laws.FnExactRootedText'. -/
def fnExactRootedTextUptoCard : Claim7 := { stood := { row := fnExactRootedTextUptoRow, standIns := [], harness := (true, "43f4c5ba94434668e2351340fd0f9fbac5bfe1aada51a43992303930be6dada7"), looks := false }, kinds := [], alts := [], laidByText := true, laidKinds := [.data, .data, .data], laidTests := true, laidLooks := .later }
def FnExactRootedTextUptoCardSaid : Prop := Claim7.holds Tryd.pinned (.plain (OpenSpec.upto fnExactRootedTextSpec)) fnExactRootedTextUptoCard
end Rows
end Go.Proofs.YthhpcledhflapaaDoor
