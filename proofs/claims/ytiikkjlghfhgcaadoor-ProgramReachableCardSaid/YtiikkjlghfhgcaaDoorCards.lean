/-
  DERIVED. GIVEN WITH THE SEED: THE CARDS: each row of YtiikkjlghfhgcaaDoorRows.lean that lists a variable, with what it lists TIED to the program's text (the seventh form; the later family's looks); each row that meets fmt, with fmt's text TOLD by the authors' own Lean function (tested against real Go, not proved from fmt's source: count such statements apart). THE CARD IS WHAT COUNTS. Prove the row's statement (the work); the ties are given (YtiikkjlghfhgcaaDoorTie.lean); close each card by the builder's one call (the guide's Derived/Test/ToyasCard.lean, 'card_holds'). Laid BY PROGRAM, IN A SANDBOX (cutbox-door.mjs). By AI agents, Wed Nov 11 2026. No macro, syntax, notation, axiom, sorry.
-/
import Derived.Test.YtiikkjlghfhgcaaDoorRows
import GoSem.ClaimSeven
namespace Go.Proofs.YtiikkjlghfhgcaaDoor
namespace Rows

/-- THE TIED CARD OF 'modelchecklaw08.ProgramChecks'. -/
def programChecksCard : Claim7 := { stood := { row := programChecksRow, standIns := [], harness := (true, "9089e13614594ebb3e6a37f3cd82f06e77b1cdc8f908f54ff0872eae72edb087"), looks := false }, kinds := [], alts := [], laidByText := true, laidKinds := [.data, .data], laidTests := true, laidLooks := .later }
def ProgramChecksCardSaid : Prop := Claim7.holds Tryd.pinned (.plain (OpenSpec.ofChange programChecksSpec)) programChecksCard

/-- THE TIED CARD OF 'modelchecklaw08.ProgramConfigs'. -/
def programConfigsCard : Claim7 := { stood := { row := programConfigsRow, standIns := [], harness := (true, "9089e13614594ebb3e6a37f3cd82f06e77b1cdc8f908f54ff0872eae72edb087"), looks := false }, kinds := [], alts := [], laidByText := true, laidKinds := [.data, .data], laidTests := true, laidLooks := .later }
def ProgramConfigsCardSaid : Prop := Claim7.holds Tryd.pinned (.plain (OpenSpec.ofChange programConfigsSpec)) programConfigsCard

/-- THE TIED CARD OF 'modelchecklaw08.ProgramReaches'. -/
def programReachesCard : Claim7 := { stood := { row := programReachesRow, standIns := [], harness := (true, "9089e13614594ebb3e6a37f3cd82f06e77b1cdc8f908f54ff0872eae72edb087"), looks := false }, kinds := [], alts := [], laidByText := true, laidKinds := [.data, .data], laidTests := true, laidLooks := .later }
def ProgramReachesCardSaid : Prop := Claim7.holds Tryd.pinned (.plain (OpenSpec.ofChange programReachesSpec)) programReachesCard

/-- THE TIED CARD OF 'modelchecklaw08.ProgramReachable'. -/
def programReachableCard : Claim7 := { stood := { row := programReachableRow, standIns := [], harness := (true, "9089e13614594ebb3e6a37f3cd82f06e77b1cdc8f908f54ff0872eae72edb087"), looks := false }, kinds := [], alts := [], laidByText := true, laidKinds := [.data, .data], laidTests := true, laidLooks := .later }
def ProgramReachableCardSaid : Prop := Claim7.holds Tryd.pinned (.plain (OpenSpec.ofChange programReachableSpec)) programReachableCard

/-- THE TIED CARD OF 'modelchecklaw08.ProgramNames'. -/
def programNamesCard : Claim7 := { stood := { row := programNamesRow, standIns := [], harness := (true, "9089e13614594ebb3e6a37f3cd82f06e77b1cdc8f908f54ff0872eae72edb087"), looks := false }, kinds := [], alts := [], laidByText := true, laidKinds := [.data, .data], laidTests := true, laidLooks := .later }
def ProgramNamesCardSaid : Prop := Claim7.holds Tryd.pinned (.plain (OpenSpec.ofChange programNamesSpec)) programNamesCard

/-- THE TIED CARD OF 'modelchecklaw08.ProgramCopies'. -/
def programCopiesCard : Claim7 := { stood := { row := programCopiesRow, standIns := [], harness := (true, "9089e13614594ebb3e6a37f3cd82f06e77b1cdc8f908f54ff0872eae72edb087"), looks := false }, kinds := [], alts := [], laidByText := true, laidKinds := [.data, .data], laidTests := true, laidLooks := .later }
def ProgramCopiesCardSaid : Prop := Claim7.holds Tryd.pinned (.plain (OpenSpec.ofChange programCopiesSpec)) programCopiesCard

/-- THE SECOND FORM's CARD OF 'modelchecklaw08.ProgramChecks'. -/
def programChecksUptoCard : Claim7 := { stood := { row := programChecksUptoRow, standIns := [], harness := (true, "9089e13614594ebb3e6a37f3cd82f06e77b1cdc8f908f54ff0872eae72edb087"), looks := false }, kinds := [], alts := [], laidByText := true, laidKinds := [.data, .data], laidTests := true, laidLooks := .later }
def ProgramChecksUptoCardSaid : Prop := Claim7.holds Tryd.pinned (.plain (OpenSpec.upto programChecksSpec)) programChecksUptoCard

/-- THE SECOND FORM's CARD OF 'modelchecklaw08.ProgramConfigs'. -/
def programConfigsUptoCard : Claim7 := { stood := { row := programConfigsUptoRow, standIns := [], harness := (true, "9089e13614594ebb3e6a37f3cd82f06e77b1cdc8f908f54ff0872eae72edb087"), looks := false }, kinds := [], alts := [], laidByText := true, laidKinds := [.data, .data], laidTests := true, laidLooks := .later }
def ProgramConfigsUptoCardSaid : Prop := Claim7.holds Tryd.pinned (.plain (OpenSpec.upto programConfigsSpec)) programConfigsUptoCard

/-- THE SECOND FORM's CARD OF 'modelchecklaw08.ProgramReaches'. -/
def programReachesUptoCard : Claim7 := { stood := { row := programReachesUptoRow, standIns := [], harness := (true, "9089e13614594ebb3e6a37f3cd82f06e77b1cdc8f908f54ff0872eae72edb087"), looks := false }, kinds := [], alts := [], laidByText := true, laidKinds := [.data, .data], laidTests := true, laidLooks := .later }
def ProgramReachesUptoCardSaid : Prop := Claim7.holds Tryd.pinned (.plain (OpenSpec.upto programReachesSpec)) programReachesUptoCard

/-- THE SECOND FORM's CARD OF 'modelchecklaw08.ProgramReachable'. -/
def programReachableUptoCard : Claim7 := { stood := { row := programReachableUptoRow, standIns := [], harness := (true, "9089e13614594ebb3e6a37f3cd82f06e77b1cdc8f908f54ff0872eae72edb087"), looks := false }, kinds := [], alts := [], laidByText := true, laidKinds := [.data, .data], laidTests := true, laidLooks := .later }
def ProgramReachableUptoCardSaid : Prop := Claim7.holds Tryd.pinned (.plain (OpenSpec.upto programReachableSpec)) programReachableUptoCard

/-- THE SECOND FORM's CARD OF 'modelchecklaw08.ProgramNames'. -/
def programNamesUptoCard : Claim7 := { stood := { row := programNamesUptoRow, standIns := [], harness := (true, "9089e13614594ebb3e6a37f3cd82f06e77b1cdc8f908f54ff0872eae72edb087"), looks := false }, kinds := [], alts := [], laidByText := true, laidKinds := [.data, .data], laidTests := true, laidLooks := .later }
def ProgramNamesUptoCardSaid : Prop := Claim7.holds Tryd.pinned (.plain (OpenSpec.upto programNamesSpec)) programNamesUptoCard

/-- THE SECOND FORM's CARD OF 'modelchecklaw08.ProgramCopies'. -/
def programCopiesUptoCard : Claim7 := { stood := { row := programCopiesUptoRow, standIns := [], harness := (true, "9089e13614594ebb3e6a37f3cd82f06e77b1cdc8f908f54ff0872eae72edb087"), looks := false }, kinds := [], alts := [], laidByText := true, laidKinds := [.data, .data], laidTests := true, laidLooks := .later }
def ProgramCopiesUptoCardSaid : Prop := Claim7.holds Tryd.pinned (.plain (OpenSpec.upto programCopiesSpec)) programCopiesUptoCard
end Rows
end Go.Proofs.YtiikkjlghfhgcaaDoor
