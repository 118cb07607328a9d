/-
  DERIVED. GIVEN WITH THE SEED: THE CARDS: each row of YtjhenjhcbcalpaaGreatDoorRows.lean that lists a variable, with what it lists TIED to the program's text (the seventh form; the later family's looks); each row that meets fmt, with fmt's text TOLD by the authors' own Lean function (tested against real Go, not proved from fmt's source: count such statements apart). THE CARD IS WHAT COUNTS. Prove the row's statement (the work); the ties are given (YtjhenjhcbcalpaaGreatDoorTie.lean); close each card by the builder's one call (the guide's Derived/Test/ToyasCard.lean, 'card_holds'). Laid BY PROGRAM, IN A SANDBOX (cutbox-door.mjs). By AI agents, Wed Nov 11 2026. No macro, syntax, notation, axiom, sorry.
-/
import Derived.Test.YtjhenjhcbcalpaaGreatDoorRows
import GoSem.ClaimSeven
namespace Go.Proofs.YtjhenjhcbcalpaaGreatDoor
namespace Rows

/-- THE TIED CARD OF 'modelchecklaw23.MachineStarts'. -/
def machineStartsCard : Claim7 := { stood := { row := machineStartsRow, standIns := [], harness := (true, "cdbc405089a4bd8c12cb21788da1dd4ec9ada7cf11f05a45a10b6c05c9720d00"), looks := false }, kinds := [], alts := [], laidByText := true, laidKinds := [.data, .data], laidTests := true, laidLooks := .later }
def MachineStartsCardSaid : Prop := Claim7.holds Tryz.pinned (.plain (OpenSpec.ofChange machineStartsSpec)) machineStartsCard

/-- THE TIED CARD OF 'modelchecklaw23.MachineLabels'. -/
def machineLabelsCard : Claim7 := { stood := { row := machineLabelsRow, standIns := [], harness := (true, "cdbc405089a4bd8c12cb21788da1dd4ec9ada7cf11f05a45a10b6c05c9720d00"), looks := false }, kinds := [], alts := [], laidByText := true, laidKinds := [.data, .data], laidTests := true, laidLooks := .later }
def MachineLabelsCardSaid : Prop := Claim7.holds Tryz.pinned (.plain (OpenSpec.ofChange machineLabelsSpec)) machineLabelsCard

/-- THE TIED CARD OF 'modelchecklaw23.MachineSteps'. -/
def machineStepsCard : Claim7 := { stood := { row := machineStepsRow, standIns := [], harness := (true, "cdbc405089a4bd8c12cb21788da1dd4ec9ada7cf11f05a45a10b6c05c9720d00"), looks := false }, kinds := [], alts := [], laidByText := true, laidKinds := [.data, .data], laidTests := true, laidLooks := .later }
def MachineStepsCardSaid : Prop := Claim7.holds Tryz.pinned (.plain (OpenSpec.ofChange machineStepsSpec)) machineStepsCard

/-- THE TIED CARD OF 'modelchecklaw23.MachineCopies'. -/
def machineCopiesCard : Claim7 := { stood := { row := machineCopiesRow, standIns := [], harness := (true, "cdbc405089a4bd8c12cb21788da1dd4ec9ada7cf11f05a45a10b6c05c9720d00"), looks := false }, kinds := [], alts := [], laidByText := true, laidKinds := [.data, .data], laidTests := true, laidLooks := .later }
def MachineCopiesCardSaid : Prop := Claim7.holds Tryz.pinned (.plain (OpenSpec.ofChange machineCopiesSpec)) machineCopiesCard

/-- THE TIED CARD OF 'modelchecklaw23.MachineReaches'. -/
def machineReachesCard : Claim7 := { stood := { row := machineReachesRow, standIns := [], harness := (true, "cdbc405089a4bd8c12cb21788da1dd4ec9ada7cf11f05a45a10b6c05c9720d00"), looks := false }, kinds := [], alts := [], laidByText := true, laidKinds := [.data, .data], laidTests := true, laidLooks := .later }
def MachineReachesCardSaid : Prop := Claim7.holds Tryz.pinned (.plain (OpenSpec.ofChange machineReachesSpec)) machineReachesCard

/-- THE TIED CARD OF 'modelchecklaw23.MachineCommute'. -/
def machineCommuteCard : Claim7 := { stood := { row := machineCommuteRow, standIns := [], harness := (true, "cdbc405089a4bd8c12cb21788da1dd4ec9ada7cf11f05a45a10b6c05c9720d00"), looks := false }, kinds := [], alts := [], laidByText := true, laidKinds := [.data, .data, .data], laidTests := true, laidLooks := .later }
def MachineCommuteCardSaid : Prop := Claim7.holds Tryz.pinned (.plain (OpenSpec.ofChange machineCommuteSpec)) machineCommuteCard

/-- THE TIED CARD OF 'modelchecklaw23.MachineStays'. -/
def machineStaysCard : Claim7 := { stood := { row := machineStaysRow, standIns := [], harness := (true, "cdbc405089a4bd8c12cb21788da1dd4ec9ada7cf11f05a45a10b6c05c9720d00"), looks := false }, kinds := [], alts := [], laidByText := true, laidKinds := [.data, .data, .data], laidTests := true, laidLooks := .later }
def MachineStaysCardSaid : Prop := Claim7.holds Tryz.pinned (.plain (OpenSpec.ofChange machineStaysSpec)) machineStaysCard

/-- THE SECOND FORM's CARD OF 'modelchecklaw23.MachineStarts'. -/
def machineStartsUptoCard : Claim7 := { stood := { row := machineStartsUptoRow, standIns := [], harness := (true, "cdbc405089a4bd8c12cb21788da1dd4ec9ada7cf11f05a45a10b6c05c9720d00"), looks := false }, kinds := [], alts := [], laidByText := true, laidKinds := [.data, .data], laidTests := true, laidLooks := .later }
def MachineStartsUptoCardSaid : Prop := Claim7.holds Tryz.pinned (.plain (OpenSpec.upto machineStartsSpec)) machineStartsUptoCard

/-- THE SECOND FORM's CARD OF 'modelchecklaw23.MachineLabels'. -/
def machineLabelsUptoCard : Claim7 := { stood := { row := machineLabelsUptoRow, standIns := [], harness := (true, "cdbc405089a4bd8c12cb21788da1dd4ec9ada7cf11f05a45a10b6c05c9720d00"), looks := false }, kinds := [], alts := [], laidByText := true, laidKinds := [.data, .data], laidTests := true, laidLooks := .later }
def MachineLabelsUptoCardSaid : Prop := Claim7.holds Tryz.pinned (.plain (OpenSpec.upto machineLabelsSpec)) machineLabelsUptoCard

/-- THE SECOND FORM's CARD OF 'modelchecklaw23.MachineSteps'. -/
def machineStepsUptoCard : Claim7 := { stood := { row := machineStepsUptoRow, standIns := [], harness := (true, "cdbc405089a4bd8c12cb21788da1dd4ec9ada7cf11f05a45a10b6c05c9720d00"), looks := false }, kinds := [], alts := [], laidByText := true, laidKinds := [.data, .data], laidTests := true, laidLooks := .later }
def MachineStepsUptoCardSaid : Prop := Claim7.holds Tryz.pinned (.plain (OpenSpec.upto machineStepsSpec)) machineStepsUptoCard

/-- THE SECOND FORM's CARD OF 'modelchecklaw23.MachineCopies'. -/
def machineCopiesUptoCard : Claim7 := { stood := { row := machineCopiesUptoRow, standIns := [], harness := (true, "cdbc405089a4bd8c12cb21788da1dd4ec9ada7cf11f05a45a10b6c05c9720d00"), looks := false }, kinds := [], alts := [], laidByText := true, laidKinds := [.data, .data], laidTests := true, laidLooks := .later }
def MachineCopiesUptoCardSaid : Prop := Claim7.holds Tryz.pinned (.plain (OpenSpec.upto machineCopiesSpec)) machineCopiesUptoCard

/-- THE SECOND FORM's CARD OF 'modelchecklaw23.MachineReaches'. -/
def machineReachesUptoCard : Claim7 := { stood := { row := machineReachesUptoRow, standIns := [], harness := (true, "cdbc405089a4bd8c12cb21788da1dd4ec9ada7cf11f05a45a10b6c05c9720d00"), looks := false }, kinds := [], alts := [], laidByText := true, laidKinds := [.data, .data], laidTests := true, laidLooks := .later }
def MachineReachesUptoCardSaid : Prop := Claim7.holds Tryz.pinned (.plain (OpenSpec.upto machineReachesSpec)) machineReachesUptoCard

/-- THE SECOND FORM's CARD OF 'modelchecklaw23.MachineCommute'. -/
def machineCommuteUptoCard : Claim7 := { stood := { row := machineCommuteUptoRow, standIns := [], harness := (true, "cdbc405089a4bd8c12cb21788da1dd4ec9ada7cf11f05a45a10b6c05c9720d00"), looks := false }, kinds := [], alts := [], laidByText := true, laidKinds := [.data, .data, .data], laidTests := true, laidLooks := .later }
def MachineCommuteUptoCardSaid : Prop := Claim7.holds Tryz.pinned (.plain (OpenSpec.upto machineCommuteSpec)) machineCommuteUptoCard

/-- THE SECOND FORM's CARD OF 'modelchecklaw23.MachineStays'. -/
def machineStaysUptoCard : Claim7 := { stood := { row := machineStaysUptoRow, standIns := [], harness := (true, "cdbc405089a4bd8c12cb21788da1dd4ec9ada7cf11f05a45a10b6c05c9720d00"), looks := false }, kinds := [], alts := [], laidByText := true, laidKinds := [.data, .data, .data], laidTests := true, laidLooks := .later }
def MachineStaysUptoCardSaid : Prop := Claim7.holds Tryz.pinned (.plain (OpenSpec.upto machineStaysSpec)) machineStaysUptoCard
end Rows
end Go.Proofs.YtjhenjhcbcalpaaGreatDoor
