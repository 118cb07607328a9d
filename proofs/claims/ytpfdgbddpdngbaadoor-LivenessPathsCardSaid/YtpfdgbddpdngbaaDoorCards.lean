/-
  DERIVED. GIVEN WITH THE SEED: THE CARDS: each row of YtpfdgbddpdngbaaDoorRows.lean that lists a variable, with what it lists TIED to the program's text (the seventh form; the later family's looks); each row that meets fmt, with fmt's text TOLD by the authors' own Lean function (tested against real Go, not proved from fmt's source: count such statements apart). THE CARD IS WHAT COUNTS. Prove the row's statement (the work); the ties are given (YtpfdgbddpdngbaaDoorTie.lean); close each card by the builder's one call (the guide's Derived/Test/ToyasCard.lean, 'card_holds'). Laid BY PROGRAM, IN A SANDBOX (cutbox-door.mjs). By AI agents, Wed Nov 11 2026. No macro, syntax, notation, axiom, sorry.
-/
import Derived.Test.YtpfdgbddpdngbaaDoorRows
import GoSem.ClaimSeven
namespace Go.Proofs.YtpfdgbddpdngbaaDoor
namespace Rows

/-- THE TIED CARD OF 'modelchecklaw13.LivenessBefore'. -/
def livenessBeforeCard : Claim7 := { stood := { row := livenessBeforeRow, standIns := [], harness := (true, "86f0c5c4b011a93fb5e6bb0de517f182d24fffea40794a8ed6f2e0cb58ef4755"), looks := false }, kinds := [], alts := [], laidByText := true, laidKinds := [.data, .data], laidTests := true, laidLooks := .later }
def LivenessBeforeCardSaid : Prop := Claim7.holds Tryd.pinned (.plain (OpenSpec.ofChange livenessBeforeSpec)) livenessBeforeCard

/-- THE TIED CARD OF 'modelchecklaw13.LivenessAfter'. -/
def livenessAfterCard : Claim7 := { stood := { row := livenessAfterRow, standIns := [], harness := (true, "86f0c5c4b011a93fb5e6bb0de517f182d24fffea40794a8ed6f2e0cb58ef4755"), looks := false }, kinds := [], alts := [], laidByText := true, laidKinds := [.data, .data], laidTests := true, laidLooks := .later }
def LivenessAfterCardSaid : Prop := Claim7.holds Tryd.pinned (.plain (OpenSpec.ofChange livenessAfterSpec)) livenessAfterCard

/-- THE TIED CARD OF 'modelchecklaw13.LivenessPaths'. -/
def livenessPathsCard : Claim7 := { stood := { row := livenessPathsRow, standIns := [], harness := (true, "86f0c5c4b011a93fb5e6bb0de517f182d24fffea40794a8ed6f2e0cb58ef4755"), looks := false }, kinds := [], alts := [], laidByText := true, laidKinds := [.data, .data], laidTests := true, laidLooks := .later }
def LivenessPathsCardSaid : Prop := Claim7.holds Tryd.pinned (.plain (OpenSpec.ofChange livenessPathsSpec)) livenessPathsCard

/-- THE TIED CARD OF 'modelchecklaw13.LivenessStep'. -/
def livenessStepCard : Claim7 := { stood := { row := livenessStepRow, standIns := [], harness := (true, "86f0c5c4b011a93fb5e6bb0de517f182d24fffea40794a8ed6f2e0cb58ef4755"), looks := false }, kinds := [], alts := [], laidByText := true, laidKinds := [.data, .data], laidTests := true, laidLooks := .later }
def LivenessStepCardSaid : Prop := Claim7.holds Tryd.pinned (.plain (OpenSpec.ofChange livenessStepSpec)) livenessStepCard

/-- THE TIED CARD OF 'modelchecklaw13.LivenessRename'. -/
def livenessRenameCard : Claim7 := { stood := { row := livenessRenameRow, standIns := [], harness := (true, "86f0c5c4b011a93fb5e6bb0de517f182d24fffea40794a8ed6f2e0cb58ef4755"), looks := false }, kinds := [], alts := [], laidByText := true, laidKinds := [.data, .data], laidTests := true, laidLooks := .later }
def LivenessRenameCardSaid : Prop := Claim7.holds Tryd.pinned (.plain (OpenSpec.ofChange livenessRenameSpec)) livenessRenameCard

/-- THE SECOND FORM's CARD OF 'modelchecklaw13.LivenessBefore'. -/
def livenessBeforeUptoCard : Claim7 := { stood := { row := livenessBeforeUptoRow, standIns := [], harness := (true, "86f0c5c4b011a93fb5e6bb0de517f182d24fffea40794a8ed6f2e0cb58ef4755"), looks := false }, kinds := [], alts := [], laidByText := true, laidKinds := [.data, .data], laidTests := true, laidLooks := .later }
def LivenessBeforeUptoCardSaid : Prop := Claim7.holds Tryd.pinned (.plain (OpenSpec.upto livenessBeforeSpec)) livenessBeforeUptoCard

/-- THE SECOND FORM's CARD OF 'modelchecklaw13.LivenessAfter'. -/
def livenessAfterUptoCard : Claim7 := { stood := { row := livenessAfterUptoRow, standIns := [], harness := (true, "86f0c5c4b011a93fb5e6bb0de517f182d24fffea40794a8ed6f2e0cb58ef4755"), looks := false }, kinds := [], alts := [], laidByText := true, laidKinds := [.data, .data], laidTests := true, laidLooks := .later }
def LivenessAfterUptoCardSaid : Prop := Claim7.holds Tryd.pinned (.plain (OpenSpec.upto livenessAfterSpec)) livenessAfterUptoCard

/-- THE SECOND FORM's CARD OF 'modelchecklaw13.LivenessPaths'. -/
def livenessPathsUptoCard : Claim7 := { stood := { row := livenessPathsUptoRow, standIns := [], harness := (true, "86f0c5c4b011a93fb5e6bb0de517f182d24fffea40794a8ed6f2e0cb58ef4755"), looks := false }, kinds := [], alts := [], laidByText := true, laidKinds := [.data, .data], laidTests := true, laidLooks := .later }
def LivenessPathsUptoCardSaid : Prop := Claim7.holds Tryd.pinned (.plain (OpenSpec.upto livenessPathsSpec)) livenessPathsUptoCard

/-- THE SECOND FORM's CARD OF 'modelchecklaw13.LivenessStep'. -/
def livenessStepUptoCard : Claim7 := { stood := { row := livenessStepUptoRow, standIns := [], harness := (true, "86f0c5c4b011a93fb5e6bb0de517f182d24fffea40794a8ed6f2e0cb58ef4755"), looks := false }, kinds := [], alts := [], laidByText := true, laidKinds := [.data, .data], laidTests := true, laidLooks := .later }
def LivenessStepUptoCardSaid : Prop := Claim7.holds Tryd.pinned (.plain (OpenSpec.upto livenessStepSpec)) livenessStepUptoCard

/-- THE SECOND FORM's CARD OF 'modelchecklaw13.LivenessRename'. -/
def livenessRenameUptoCard : Claim7 := { stood := { row := livenessRenameUptoRow, standIns := [], harness := (true, "86f0c5c4b011a93fb5e6bb0de517f182d24fffea40794a8ed6f2e0cb58ef4755"), looks := false }, kinds := [], alts := [], laidByText := true, laidKinds := [.data, .data], laidTests := true, laidLooks := .later }
def LivenessRenameUptoCardSaid : Prop := Claim7.holds Tryd.pinned (.plain (OpenSpec.upto livenessRenameSpec)) livenessRenameUptoCard
end Rows
end Go.Proofs.YtpfdgbddpdngbaaDoor
