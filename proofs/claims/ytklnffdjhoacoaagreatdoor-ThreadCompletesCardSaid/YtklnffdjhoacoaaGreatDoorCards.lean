/-
  DERIVED. GIVEN WITH THE SEED: THE CARDS: each row of YtklnffdjhoacoaaGreatDoorRows.lean that lists a variable, with what it lists TIED to the program's text (the seventh form; the later family's looks); each row that meets fmt, with fmt's text TOLD by the authors' own Lean function (tested against real Go, not proved from fmt's source: count such statements apart). THE CARD IS WHAT COUNTS. Prove the row's statement (the work); the ties are given (YtklnffdjhoacoaaGreatDoorTie.lean); close each card by the builder's one call (the guide's Derived/Test/ToyasCard.lean, 'card_holds'). Laid BY PROGRAM, IN A SANDBOX (cutbox-door.mjs). By AI agents, Wed Nov 11 2026. No macro, syntax, notation, axiom, sorry.
-/
import Derived.Test.YtklnffdjhoacoaaGreatDoorRows
import GoSem.ClaimSeven
namespace Go.Proofs.YtklnffdjhoacoaaGreatDoor
namespace Rows

/-- THE TIED CARD OF 'modelchecklaw20.ThreadNews'. -/
def threadNewsCard : Claim7 := { stood := { row := threadNewsRow, standIns := [], harness := (true, "641820090a1d611e1c74cf4ffa40048ae1dbeef0367b405f5b6b3ee8356e0e25"), looks := false }, kinds := [], alts := [], laidByText := true, laidKinds := [.data, .data], laidTests := true, laidLooks := .later }
def ThreadNewsCardSaid : Prop := Claim7.holds Tryz.pinned (.plain (OpenSpec.ofChange threadNewsSpec)) threadNewsCard

/-- THE TIED CARD OF 'modelchecklaw20.ThreadCompletes'. -/
def threadCompletesCard : Claim7 := { stood := { row := threadCompletesRow, standIns := [], harness := (true, "641820090a1d611e1c74cf4ffa40048ae1dbeef0367b405f5b6b3ee8356e0e25"), looks := false }, kinds := [], alts := [], laidByText := true, laidKinds := [.data, .data], laidTests := true, laidLooks := .later }
def ThreadCompletesCardSaid : Prop := Claim7.holds Tryz.pinned (.plain (OpenSpec.ofChange threadCompletesSpec)) threadCompletesCard

/-- THE TIED CARD OF 'modelchecklaw20.ThreadValids'. -/
def threadValidsCard : Claim7 := { stood := { row := threadValidsRow, standIns := [], harness := (true, "641820090a1d611e1c74cf4ffa40048ae1dbeef0367b405f5b6b3ee8356e0e25"), looks := false }, kinds := [], alts := [], laidByText := true, laidKinds := [.data, .data], laidTests := true, laidLooks := .later }
def ThreadValidsCardSaid : Prop := Claim7.holds Tryz.pinned (.plain (OpenSpec.ofChange threadValidsSpec)) threadValidsCard

/-- THE TIED CARD OF 'modelchecklaw20.ThreadSettles'. -/
def threadSettlesCard : Claim7 := { stood := { row := threadSettlesRow, standIns := [], harness := (true, "641820090a1d611e1c74cf4ffa40048ae1dbeef0367b405f5b6b3ee8356e0e25"), looks := false }, kinds := [], alts := [], laidByText := true, laidKinds := [.data, .data], laidTests := true, laidLooks := .later }
def ThreadSettlesCardSaid : Prop := Claim7.holds Tryz.pinned (.plain (OpenSpec.ofChange threadSettlesSpec)) threadSettlesCard

/-- THE SECOND FORM's CARD OF 'modelchecklaw20.ThreadNews'. -/
def threadNewsUptoCard : Claim7 := { stood := { row := threadNewsUptoRow, standIns := [], harness := (true, "641820090a1d611e1c74cf4ffa40048ae1dbeef0367b405f5b6b3ee8356e0e25"), looks := false }, kinds := [], alts := [], laidByText := true, laidKinds := [.data, .data], laidTests := true, laidLooks := .later }
def ThreadNewsUptoCardSaid : Prop := Claim7.holds Tryz.pinned (.plain (OpenSpec.upto threadNewsSpec)) threadNewsUptoCard

/-- THE SECOND FORM's CARD OF 'modelchecklaw20.ThreadCompletes'. -/
def threadCompletesUptoCard : Claim7 := { stood := { row := threadCompletesUptoRow, standIns := [], harness := (true, "641820090a1d611e1c74cf4ffa40048ae1dbeef0367b405f5b6b3ee8356e0e25"), looks := false }, kinds := [], alts := [], laidByText := true, laidKinds := [.data, .data], laidTests := true, laidLooks := .later }
def ThreadCompletesUptoCardSaid : Prop := Claim7.holds Tryz.pinned (.plain (OpenSpec.upto threadCompletesSpec)) threadCompletesUptoCard

/-- THE SECOND FORM's CARD OF 'modelchecklaw20.ThreadValids'. -/
def threadValidsUptoCard : Claim7 := { stood := { row := threadValidsUptoRow, standIns := [], harness := (true, "641820090a1d611e1c74cf4ffa40048ae1dbeef0367b405f5b6b3ee8356e0e25"), looks := false }, kinds := [], alts := [], laidByText := true, laidKinds := [.data, .data], laidTests := true, laidLooks := .later }
def ThreadValidsUptoCardSaid : Prop := Claim7.holds Tryz.pinned (.plain (OpenSpec.upto threadValidsSpec)) threadValidsUptoCard

/-- THE SECOND FORM's CARD OF 'modelchecklaw20.ThreadSettles'. -/
def threadSettlesUptoCard : Claim7 := { stood := { row := threadSettlesUptoRow, standIns := [], harness := (true, "641820090a1d611e1c74cf4ffa40048ae1dbeef0367b405f5b6b3ee8356e0e25"), looks := false }, kinds := [], alts := [], laidByText := true, laidKinds := [.data, .data], laidTests := true, laidLooks := .later }
def ThreadSettlesUptoCardSaid : Prop := Claim7.holds Tryz.pinned (.plain (OpenSpec.upto threadSettlesSpec)) threadSettlesUptoCard
end Rows
end Go.Proofs.YtklnffdjhoacoaaGreatDoor
