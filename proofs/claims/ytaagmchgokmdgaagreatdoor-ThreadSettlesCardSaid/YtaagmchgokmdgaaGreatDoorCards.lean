/-
  DERIVED. GIVEN WITH THE SEED: THE CARDS: each row of YtaagmchgokmdgaaGreatDoorRows.lean that lists a variable, with what it lists TIED to the program's text (the seventh form; the later family's looks); each row that meets fmt, with fmt's text TOLD by the authors' own Lean function (tested against real Go, not proved from fmt's source: count such statements apart). THE CARD IS WHAT COUNTS. Prove the row's statement (the work); the ties are given (YtaagmchgokmdgaaGreatDoorTie.lean); close each card by the builder's one call (the guide's Derived/Test/ToyasCard.lean, 'card_holds'). Laid BY PROGRAM, IN A SANDBOX (cutbox-door.mjs). By AI agents, Wed Nov 11 2026. No macro, syntax, notation, axiom, sorry.
-/
import Derived.Test.YtaagmchgokmdgaaGreatDoorRows
import GoSem.ClaimSeven
namespace Go.Proofs.YtaagmchgokmdgaaGreatDoor
namespace Rows

/-- THE TIED CARD OF 'modelchecklaw20.ThreadSettles'. -/
def threadSettlesCard : Claim7 := { stood := { row := threadSettlesRow, standIns := [], harness := (true, "466c6af502b11620d4714a881124435a4f64fec6b5b45c52369a7ad1e223c11d"), looks := false }, kinds := [], alts := [], laidByText := true, laidKinds := [.data, .data], laidTests := true, laidLooks := .later }
def ThreadSettlesCardSaid : Prop := Claim7.holds Tryz.pinned (.plain (OpenSpec.ofChange threadSettlesSpec)) threadSettlesCard

/-- THE SECOND FORM's CARD OF 'modelchecklaw20.ThreadSettles'. -/
def threadSettlesUptoCard : Claim7 := { stood := { row := threadSettlesUptoRow, standIns := [], harness := (true, "466c6af502b11620d4714a881124435a4f64fec6b5b45c52369a7ad1e223c11d"), looks := false }, kinds := [], alts := [], laidByText := true, laidKinds := [.data, .data], laidTests := true, laidLooks := .later }
def ThreadSettlesUptoCardSaid : Prop := Claim7.holds Tryz.pinned (.plain (OpenSpec.upto threadSettlesSpec)) threadSettlesUptoCard
end Rows
end Go.Proofs.YtaagmchgokmdgaaGreatDoor
