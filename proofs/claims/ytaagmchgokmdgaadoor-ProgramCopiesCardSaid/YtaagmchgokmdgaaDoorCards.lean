/-
  DERIVED. GIVEN WITH THE SEED: THE CARDS: each row of YtaagmchgokmdgaaDoorRows.lean that lists a variable, with what it lists TIED to the program's text (the seventh form; the later family's looks); each row that meets fmt, with fmt's text TOLD by the authors' own Lean function (tested against real Go, not proved from fmt's source: count such statements apart). THE CARD IS WHAT COUNTS. Prove the row's statement (the work); the ties are given (YtaagmchgokmdgaaDoorTie.lean); close each card by the builder's one call (the guide's Derived/Test/ToyasCard.lean, 'card_holds'). Laid BY PROGRAM, IN A SANDBOX (cutbox-door.mjs). By AI agents, Wed Nov 11 2026. No macro, syntax, notation, axiom, sorry.
-/
import Derived.Test.YtaagmchgokmdgaaDoorRows
import GoSem.ClaimSeven
namespace Go.Proofs.YtaagmchgokmdgaaDoor
namespace Rows

/-- THE TIED CARD OF 'modelchecklaw08.ProgramCopies'. -/
def programCopiesCard : Claim7 := { stood := { row := programCopiesRow, standIns := [], harness := (true, "9f62249ac35356cc884c1e488d29d39529787fcdde8072d3de909868257d572c"), looks := false }, kinds := [], alts := [], laidByText := true, laidKinds := [.data, .data], laidTests := true, laidLooks := .later }
def ProgramCopiesCardSaid : Prop := Claim7.holds Tryd.pinned (.plain (OpenSpec.ofChange programCopiesSpec)) programCopiesCard

/-- THE SECOND FORM's CARD OF 'modelchecklaw08.ProgramCopies'. -/
def programCopiesUptoCard : Claim7 := { stood := { row := programCopiesUptoRow, standIns := [], harness := (true, "9f62249ac35356cc884c1e488d29d39529787fcdde8072d3de909868257d572c"), looks := false }, kinds := [], alts := [], laidByText := true, laidKinds := [.data, .data], laidTests := true, laidLooks := .later }
def ProgramCopiesUptoCardSaid : Prop := Claim7.holds Tryd.pinned (.plain (OpenSpec.upto programCopiesSpec)) programCopiesUptoCard
end Rows
end Go.Proofs.YtaagmchgokmdgaaDoor
