/-
  DERIVED. GIVEN WITH THE SEED: THE CARDS: each row of YtklnffdjhoacoaaDoorRows.lean that lists a variable, with what it lists TIED to the program's text (the seventh form; the later family's looks); each row that meets fmt, with fmt's text TOLD by the authors' own Lean function (tested against real Go, not proved from fmt's source: count such statements apart). THE CARD IS WHAT COUNTS. Prove the row's statement (the work); the ties are given (YtklnffdjhoacoaaDoorTie.lean); close each card by the builder's one call (the guide's Derived/Test/ToyasCard.lean, 'card_holds'). Laid BY PROGRAM, IN A SANDBOX (cutbox-door.mjs). By AI agents, Wed Nov 11 2026. No macro, syntax, notation, axiom, sorry.
-/
import Derived.Test.YtklnffdjhoacoaaDoorRows
import GoSem.ClaimSeven
namespace Go.Proofs.YtklnffdjhoacoaaDoor
namespace Rows

/-- THE TIED CARD OF 'modelchecklaw20.ThreadFamily'. -/
def threadFamilyCard : Claim7 := { stood := { row := threadFamilyRow, standIns := [], harness := (true, "e40b4f34189a4e14388e39f00426474c213c76f70e04a6fea133bb74cee2d232"), looks := false }, kinds := [], alts := [], laidByText := true, laidKinds := [.data, .data], laidTests := true, laidLooks := .later }
def ThreadFamilyCardSaid : Prop := Claim7.holds Tryd.pinned (.plain (OpenSpec.ofChange threadFamilySpec)) threadFamilyCard

/-- THE TIED CARD OF 'modelchecklaw20.ThreadIds'. -/
def threadIdsCard : Claim7 := { stood := { row := threadIdsRow, standIns := [], harness := (true, "e40b4f34189a4e14388e39f00426474c213c76f70e04a6fea133bb74cee2d232"), looks := false }, kinds := [], alts := [], laidByText := true, laidKinds := [.data, .data], laidTests := true, laidLooks := .later }
def ThreadIdsCardSaid : Prop := Claim7.holds Tryd.pinned (.plain (OpenSpec.ofChange threadIdsSpec)) threadIdsCard

/-- THE TIED CARD OF 'modelchecklaw20.ThreadSettled'. -/
def threadSettledCard : Claim7 := { stood := { row := threadSettledRow, standIns := [], harness := (true, "e40b4f34189a4e14388e39f00426474c213c76f70e04a6fea133bb74cee2d232"), looks := false }, kinds := [], alts := [], laidByText := true, laidKinds := [.data, .data], laidTests := true, laidLooks := .later }
def ThreadSettledCardSaid : Prop := Claim7.holds Tryd.pinned (.plain (OpenSpec.ofChange threadSettledSpec)) threadSettledCard

/-- THE SECOND FORM's CARD OF 'modelchecklaw20.ThreadFamily'. -/
def threadFamilyUptoCard : Claim7 := { stood := { row := threadFamilyUptoRow, standIns := [], harness := (true, "e40b4f34189a4e14388e39f00426474c213c76f70e04a6fea133bb74cee2d232"), looks := false }, kinds := [], alts := [], laidByText := true, laidKinds := [.data, .data], laidTests := true, laidLooks := .later }
def ThreadFamilyUptoCardSaid : Prop := Claim7.holds Tryd.pinned (.plain (OpenSpec.upto threadFamilySpec)) threadFamilyUptoCard

/-- THE SECOND FORM's CARD OF 'modelchecklaw20.ThreadIds'. -/
def threadIdsUptoCard : Claim7 := { stood := { row := threadIdsUptoRow, standIns := [], harness := (true, "e40b4f34189a4e14388e39f00426474c213c76f70e04a6fea133bb74cee2d232"), looks := false }, kinds := [], alts := [], laidByText := true, laidKinds := [.data, .data], laidTests := true, laidLooks := .later }
def ThreadIdsUptoCardSaid : Prop := Claim7.holds Tryd.pinned (.plain (OpenSpec.upto threadIdsSpec)) threadIdsUptoCard

/-- THE SECOND FORM's CARD OF 'modelchecklaw20.ThreadSettled'. -/
def threadSettledUptoCard : Claim7 := { stood := { row := threadSettledUptoRow, standIns := [], harness := (true, "e40b4f34189a4e14388e39f00426474c213c76f70e04a6fea133bb74cee2d232"), looks := false }, kinds := [], alts := [], laidByText := true, laidKinds := [.data, .data], laidTests := true, laidLooks := .later }
def ThreadSettledUptoCardSaid : Prop := Claim7.holds Tryd.pinned (.plain (OpenSpec.upto threadSettledSpec)) threadSettledUptoCard
end Rows
end Go.Proofs.YtklnffdjhoacoaaDoor
