/-
  DERIVED. GIVEN WITH THE SEED: THE CARDS: each row of YtpkccknamoldeaaDoorRows.lean that lists a variable, with what it lists TIED to the program's text (the seventh form; the later family's looks); each row that meets fmt, with fmt's text TOLD by the authors' own Lean function (tested against real Go, not proved from fmt's source: count such statements apart). THE CARD IS WHAT COUNTS. Prove the row's statement (the work); the ties are given (YtpkccknamoldeaaDoorTie.lean); close each card by the builder's one call (the guide's Derived/Test/ToyasCard.lean, 'card_holds'). Laid BY PROGRAM, IN A SANDBOX (cutbox-door.mjs). By AI agents, Wed Nov 11 2026. No macro, syntax, notation, axiom, sorry.
-/
import Derived.Test.YtpkccknamoldeaaDoorRows
import GoSem.ClaimSeven
namespace Go.Proofs.YtpkccknamoldeaaDoor
namespace Rows

/-- THE TIED CARD OF 'modelchecklaw07.InstCheck'. -/
def instCheckCard : Claim7 := { stood := { row := instCheckRow, standIns := [], harness := (true, "8954f132a5c2ff43d8a1e98e658d9f0c5819bc791462a558c60dfcfae10aff3b"), looks := false }, kinds := [], alts := [], laidByText := true, laidKinds := [.data, .data], laidTests := true, laidLooks := .later }
def InstCheckCardSaid : Prop := Claim7.holds Tryd.pinned (.plain (OpenSpec.ofChange instCheckSpec)) instCheckCard

/-- THE TIED CARD OF 'modelchecklaw07.InstRenames'. -/
def instRenamesCard : Claim7 := { stood := { row := instRenamesRow, standIns := [], harness := (true, "8954f132a5c2ff43d8a1e98e658d9f0c5819bc791462a558c60dfcfae10aff3b"), looks := false }, kinds := [], alts := [], laidByText := true, laidKinds := [.data, .data], laidTests := true, laidLooks := .later }
def InstRenamesCardSaid : Prop := Claim7.holds Tryd.pinned (.plain (OpenSpec.ofChange instRenamesSpec)) instRenamesCard

/-- THE TIED CARD OF 'modelchecklaw07.InstRename'. -/
def instRenameCard : Claim7 := { stood := { row := instRenameRow, standIns := [], harness := (true, "8954f132a5c2ff43d8a1e98e658d9f0c5819bc791462a558c60dfcfae10aff3b"), looks := false }, kinds := [], alts := [], laidByText := true, laidKinds := [.data, .data], laidTests := true, laidLooks := .later }
def InstRenameCardSaid : Prop := Claim7.holds Tryd.pinned (.plain (OpenSpec.ofChange instRenameSpec)) instRenameCard

/-- THE TIED CARD OF 'modelchecklaw07.InstNames'. -/
def instNamesCard : Claim7 := { stood := { row := instNamesRow, standIns := [], harness := (true, "8954f132a5c2ff43d8a1e98e658d9f0c5819bc791462a558c60dfcfae10aff3b"), looks := false }, kinds := [], alts := [], laidByText := true, laidKinds := [.data, .data, .data], laidTests := true, laidLooks := .later }
def InstNamesCardSaid : Prop := Claim7.holds Tryd.pinned (.plain (OpenSpec.ofChange instNamesSpec)) instNamesCard

/-- THE TIED CARD OF 'modelchecklaw07.InstClasses'. -/
def instClassesCard : Claim7 := { stood := { row := instClassesRow, standIns := [], harness := (true, "8954f132a5c2ff43d8a1e98e658d9f0c5819bc791462a558c60dfcfae10aff3b"), looks := false }, kinds := [], alts := [], laidByText := true, laidKinds := [.data, .data, .data], laidTests := true, laidLooks := .later }
def InstClassesCardSaid : Prop := Claim7.holds Tryd.pinned (.plain (OpenSpec.ofChange instClassesSpec)) instClassesCard

/-- THE SECOND FORM's CARD OF 'modelchecklaw07.InstCheck'. -/
def instCheckUptoCard : Claim7 := { stood := { row := instCheckUptoRow, standIns := [], harness := (true, "8954f132a5c2ff43d8a1e98e658d9f0c5819bc791462a558c60dfcfae10aff3b"), looks := false }, kinds := [], alts := [], laidByText := true, laidKinds := [.data, .data], laidTests := true, laidLooks := .later }
def InstCheckUptoCardSaid : Prop := Claim7.holds Tryd.pinned (.plain (OpenSpec.upto instCheckSpec)) instCheckUptoCard

/-- THE SECOND FORM's CARD OF 'modelchecklaw07.InstRenames'. -/
def instRenamesUptoCard : Claim7 := { stood := { row := instRenamesUptoRow, standIns := [], harness := (true, "8954f132a5c2ff43d8a1e98e658d9f0c5819bc791462a558c60dfcfae10aff3b"), looks := false }, kinds := [], alts := [], laidByText := true, laidKinds := [.data, .data], laidTests := true, laidLooks := .later }
def InstRenamesUptoCardSaid : Prop := Claim7.holds Tryd.pinned (.plain (OpenSpec.upto instRenamesSpec)) instRenamesUptoCard

/-- THE SECOND FORM's CARD OF 'modelchecklaw07.InstRename'. -/
def instRenameUptoCard : Claim7 := { stood := { row := instRenameUptoRow, standIns := [], harness := (true, "8954f132a5c2ff43d8a1e98e658d9f0c5819bc791462a558c60dfcfae10aff3b"), looks := false }, kinds := [], alts := [], laidByText := true, laidKinds := [.data, .data], laidTests := true, laidLooks := .later }
def InstRenameUptoCardSaid : Prop := Claim7.holds Tryd.pinned (.plain (OpenSpec.upto instRenameSpec)) instRenameUptoCard

/-- THE SECOND FORM's CARD OF 'modelchecklaw07.InstNames'. -/
def instNamesUptoCard : Claim7 := { stood := { row := instNamesUptoRow, standIns := [], harness := (true, "8954f132a5c2ff43d8a1e98e658d9f0c5819bc791462a558c60dfcfae10aff3b"), looks := false }, kinds := [], alts := [], laidByText := true, laidKinds := [.data, .data, .data], laidTests := true, laidLooks := .later }
def InstNamesUptoCardSaid : Prop := Claim7.holds Tryd.pinned (.plain (OpenSpec.upto instNamesSpec)) instNamesUptoCard

/-- THE SECOND FORM's CARD OF 'modelchecklaw07.InstClasses'. -/
def instClassesUptoCard : Claim7 := { stood := { row := instClassesUptoRow, standIns := [], harness := (true, "8954f132a5c2ff43d8a1e98e658d9f0c5819bc791462a558c60dfcfae10aff3b"), looks := false }, kinds := [], alts := [], laidByText := true, laidKinds := [.data, .data, .data], laidTests := true, laidLooks := .later }
def InstClassesUptoCardSaid : Prop := Claim7.holds Tryd.pinned (.plain (OpenSpec.upto instClassesSpec)) instClassesUptoCard
end Rows
end Go.Proofs.YtpkccknamoldeaaDoor
