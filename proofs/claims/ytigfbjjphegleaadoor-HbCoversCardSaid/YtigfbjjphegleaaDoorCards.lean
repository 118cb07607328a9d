/-
  DERIVED. GIVEN WITH THE SEED: THE CARDS: each row of YtigfbjjphegleaaDoorRows.lean that lists a variable, with what it lists TIED to the program's text (the seventh form; the later family's looks); each row that meets fmt, with fmt's text TOLD by the authors' own Lean function (tested against real Go, not proved from fmt's source: count such statements apart). THE CARD IS WHAT COUNTS. Prove the row's statement (the work); the ties are given (YtigfbjjphegleaaDoorTie.lean); close each card by the builder's one call (the guide's Derived/Test/ToyasCard.lean, 'card_holds'). Laid BY PROGRAM, IN A SANDBOX (cutbox-door.mjs). By AI agents, Wed Nov 11 2026. No macro, syntax, notation, axiom, sorry.
-/
import Derived.Test.YtigfbjjphegleaaDoorRows
import GoSem.ClaimSeven
namespace Go.Proofs.YtigfbjjphegleaaDoor
namespace Rows

/-- THE TIED CARD OF 'modelchecklaw27.HbPasts'. -/
def hbPastsCard : Claim7 := { stood := { row := hbPastsRow, standIns := [], harness := (true, "cd557138882eea16ef67466f9ab75a8f7e5204a43d967e187cf83e5d2a01c005"), looks := false }, kinds := [], alts := [], laidByText := true, laidKinds := [.data], laidTests := true, laidLooks := .later }
def HbPastsCardSaid : Prop := Claim7.holds Tryd.pinned (.plain (OpenSpec.ofChange hbPastsSpec)) hbPastsCard

/-- THE TIED CARD OF 'modelchecklaw27.HbStamps'. -/
def hbStampsCard : Claim7 := { stood := { row := hbStampsRow, standIns := [], harness := (true, "cd557138882eea16ef67466f9ab75a8f7e5204a43d967e187cf83e5d2a01c005"), looks := false }, kinds := [], alts := [], laidByText := true, laidKinds := [.data], laidTests := true, laidLooks := .later }
def HbStampsCardSaid : Prop := Claim7.holds Tryd.pinned (.plain (OpenSpec.ofChange hbStampsSpec)) hbStampsCard

/-- THE TIED CARD OF 'modelchecklaw27.HbPrefixes'. -/
def hbPrefixesCard : Claim7 := { stood := { row := hbPrefixesRow, standIns := [], harness := (true, "cd557138882eea16ef67466f9ab75a8f7e5204a43d967e187cf83e5d2a01c005"), looks := false }, kinds := [], alts := [], laidByText := true, laidKinds := [.data], laidTests := true, laidLooks := .later }
def HbPrefixesCardSaid : Prop := Claim7.holds Tryd.pinned (.plain (OpenSpec.ofChange hbPrefixesSpec)) hbPrefixesCard

/-- THE TIED CARD OF 'modelchecklaw27.HbOrders'. -/
def hbOrdersCard : Claim7 := { stood := { row := hbOrdersRow, standIns := [], harness := (true, "cd557138882eea16ef67466f9ab75a8f7e5204a43d967e187cf83e5d2a01c005"), looks := false }, kinds := [], alts := [], laidByText := true, laidKinds := [.data], laidTests := true, laidLooks := .later }
def HbOrdersCardSaid : Prop := Claim7.holds Tryd.pinned (.plain (OpenSpec.ofChange hbOrdersSpec)) hbOrdersCard

/-- THE TIED CARD OF 'modelchecklaw27.HbCovers'. -/
def hbCoversCard : Claim7 := { stood := { row := hbCoversRow, standIns := [], harness := (true, "cd557138882eea16ef67466f9ab75a8f7e5204a43d967e187cf83e5d2a01c005"), looks := false }, kinds := [], alts := [], laidByText := true, laidKinds := [.data], laidTests := true, laidLooks := .later }
def HbCoversCardSaid : Prop := Claim7.holds Tryd.pinned (.plain (OpenSpec.ofChange hbCoversSpec)) hbCoversCard

/-- THE TIED CARD OF 'modelchecklaw27.HbClocks'. -/
def hbClocksCard : Claim7 := { stood := { row := hbClocksRow, standIns := [], harness := (true, "cd557138882eea16ef67466f9ab75a8f7e5204a43d967e187cf83e5d2a01c005"), looks := false }, kinds := [], alts := [], laidByText := true, laidKinds := [.data], laidTests := true, laidLooks := .later }
def HbClocksCardSaid : Prop := Claim7.holds Tryd.pinned (.plain (OpenSpec.ofChange hbClocksSpec)) hbClocksCard

/-- THE SECOND FORM's CARD OF 'modelchecklaw27.HbPasts'. -/
def hbPastsUptoCard : Claim7 := { stood := { row := hbPastsUptoRow, standIns := [], harness := (true, "cd557138882eea16ef67466f9ab75a8f7e5204a43d967e187cf83e5d2a01c005"), looks := false }, kinds := [], alts := [], laidByText := true, laidKinds := [.data], laidTests := true, laidLooks := .later }
def HbPastsUptoCardSaid : Prop := Claim7.holds Tryd.pinned (.plain (OpenSpec.upto hbPastsSpec)) hbPastsUptoCard

/-- THE SECOND FORM's CARD OF 'modelchecklaw27.HbStamps'. -/
def hbStampsUptoCard : Claim7 := { stood := { row := hbStampsUptoRow, standIns := [], harness := (true, "cd557138882eea16ef67466f9ab75a8f7e5204a43d967e187cf83e5d2a01c005"), looks := false }, kinds := [], alts := [], laidByText := true, laidKinds := [.data], laidTests := true, laidLooks := .later }
def HbStampsUptoCardSaid : Prop := Claim7.holds Tryd.pinned (.plain (OpenSpec.upto hbStampsSpec)) hbStampsUptoCard

/-- THE SECOND FORM's CARD OF 'modelchecklaw27.HbPrefixes'. -/
def hbPrefixesUptoCard : Claim7 := { stood := { row := hbPrefixesUptoRow, standIns := [], harness := (true, "cd557138882eea16ef67466f9ab75a8f7e5204a43d967e187cf83e5d2a01c005"), looks := false }, kinds := [], alts := [], laidByText := true, laidKinds := [.data], laidTests := true, laidLooks := .later }
def HbPrefixesUptoCardSaid : Prop := Claim7.holds Tryd.pinned (.plain (OpenSpec.upto hbPrefixesSpec)) hbPrefixesUptoCard

/-- THE SECOND FORM's CARD OF 'modelchecklaw27.HbOrders'. -/
def hbOrdersUptoCard : Claim7 := { stood := { row := hbOrdersUptoRow, standIns := [], harness := (true, "cd557138882eea16ef67466f9ab75a8f7e5204a43d967e187cf83e5d2a01c005"), looks := false }, kinds := [], alts := [], laidByText := true, laidKinds := [.data], laidTests := true, laidLooks := .later }
def HbOrdersUptoCardSaid : Prop := Claim7.holds Tryd.pinned (.plain (OpenSpec.upto hbOrdersSpec)) hbOrdersUptoCard

/-- THE SECOND FORM's CARD OF 'modelchecklaw27.HbCovers'. -/
def hbCoversUptoCard : Claim7 := { stood := { row := hbCoversUptoRow, standIns := [], harness := (true, "cd557138882eea16ef67466f9ab75a8f7e5204a43d967e187cf83e5d2a01c005"), looks := false }, kinds := [], alts := [], laidByText := true, laidKinds := [.data], laidTests := true, laidLooks := .later }
def HbCoversUptoCardSaid : Prop := Claim7.holds Tryd.pinned (.plain (OpenSpec.upto hbCoversSpec)) hbCoversUptoCard

/-- THE SECOND FORM's CARD OF 'modelchecklaw27.HbClocks'. -/
def hbClocksUptoCard : Claim7 := { stood := { row := hbClocksUptoRow, standIns := [], harness := (true, "cd557138882eea16ef67466f9ab75a8f7e5204a43d967e187cf83e5d2a01c005"), looks := false }, kinds := [], alts := [], laidByText := true, laidKinds := [.data], laidTests := true, laidLooks := .later }
def HbClocksUptoCardSaid : Prop := Claim7.holds Tryd.pinned (.plain (OpenSpec.upto hbClocksSpec)) hbClocksUptoCard
end Rows
end Go.Proofs.YtigfbjjphegleaaDoor
