/-
  DERIVED. GIVEN WITH THE SEED: THE CARDS: each row of YtkgjfkdcnoockaaDoorRows.lean that lists a variable, with what it lists TIED to the program's text (the seventh form; the later family's looks); each row that meets fmt, with fmt's text TOLD by the authors' own Lean function (tested against real Go, not proved from fmt's source: count such statements apart). THE CARD IS WHAT COUNTS. Prove the row's statement (the work); the ties are given (YtkgjfkdcnoockaaDoorTie.lean); close each card by the builder's one call (the guide's Derived/Test/ToyasCard.lean, 'card_holds'). Laid BY PROGRAM, IN A SANDBOX (cutbox-door.mjs). By AI agents, Wed Nov 11 2026. No macro, syntax, notation, axiom, sorry.
-/
import Derived.Test.YtkgjfkdcnoockaaDoorRows
import GoSem.ClaimSeven
namespace Go.Proofs.YtkgjfkdcnoockaaDoor
namespace Rows

/-- THE TIED CARD OF 'modelchecklaw21.MemoryNew'. -/
def memoryNewCard : Claim7 := { stood := { row := memoryNewRow, standIns := [], harness := (true, "2b18f22fd7a91c01c3297b4ef8d4d71f6625d4d15a16b7487b8590b069b35720"), looks := false }, kinds := [], alts := [], laidByText := true, laidKinds := [.data, .data], laidTests := true, laidLooks := .later }
def MemoryNewCardSaid : Prop := Claim7.holds Tryd.pinned (.plain (OpenSpec.ofChange memoryNewSpec)) memoryNewCard

/-- THE TIED CARD OF 'modelchecklaw21.MemoryWaits'. -/
def memoryWaitsCard : Claim7 := { stood := { row := memoryWaitsRow, standIns := [], harness := (true, "2b18f22fd7a91c01c3297b4ef8d4d71f6625d4d15a16b7487b8590b069b35720"), looks := false }, kinds := [], alts := [], laidByText := true, laidKinds := [.data, .data], laidTests := true, laidLooks := .later }
def MemoryWaitsCardSaid : Prop := Claim7.holds Tryd.pinned (.plain (OpenSpec.ofChange memoryWaitsSpec)) memoryWaitsCard

/-- THE TIED CARD OF 'modelchecklaw21.MemoryVars'. -/
def memoryVarsCard : Claim7 := { stood := { row := memoryVarsRow, standIns := [], harness := (true, "2b18f22fd7a91c01c3297b4ef8d4d71f6625d4d15a16b7487b8590b069b35720"), looks := false }, kinds := [], alts := [], laidByText := true, laidKinds := [.data, .data], laidTests := true, laidLooks := .later }
def MemoryVarsCardSaid : Prop := Claim7.holds Tryd.pinned (.plain (OpenSpec.ofChange memoryVarsSpec)) memoryVarsCard

/-- THE TIED CARD OF 'modelchecklaw21.MemoryLocks'. -/
def memoryLocksCard : Claim7 := { stood := { row := memoryLocksRow, standIns := [], harness := (true, "2b18f22fd7a91c01c3297b4ef8d4d71f6625d4d15a16b7487b8590b069b35720"), looks := false }, kinds := [], alts := [], laidByText := true, laidKinds := [.data, .data], laidTests := true, laidLooks := .later }
def MemoryLocksCardSaid : Prop := Claim7.holds Tryd.pinned (.plain (OpenSpec.ofChange memoryLocksSpec)) memoryLocksCard

/-- THE TIED CARD OF 'modelchecklaw21.MemoryEqual'. -/
def memoryEqualCard : Claim7 := { stood := { row := memoryEqualRow, standIns := [], harness := (true, "2b18f22fd7a91c01c3297b4ef8d4d71f6625d4d15a16b7487b8590b069b35720"), looks := false }, kinds := [], alts := [], laidByText := true, laidKinds := [.data, .data], laidTests := true, laidLooks := .later }
def MemoryEqualCardSaid : Prop := Claim7.holds Tryd.pinned (.plain (OpenSpec.ofChange memoryEqualSpec)) memoryEqualCard

/-- THE TIED CARD OF 'modelchecklaw21.MemoryQueue'. -/
def memoryQueueCard : Claim7 := { stood := { row := memoryQueueRow, standIns := [], harness := (true, "2b18f22fd7a91c01c3297b4ef8d4d71f6625d4d15a16b7487b8590b069b35720"), looks := false }, kinds := [], alts := [], laidByText := true, laidKinds := [.data, .data], laidTests := true, laidLooks := .later }
def MemoryQueueCardSaid : Prop := Claim7.holds Tryd.pinned (.plain (OpenSpec.ofChange memoryQueueSpec)) memoryQueueCard

/-- THE TIED CARD OF 'modelchecklaw21.MemoryMutex'. -/
def memoryMutexCard : Claim7 := { stood := { row := memoryMutexRow, standIns := [], harness := (true, "2b18f22fd7a91c01c3297b4ef8d4d71f6625d4d15a16b7487b8590b069b35720"), looks := false }, kinds := [], alts := [], laidByText := true, laidKinds := [.data, .data], laidTests := true, laidLooks := .later }
def MemoryMutexCardSaid : Prop := Claim7.holds Tryd.pinned (.plain (OpenSpec.ofChange memoryMutexSpec)) memoryMutexCard

/-- THE SECOND FORM's CARD OF 'modelchecklaw21.MemoryNew'. -/
def memoryNewUptoCard : Claim7 := { stood := { row := memoryNewUptoRow, standIns := [], harness := (true, "2b18f22fd7a91c01c3297b4ef8d4d71f6625d4d15a16b7487b8590b069b35720"), looks := false }, kinds := [], alts := [], laidByText := true, laidKinds := [.data, .data], laidTests := true, laidLooks := .later }
def MemoryNewUptoCardSaid : Prop := Claim7.holds Tryd.pinned (.plain (OpenSpec.upto memoryNewSpec)) memoryNewUptoCard

/-- THE SECOND FORM's CARD OF 'modelchecklaw21.MemoryWaits'. -/
def memoryWaitsUptoCard : Claim7 := { stood := { row := memoryWaitsUptoRow, standIns := [], harness := (true, "2b18f22fd7a91c01c3297b4ef8d4d71f6625d4d15a16b7487b8590b069b35720"), looks := false }, kinds := [], alts := [], laidByText := true, laidKinds := [.data, .data], laidTests := true, laidLooks := .later }
def MemoryWaitsUptoCardSaid : Prop := Claim7.holds Tryd.pinned (.plain (OpenSpec.upto memoryWaitsSpec)) memoryWaitsUptoCard

/-- THE SECOND FORM's CARD OF 'modelchecklaw21.MemoryVars'. -/
def memoryVarsUptoCard : Claim7 := { stood := { row := memoryVarsUptoRow, standIns := [], harness := (true, "2b18f22fd7a91c01c3297b4ef8d4d71f6625d4d15a16b7487b8590b069b35720"), looks := false }, kinds := [], alts := [], laidByText := true, laidKinds := [.data, .data], laidTests := true, laidLooks := .later }
def MemoryVarsUptoCardSaid : Prop := Claim7.holds Tryd.pinned (.plain (OpenSpec.upto memoryVarsSpec)) memoryVarsUptoCard

/-- THE SECOND FORM's CARD OF 'modelchecklaw21.MemoryLocks'. -/
def memoryLocksUptoCard : Claim7 := { stood := { row := memoryLocksUptoRow, standIns := [], harness := (true, "2b18f22fd7a91c01c3297b4ef8d4d71f6625d4d15a16b7487b8590b069b35720"), looks := false }, kinds := [], alts := [], laidByText := true, laidKinds := [.data, .data], laidTests := true, laidLooks := .later }
def MemoryLocksUptoCardSaid : Prop := Claim7.holds Tryd.pinned (.plain (OpenSpec.upto memoryLocksSpec)) memoryLocksUptoCard

/-- THE SECOND FORM's CARD OF 'modelchecklaw21.MemoryEqual'. -/
def memoryEqualUptoCard : Claim7 := { stood := { row := memoryEqualUptoRow, standIns := [], harness := (true, "2b18f22fd7a91c01c3297b4ef8d4d71f6625d4d15a16b7487b8590b069b35720"), looks := false }, kinds := [], alts := [], laidByText := true, laidKinds := [.data, .data], laidTests := true, laidLooks := .later }
def MemoryEqualUptoCardSaid : Prop := Claim7.holds Tryd.pinned (.plain (OpenSpec.upto memoryEqualSpec)) memoryEqualUptoCard

/-- THE SECOND FORM's CARD OF 'modelchecklaw21.MemoryQueue'. -/
def memoryQueueUptoCard : Claim7 := { stood := { row := memoryQueueUptoRow, standIns := [], harness := (true, "2b18f22fd7a91c01c3297b4ef8d4d71f6625d4d15a16b7487b8590b069b35720"), looks := false }, kinds := [], alts := [], laidByText := true, laidKinds := [.data, .data], laidTests := true, laidLooks := .later }
def MemoryQueueUptoCardSaid : Prop := Claim7.holds Tryd.pinned (.plain (OpenSpec.upto memoryQueueSpec)) memoryQueueUptoCard

/-- THE SECOND FORM's CARD OF 'modelchecklaw21.MemoryMutex'. -/
def memoryMutexUptoCard : Claim7 := { stood := { row := memoryMutexUptoRow, standIns := [], harness := (true, "2b18f22fd7a91c01c3297b4ef8d4d71f6625d4d15a16b7487b8590b069b35720"), looks := false }, kinds := [], alts := [], laidByText := true, laidKinds := [.data, .data], laidTests := true, laidLooks := .later }
def MemoryMutexUptoCardSaid : Prop := Claim7.holds Tryd.pinned (.plain (OpenSpec.upto memoryMutexSpec)) memoryMutexUptoCard
end Rows
end Go.Proofs.YtkgjfkdcnoockaaDoor
