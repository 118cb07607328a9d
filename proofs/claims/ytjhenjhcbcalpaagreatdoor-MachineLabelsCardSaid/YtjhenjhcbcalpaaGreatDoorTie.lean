/-
  DERIVED. GIVEN WITH THE SEED: THE PROGRAM's TIES (one call each: nine closed facts by the kernel) AND EACH ROW's TIE, after the 31st guide's Derived/Test/Toyas{Tie, Card}.lean. No idea stands in it: it is a product of the set-up. Laid BY PROGRAM, IN A SANDBOX (cutbox-door.mjs). By AI agents, Wed Nov 11 2026. No macro, syntax, notation, axiom, sorry.
-/
import Derived.Test.YtjhenjhcbcalpaaGreatDoorRows
import Derived.LaidByTextLater
import Derived.SevenTiedAt
import Derived.LaidSub
import Derived.LaidOnce
namespace Go.Proofs.YtjhenjhcbcalpaaGreatDoor
open Go
set_option maxRecDepth 100000
theorem seatTie1 : Tryz.prog.laidByTextLater [("modelcheck/value.names", Rows.laid_modelcheck_value_names), ("modelcheck/inst.rows", Rows.laid_modelcheck_inst_rows)] [.data, .data] true :=
  Program.laidByTextLater_by_one 85 8 177 (by kernel_rfl) (by kernel_rfl) (by kernel_rfl) (by kernel_rfl) (by kernel_rfl) (by kernel_rfl) (fun _ _ => by kernel_rfl)
theorem seatTie2 : Tryz.prog.laidByTextLater [("modelcheck/value.names", Rows.laid_modelcheck_value_names), ("modelcheck/event.rows", Rows.laid_modelcheck_event_rows), ("modelcheck/inst.rows", Rows.laid_modelcheck_inst_rows)] [.data, .data, .data] true :=
  Program.laidByTextLater_by_one 85 8 177 (by kernel_rfl) (by kernel_rfl) (by kernel_rfl) (by kernel_rfl) (by kernel_rfl) (by kernel_rfl) (fun _ _ => by kernel_rfl)
theorem noOwnUnsafe : Tryz.pinned.checked.prog.headLifts.contains "ownunsafe" = false := by kernel_rfl
theorem tie : Tryz.prog.laidByTextLater [("modelcheck/value.names", Rows.laid_modelcheck_value_names), ("modelcheck/inst.rows", Rows.laid_modelcheck_inst_rows)] [.data, .data] true :=
  Program.laidByTextLater.sub seatTie1 ["modelcheck/value.names", "modelcheck/inst.rows"] (by kernel_rfl) (by kernel_rfl)
theorem machineStarts_row_tie : Rows.machineStartsRow.laidByTextAt .later Tryz.pinned [.data, .data] true :=
  OpenClaim.laidByTextAt_later rfl rfl tie noOwnUnsafe
theorem machineLabels_row_tie : Rows.machineLabelsRow.laidByTextAt .later Tryz.pinned [.data, .data] true :=
  OpenClaim.laidByTextAt_later rfl rfl tie noOwnUnsafe
theorem machineSteps_row_tie : Rows.machineStepsRow.laidByTextAt .later Tryz.pinned [.data, .data] true :=
  OpenClaim.laidByTextAt_later rfl rfl tie noOwnUnsafe
theorem machineCopies_row_tie : Rows.machineCopiesRow.laidByTextAt .later Tryz.pinned [.data, .data] true :=
  OpenClaim.laidByTextAt_later rfl rfl tie noOwnUnsafe
theorem machineReaches_row_tie : Rows.machineReachesRow.laidByTextAt .later Tryz.pinned [.data, .data] true :=
  OpenClaim.laidByTextAt_later rfl rfl tie noOwnUnsafe
theorem tie2 : Tryz.prog.laidByTextLater [("modelcheck/value.names", Rows.laid_modelcheck_value_names), ("modelcheck/event.rows", Rows.laid_modelcheck_event_rows), ("modelcheck/inst.rows", Rows.laid_modelcheck_inst_rows)] [.data, .data, .data] true :=
  Program.laidByTextLater.sub seatTie2 ["modelcheck/value.names", "modelcheck/event.rows", "modelcheck/inst.rows"] (by kernel_rfl) (by kernel_rfl)
theorem machineCommute_row_tie : Rows.machineCommuteRow.laidByTextAt .later Tryz.pinned [.data, .data, .data] true :=
  OpenClaim.laidByTextAt_later rfl rfl tie2 noOwnUnsafe
theorem machineStays_row_tie : Rows.machineStaysRow.laidByTextAt .later Tryz.pinned [.data, .data, .data] true :=
  OpenClaim.laidByTextAt_later rfl rfl tie2 noOwnUnsafe
theorem machineStartsUpto_row_tie : Rows.machineStartsUptoRow.laidByTextAt .later Tryz.pinned [.data, .data] true :=
  OpenClaim.laidByTextAt_later rfl rfl tie noOwnUnsafe
theorem machineLabelsUpto_row_tie : Rows.machineLabelsUptoRow.laidByTextAt .later Tryz.pinned [.data, .data] true :=
  OpenClaim.laidByTextAt_later rfl rfl tie noOwnUnsafe
theorem machineStepsUpto_row_tie : Rows.machineStepsUptoRow.laidByTextAt .later Tryz.pinned [.data, .data] true :=
  OpenClaim.laidByTextAt_later rfl rfl tie noOwnUnsafe
theorem machineCopiesUpto_row_tie : Rows.machineCopiesUptoRow.laidByTextAt .later Tryz.pinned [.data, .data] true :=
  OpenClaim.laidByTextAt_later rfl rfl tie noOwnUnsafe
theorem machineReachesUpto_row_tie : Rows.machineReachesUptoRow.laidByTextAt .later Tryz.pinned [.data, .data] true :=
  OpenClaim.laidByTextAt_later rfl rfl tie noOwnUnsafe
theorem machineCommuteUpto_row_tie : Rows.machineCommuteUptoRow.laidByTextAt .later Tryz.pinned [.data, .data, .data] true :=
  OpenClaim.laidByTextAt_later rfl rfl tie2 noOwnUnsafe
theorem machineStaysUpto_row_tie : Rows.machineStaysUptoRow.laidByTextAt .later Tryz.pinned [.data, .data, .data] true :=
  OpenClaim.laidByTextAt_later rfl rfl tie2 noOwnUnsafe
end Go.Proofs.YtjhenjhcbcalpaaGreatDoor
