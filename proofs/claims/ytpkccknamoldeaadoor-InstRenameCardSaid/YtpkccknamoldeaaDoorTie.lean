/-
  DERIVED. GIVEN WITH THE SEED: THE PROGRAM's TIES (one call each: nine closed facts by the kernel) AND EACH ROW's TIE, after the 31st guide's Derived/Test/Toyas{Tie, Card}.lean. No idea stands in it: it is a product of the set-up. Laid BY PROGRAM, IN A SANDBOX (cutbox-door.mjs). By AI agents, Wed Nov 11 2026. No macro, syntax, notation, axiom, sorry.
-/
import Derived.Test.YtpkccknamoldeaaDoorRows
import Derived.LaidByTextLater
import Derived.SevenTiedAt
import Derived.LaidSub
import Derived.LaidOnce
namespace Go.Proofs.YtpkccknamoldeaaDoor
open Go
set_option maxRecDepth 100000
theorem seatTie1 : Tryd.prog.laidByTextLater [("modelcheck/value.names", Rows.laid_modelcheck_value_names), ("modelcheck/inst.rows", Rows.laid_modelcheck_inst_rows), ("modelcheck/inst.orders", Rows.laid_modelcheck_inst_orders)] [.data, .data, .data] true :=
  Program.laidByTextLater_by_one 68 8 177 (by kernel_rfl) (by kernel_rfl) (by kernel_rfl) (by kernel_rfl) (by kernel_rfl) (by kernel_rfl) (fun _ _ => by kernel_rfl)
theorem noOwnUnsafe : Tryd.pinned.checked.prog.headLifts.contains "ownunsafe" = false := by kernel_rfl
theorem tie : Tryd.prog.laidByTextLater [("modelcheck/value.names", Rows.laid_modelcheck_value_names), ("modelcheck/inst.rows", Rows.laid_modelcheck_inst_rows)] [.data, .data] true :=
  Program.laidByTextLater.sub seatTie1 ["modelcheck/value.names", "modelcheck/inst.rows"] (by kernel_rfl) (by kernel_rfl)
theorem instCheck_row_tie : Rows.instCheckRow.laidByTextAt .later Tryd.pinned [.data, .data] true :=
  OpenClaim.laidByTextAt_later rfl rfl tie noOwnUnsafe
theorem instRenames_row_tie : Rows.instRenamesRow.laidByTextAt .later Tryd.pinned [.data, .data] true :=
  OpenClaim.laidByTextAt_later rfl rfl tie noOwnUnsafe
theorem instRename_row_tie : Rows.instRenameRow.laidByTextAt .later Tryd.pinned [.data, .data] true :=
  OpenClaim.laidByTextAt_later rfl rfl tie noOwnUnsafe
theorem tie2 : Tryd.prog.laidByTextLater [("modelcheck/value.names", Rows.laid_modelcheck_value_names), ("modelcheck/inst.rows", Rows.laid_modelcheck_inst_rows), ("modelcheck/inst.orders", Rows.laid_modelcheck_inst_orders)] [.data, .data, .data] true :=
  Program.laidByTextLater.sub seatTie1 ["modelcheck/value.names", "modelcheck/inst.rows", "modelcheck/inst.orders"] (by kernel_rfl) (by kernel_rfl)
theorem instNames_row_tie : Rows.instNamesRow.laidByTextAt .later Tryd.pinned [.data, .data, .data] true :=
  OpenClaim.laidByTextAt_later rfl rfl tie2 noOwnUnsafe
theorem instClasses_row_tie : Rows.instClassesRow.laidByTextAt .later Tryd.pinned [.data, .data, .data] true :=
  OpenClaim.laidByTextAt_later rfl rfl tie2 noOwnUnsafe
theorem instCheckUpto_row_tie : Rows.instCheckUptoRow.laidByTextAt .later Tryd.pinned [.data, .data] true :=
  OpenClaim.laidByTextAt_later rfl rfl tie noOwnUnsafe
theorem instRenamesUpto_row_tie : Rows.instRenamesUptoRow.laidByTextAt .later Tryd.pinned [.data, .data] true :=
  OpenClaim.laidByTextAt_later rfl rfl tie noOwnUnsafe
theorem instRenameUpto_row_tie : Rows.instRenameUptoRow.laidByTextAt .later Tryd.pinned [.data, .data] true :=
  OpenClaim.laidByTextAt_later rfl rfl tie noOwnUnsafe
theorem instNamesUpto_row_tie : Rows.instNamesUptoRow.laidByTextAt .later Tryd.pinned [.data, .data, .data] true :=
  OpenClaim.laidByTextAt_later rfl rfl tie2 noOwnUnsafe
theorem instClassesUpto_row_tie : Rows.instClassesUptoRow.laidByTextAt .later Tryd.pinned [.data, .data, .data] true :=
  OpenClaim.laidByTextAt_later rfl rfl tie2 noOwnUnsafe
end Go.Proofs.YtpkccknamoldeaaDoor
