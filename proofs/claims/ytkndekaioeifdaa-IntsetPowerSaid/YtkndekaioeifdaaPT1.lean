/- types -/
import Derived.Test.YtkndekaioeifdaaProg
import Derived.Test.YtkndekaioeifdaaEngQ
set_option linter.unusedSimpArgs false
set_option linter.unusedVariables false
set_option maxRecDepth 100000
namespace Go.Proofs.Ytkndekaioeifdaa
open Go Go.Eng
@[reducible] def ti3 : TI := { desc := .int .i64, size := 1, bytes := 8, zero := [.int .i64 0], shp := some (.int .i64) }
theorem ti3_ok : TIOK Try.prog 3 ti3 := TIOK.of_eq (by kernel_rfl) (by kernel_rfl) rfl rfl (zshp_of (i := ti3) (s0 := (.int .i64)) rfl rfl rfl rfl)
@[reducible] def ti4 : TI := { desc := .bool, size := 1, bytes := 1, zero := [.bool false], shp := some .bool }
theorem ti4_ok : TIOK Try.prog 4 ti4 := TIOK.of_eq (by kernel_rfl) (by kernel_rfl) rfl rfl (zshp_of (i := ti4) (s0 := .bool) rfl rfl rfl rfl)
@[reducible] def ti5 : TI := { desc := .int .u8, size := 1, bytes := 1, zero := [.int .u8 0], shp := some (.int .u8) }
theorem ti5_ok : TIOK Try.prog 5 ti5 := TIOK.of_eq (by kernel_rfl) (by kernel_rfl) rfl rfl (zshp_of (i := ti5) (s0 := (.int .u8)) rfl rfl rfl rfl)
@[reducible] def ti9 : TI := { desc := .string, size := 1, bytes := 16, zero := [.string ⟨#[]⟩], shp := some .str }
theorem ti9_ok : TIOK Try.prog 9 ti9 := TIOK.of_eq (by kernel_rfl) (by kernel_rfl) rfl rfl (zshp_of (i := ti9) (s0 := .str) rfl rfl rfl rfl)
@[reducible] def ti22 : TI := { desc := .slice 3, size := 1, bytes := 24, zero := [.slice none 0 0], shp := some (.sl (.int .i64)) }
theorem ti22_ok : TIOK Try.prog 22 ti22 := TIOK.of_eq (by kernel_rfl) (by kernel_rfl) rfl rfl (zshp_of (i := ti22) (s0 := (.sl (.int .i64))) rfl rfl rfl rfl)
@[reducible] def ti24 : TI := { desc := .slice 22, size := 1, bytes := 24, zero := [.slice none 0 0], shp := some (.sl (.sl (.int .i64))) }
theorem ti24_ok : TIOK Try.prog 24 ti24 := TIOK.of_eq (by kernel_rfl) (by kernel_rfl) rfl rfl (zshp_of (i := ti24) (s0 := (.sl (.sl (.int .i64)))) rfl rfl rfl rfl)
@[reducible] def ti25 : TI := { desc := .int .i64, size := 1, bytes := 8, zero := [.int .i64 0], shp := some (.int .i64) }
theorem ti25_ok : TIOK Try.prog 25 ti25 := TIOK.of_eq (by kernel_rfl) (by kernel_rfl) rfl rfl (zshp_of (i := ti25) (s0 := (.int .i64)) rfl rfl rfl rfl)
@[reducible] def ti46 : TI := { desc := .int .u64, size := 1, bytes := 8, zero := [.int .u64 0], shp := some (.int .u64) }
theorem ti46_ok : TIOK Try.prog 46 ti46 := TIOK.of_eq (by kernel_rfl) (by kernel_rfl) rfl rfl (zshp_of (i := ti46) (s0 := (.int .u64)) rfl rfl rfl rfl)
@[reducible] def ti59 : TI := { desc := .int .u32, size := 1, bytes := 4, zero := [.int .u32 0], shp := some (.int .u32) }
theorem ti59_ok : TIOK Try.prog 59 ti59 := TIOK.of_eq (by kernel_rfl) (by kernel_rfl) rfl rfl (zshp_of (i := ti59) (s0 := (.int .u32)) rfl rfl rfl rfl)
@[reducible] def ti61 : TI := { desc := .int .u64, size := 1, bytes := 8, zero := [.int .u64 0], shp := some (.int .u64) }
theorem ti61_ok : TIOK Try.prog 61 ti61 := TIOK.of_eq (by kernel_rfl) (by kernel_rfl) rfl rfl (zshp_of (i := ti61) (s0 := (.int .u64)) rfl rfl rfl rfl)
@[reducible] def tis : List (Nat × TI) := [(3, ti3), (4, ti4), (5, ti5), (9, ti9), (22, ti22), (24, ti24), (25, ti25), (46, ti46), (59, ti59), (61, ti61)]
theorem tis_ok : TisOK Try.prog tis := ⟨ti3_ok, ti4_ok, ti5_ok, ti9_ok, ti22_ok, ti24_ok, ti25_ok, ti46_ok, ti59_ok, ti61_ok, trivial⟩
end Go.Proofs.Ytkndekaioeifdaa
