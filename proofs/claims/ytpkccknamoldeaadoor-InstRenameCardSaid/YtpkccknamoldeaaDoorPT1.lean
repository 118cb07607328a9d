/- types -/
import Derived.Test.YtpkccknamoldeaaDoorProg
import Derived.Test.YtpkccknamoldeaaDoorEngQ
set_option linter.unusedSimpArgs false
set_option linter.unusedVariables false
set_option maxRecDepth 100000
namespace Go.Proofs.YtpkccknamoldeaaDoor
open Go Go.Eng
@[reducible] def ti3 : TI := { desc := .int .i64, size := 1, bytes := 8, zero := [.int .i64 0], shp := some (.int .i64) }
theorem ti3_ok : TIOK Tryd.prog 3 ti3 := TIOK.of_eq (by kernel_rfl) (by kernel_rfl) rfl rfl (zshp_of (i := ti3) (s0 := (.int .i64)) rfl rfl rfl rfl)
@[reducible] def ti4 : TI := { desc := .bool, size := 1, bytes := 1, zero := [.bool false], shp := some .bool }
theorem ti4_ok : TIOK Tryd.prog 4 ti4 := TIOK.of_eq (by kernel_rfl) (by kernel_rfl) rfl rfl (zshp_of (i := ti4) (s0 := .bool) rfl rfl rfl rfl)
@[reducible] def ti5 : TI := { desc := .int .u8, size := 1, bytes := 1, zero := [.int .u8 0], shp := some (.int .u8) }
theorem ti5_ok : TIOK Tryd.prog 5 ti5 := TIOK.of_eq (by kernel_rfl) (by kernel_rfl) rfl rfl (zshp_of (i := ti5) (s0 := (.int .u8)) rfl rfl rfl rfl)
@[reducible] def ti9 : TI := { desc := .string, size := 1, bytes := 16, zero := [.string ⟨#[]⟩], shp := some .str }
theorem ti9_ok : TIOK Tryd.prog 9 ti9 := TIOK.of_eq (by kernel_rfl) (by kernel_rfl) rfl rfl (zshp_of (i := ti9) (s0 := .str) rfl rfl rfl rfl)
@[reducible] def ti22 : TI := { desc := .int .i64, size := 1, bytes := 8, zero := [.int .i64 0], shp := some (.int .i64) }
theorem ti22_ok : TIOK Tryd.prog 22 ti22 := TIOK.of_eq (by kernel_rfl) (by kernel_rfl) rfl rfl (zshp_of (i := ti22) (s0 := (.int .i64)) rfl rfl rfl rfl)
@[reducible] def ti23 : TI := { desc := .int .i64, size := 1, bytes := 8, zero := [.int .i64 0], shp := some (.int .i64) }
theorem ti23_ok : TIOK Tryd.prog 23 ti23 := TIOK.of_eq (by kernel_rfl) (by kernel_rfl) rfl rfl (zshp_of (i := ti23) (s0 := (.int .i64)) rfl rfl rfl rfl)
@[reducible] def ti24 : TI := { desc := .int .i64, size := 1, bytes := 8, zero := [.int .i64 0], shp := some (.int .i64) }
theorem ti24_ok : TIOK Tryd.prog 24 ti24 := TIOK.of_eq (by kernel_rfl) (by kernel_rfl) rfl rfl (zshp_of (i := ti24) (s0 := (.int .i64)) rfl rfl rfl rfl)
@[reducible] def ti26 : TI := { desc := .struct #[fld 22 0, fld 3 1, fld 3 2, fld 3 3, fld 3 4, fld 3 5, fld 23 6, fld 24 7], size := 8, bytes := 64, zero := [.int .i64 0, .int .i64 0, .int .i64 0, .int .i64 0, .int .i64 0, .int .i64 0, .int .i64 0, .int .i64 0], shp := some (.pair (.int .i64) (.pair (.int .i64) (.pair (.int .i64) (.pair (.int .i64) (.pair (.int .i64) (.pair (.int .i64) (.pair (.int .i64) (.pair (.int .i64) .unit)))))))), eqf := [.i, .i, .i, .i, .i, .i, .i, .i] }
theorem ti26_ok : TIOK Tryd.prog 26 ti26 := TIOK.of_eq (by kernel_rfl) (by kernel_rfl) rfl rfl (zshp_of (i := ti26) (s0 := (.pair (.int .i64) (.pair (.int .i64) (.pair (.int .i64) (.pair (.int .i64) (.pair (.int .i64) (.pair (.int .i64) (.pair (.int .i64) (.pair (.int .i64) .unit))))))))) rfl rfl rfl rfl) (fun _ => by kernel_rfl)
@[reducible] def ti30 : TI := { desc := .int .i64, size := 1, bytes := 8, zero := [.int .i64 0], shp := some (.int .i64) }
theorem ti30_ok : TIOK Tryd.prog 30 ti30 := TIOK.of_eq (by kernel_rfl) (by kernel_rfl) rfl rfl (zshp_of (i := ti30) (s0 := (.int .i64)) rfl rfl rfl rfl)
@[reducible] def ti33 : TI := { desc := .slice 3, size := 1, bytes := 24, zero := [.slice none 0 0], shp := some (.sl (.int .i64)) }
theorem ti33_ok : TIOK Tryd.prog 33 ti33 := TIOK.of_eq (by kernel_rfl) (by kernel_rfl) rfl rfl (zshp_of (i := ti33) (s0 := (.sl (.int .i64))) rfl rfl rfl rfl)
@[reducible] def ti39 : TI := { desc := .int .u32, size := 1, bytes := 4, zero := [.int .u32 0], shp := some (.int .u32) }
theorem ti39_ok : TIOK Tryd.prog 39 ti39 := TIOK.of_eq (by kernel_rfl) (by kernel_rfl) rfl rfl (zshp_of (i := ti39) (s0 := (.int .u32)) rfl rfl rfl rfl)
@[reducible] def ti53 : TI := { desc := .array 7 4, size := 7, bytes := 7, zero := [.bool false, .bool false, .bool false, .bool false, .bool false, .bool false, .bool false], shp := some (.arr 7 .bool) }
theorem ti53_ok : TIOK Tryd.prog 53 ti53 := TIOK.of_eq (by kernel_rfl) (by kernel_rfl) rfl rfl (zshp_of (i := ti53) (s0 := (.arr 7 .bool)) rfl rfl rfl rfl)
@[reducible] def ti55 : TI := { desc := .struct #[fld 9 0, fld 53 1], size := 8, bytes := 24, zero := [.string ⟨#[]⟩, .bool false, .bool false, .bool false, .bool false, .bool false, .bool false, .bool false], shp := some (.pair .str (.pair (.arr 7 .bool) .unit)) }
theorem ti55_ok : TIOK Tryd.prog 55 ti55 := TIOK.of_eq (by kernel_rfl) (by kernel_rfl) rfl rfl (zshp_of (i := ti55) (s0 := (.pair .str (.pair (.arr 7 .bool) .unit))) rfl rfl rfl rfl)
@[reducible] def ti56 : TI := { desc := .array 22 55, size := 176, bytes := 528, zero := [.string ⟨#[]⟩, .bool false, .bool false, .bool false, .bool false, .bool false, .bool false, .bool false, .string ⟨#[]⟩, .bool false, .bool false, .bool false, .bool false, .bool false, .bool false, .bool false, .string ⟨#[]⟩, .bool false, .bool false, .bool false, .bool false, .bool false, .bool false, .bool false, .string ⟨#[]⟩, .bool false, .bool false, .bool false, .bool false, .bool false, .bool false, .bool false, .string ⟨#[]⟩, .bool false, .bool false, .bool false, .bool false, .bool false, .bool false, .bool false, .string ⟨#[]⟩, .bool false, .bool false, .bool false, .bool false, .bool false, .bool false, .bool false, .string ⟨#[]⟩, .bool false, .bool false, .bool false, .bool false, .bool false, .bool false, .bool false, .string ⟨#[]⟩, .bool false, .bool false, .bool false, .bool false, .bool false, .bool false, .bool false, .string ⟨#[]⟩, .bool false, .bool false, .bool false, .bool false, .bool false, .bool false, .bool false, .string ⟨#[]⟩, .bool false, .bool false, .bool false, .bool false, .bool false, .bool false, .bool false, .string ⟨#[]⟩, .bool false, .bool false, .bool false, .bool false, .bool false, .bool false, .bool false, .string ⟨#[]⟩, .bool false, .bool false, .bool false, .bool false, .bool false, .bool false, .bool false, .string ⟨#[]⟩, .bool false, .bool false, .bool false, .bool false, .bool false, .bool false, .bool false, .string ⟨#[]⟩, .bool false, .bool false, .bool false, .bool false, .bool false, .bool false, .bool false, .string ⟨#[]⟩, .bool false, .bool false, .bool false, .bool false, .bool false, .bool false, .bool false, .string ⟨#[]⟩, .bool false, .bool false, .bool false, .bool false, .bool false, .bool false, .bool false, .string ⟨#[]⟩, .bool false, .bool false, .bool false, .bool false, .bool false, .bool false, .bool false, .string ⟨#[]⟩, .bool false, .bool false, .bool false, .bool false, .bool false, .bool false, .bool false, .string ⟨#[]⟩, .bool false, .bool false, .bool false, .bool false, .bool false, .bool false, .bool false, .string ⟨#[]⟩, .bool false, .bool false, .bool false, .bool false, .bool false, .bool false, .bool false, .string ⟨#[]⟩, .bool false, .bool false, .bool false, .bool false, .bool false, .bool false, .bool false, .string ⟨#[]⟩, .bool false, .bool false, .bool false, .bool false, .bool false, .bool false, .bool false], shp := some (.arr 22 (.pair .str (.pair (.arr 7 .bool) .unit))) }
theorem ti56_ok : TIOK Tryd.prog 56 ti56 := TIOK.of_eq (by kernel_rfl) (by kernel_rfl) rfl rfl (zshp_of (i := ti56) (s0 := (.arr 22 (.pair .str (.pair (.arr 7 .bool) .unit)))) rfl rfl rfl rfl)
@[reducible] def ti58 : TI := { desc := .array 7 3, size := 7, bytes := 56, zero := [.int .i64 0, .int .i64 0, .int .i64 0, .int .i64 0, .int .i64 0, .int .i64 0, .int .i64 0], shp := some (.arr 7 (.int .i64)) }
theorem ti58_ok : TIOK Tryd.prog 58 ti58 := TIOK.of_eq (by kernel_rfl) (by kernel_rfl) rfl rfl (zshp_of (i := ti58) (s0 := (.arr 7 (.int .i64))) rfl rfl rfl rfl)
@[reducible] def ti60 : TI := { desc := .array 3 3, size := 3, bytes := 24, zero := [.int .i64 0, .int .i64 0, .int .i64 0], shp := some (.arr 3 (.int .i64)) }
theorem ti60_ok : TIOK Tryd.prog 60 ti60 := TIOK.of_eq (by kernel_rfl) (by kernel_rfl) rfl rfl (zshp_of (i := ti60) (s0 := (.arr 3 (.int .i64))) rfl rfl rfl rfl)
@[reducible] def ti65 : TI := { desc := .int .u64, size := 1, bytes := 8, zero := [.int .u64 0], shp := some (.int .u64) }
theorem ti65_ok : TIOK Tryd.prog 65 ti65 := TIOK.of_eq (by kernel_rfl) (by kernel_rfl) rfl rfl (zshp_of (i := ti65) (s0 := (.int .u64)) rfl rfl rfl rfl)
@[reducible] def ti66 : TI := { desc := .slice 9, size := 1, bytes := 24, zero := [.slice none 0 0], shp := some (.sl .str) }
theorem ti66_ok : TIOK Tryd.prog 66 ti66 := TIOK.of_eq (by kernel_rfl) (by kernel_rfl) rfl rfl (zshp_of (i := ti66) (s0 := (.sl .str)) rfl rfl rfl rfl)
@[reducible] def ti68 : TI := { desc := .array 3 9, size := 3, bytes := 48, zero := [.string ⟨#[]⟩, .string ⟨#[]⟩, .string ⟨#[]⟩], shp := some (.arr 3 .str) }
theorem ti68_ok : TIOK Tryd.prog 68 ti68 := TIOK.of_eq (by kernel_rfl) (by kernel_rfl) rfl rfl (zshp_of (i := ti68) (s0 := (.arr 3 .str)) rfl rfl rfl rfl)
@[reducible] def ti69 : TI := { desc := .array 10 9, size := 10, bytes := 160, zero := [.string ⟨#[]⟩, .string ⟨#[]⟩, .string ⟨#[]⟩, .string ⟨#[]⟩, .string ⟨#[]⟩, .string ⟨#[]⟩, .string ⟨#[]⟩, .string ⟨#[]⟩, .string ⟨#[]⟩, .string ⟨#[]⟩], shp := some (.arr 10 .str) }
theorem ti69_ok : TIOK Tryd.prog 69 ti69 := TIOK.of_eq (by kernel_rfl) (by kernel_rfl) rfl rfl (zshp_of (i := ti69) (s0 := (.arr 10 .str)) rfl rfl rfl rfl)
@[reducible] def ti84 : TI := { desc := .int .u64, size := 1, bytes := 8, zero := [.int .u64 0], shp := some (.int .u64) }
theorem ti84_ok : TIOK Tryd.prog 84 ti84 := TIOK.of_eq (by kernel_rfl) (by kernel_rfl) rfl rfl (zshp_of (i := ti84) (s0 := (.int .u64)) rfl rfl rfl rfl)
@[reducible] def tis : List (Nat × TI) := [(3, ti3), (4, ti4), (5, ti5), (9, ti9), (22, ti22), (23, ti23), (24, ti24), (26, ti26), (30, ti30), (33, ti33), (39, ti39), (53, ti53), (55, ti55), (56, ti56), (58, ti58), (60, ti60), (65, ti65), (66, ti66), (68, ti68), (69, ti69), (84, ti84)]
theorem tis_ok : TisOK Tryd.prog tis := ⟨ti3_ok, ti4_ok, ti5_ok, ti9_ok, ti22_ok, ti23_ok, ti24_ok, ti26_ok, ti30_ok, ti33_ok, ti39_ok, ti53_ok, ti55_ok, ti56_ok, ti58_ok, ti60_ok, ti65_ok, ti66_ok, ti68_ok, ti69_ok, ti84_ok, trivial⟩
end Go.Proofs.YtpkccknamoldeaaDoor
