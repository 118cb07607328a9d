/- Texts of this claim, part 6: T1, C1, V1, K1, SH, V2, V4, V3, V5, V6, V7, V8, V9. Conditions: those of the given rows. -/
import Derived.Test.YtklnffdjhoacoaaDoorB5
import Derived.Test.YtklnffdjhoacoaaDoorProg
import Derived.Shelf.Small.Bits
import Derived.Shelf.Strconv.Itoa0
import Derived.Shelf.Sort.Plain
import Derived.Ground.Names2Prog
import Derived.Shelf.Slices.Clone
import Derived.Shelf.Slices.CompactI
import Derived.Shelf.Slices.SearchI
import Derived.Shelf.Slices.Cells
import Derived.Ground.SlgnProg
import Derived.Shelf.SlicesE.Clone
set_option linter.unusedSimpArgs false
set_option linter.unusedVariables false
set_option maxRecDepth 100000
namespace Go.Proofs.YtklnffdjhoacoaaDoor
open Go Go.Eng
@[reducible] def I6 : Sh := .int .i64
@[reducible] def ti3 : TI := { desc := .int .i64, size := 1, bytes := 8, zero := [.int .i64 0], shp := some (.int .i64) }
theorem ti3_ok : TIOK Tryd.prog 3 ti3 := TIOK.of_eq (by kernel_rfl) (by kernel_rfl) rfl rfl (zshp_of (i := ti3) (s0 := (.int .i64)) rfl rfl rfl rfl)
@[reducible] def ti4 : TI := { desc := .bool, size := 1, bytes := 1, zero := [.bool false], shp := some .bool }
theorem ti4_ok : TIOK Tryd.prog 4 ti4 := TIOK.of_eq (by kernel_rfl) (by kernel_rfl) rfl rfl (zshp_of (i := ti4) (s0 := .bool) rfl rfl rfl rfl)
@[reducible] def ti5 : TI := { desc := .int .u8, size := 1, bytes := 1, zero := [.int .u8 0], shp := some (.int .u8) }
theorem ti5_ok : TIOK Tryd.prog 5 ti5 := TIOK.of_eq (by kernel_rfl) (by kernel_rfl) rfl rfl (zshp_of (i := ti5) (s0 := (.int .u8)) rfl rfl rfl rfl)
@[reducible] def ti9 : TI := { desc := .string, size := 1, bytes := 16, zero := [.string ⟨#[]⟩], shp := some .str }
theorem ti9_ok : TIOK Tryd.prog 9 ti9 := TIOK.of_eq (by kernel_rfl) (by kernel_rfl) rfl rfl (zshp_of (i := ti9) (s0 := .str) rfl rfl rfl rfl)
@[reducible] def ti21 : TI := { desc := .int .i32, size := 1, bytes := 4, zero := [.int .i32 0], shp := some (.int .i32) }
theorem ti21_ok : TIOK Tryd.prog 21 ti21 := TIOK.of_eq (by kernel_rfl) (by kernel_rfl) rfl rfl (zshp_of (i := ti21) (s0 := (.int .i32)) rfl rfl rfl rfl)
@[reducible] def ti22 : TI := { desc := .array 8 3, size := 8, bytes := 64, zero := [.int .i64 0, .int .i64 0, .int .i64 0, .int .i64 0, .int .i64 0, .int .i64 0, .int .i64 0, .int .i64 0], shp := some (.arr 8 (.int .i64)), eqf := [.i] }
theorem ti22_ok : TIOK Tryd.prog 22 ti22 := TIOK.of_eq (by kernel_rfl) (by kernel_rfl) rfl rfl (zshp_of (i := ti22) (s0 := (.arr 8 (.int .i64))) rfl rfl rfl rfl) (fun _ => by kernel_rfl)
@[reducible] def ti23 : TI := { desc := .int .i64, size := 1, bytes := 8, zero := [.int .i64 0], shp := some (.int .i64) }
theorem ti23_ok : TIOK Tryd.prog 23 ti23 := TIOK.of_eq (by kernel_rfl) (by kernel_rfl) rfl rfl (zshp_of (i := ti23) (s0 := (.int .i64)) rfl rfl rfl rfl)
@[reducible] def ti24 : TI := { desc := .int .i64, size := 1, bytes := 8, zero := [.int .i64 0], shp := some (.int .i64) }
theorem ti24_ok : TIOK Tryd.prog 24 ti24 := TIOK.of_eq (by kernel_rfl) (by kernel_rfl) rfl rfl (zshp_of (i := ti24) (s0 := (.int .i64)) rfl rfl rfl rfl)
@[reducible] def ti25 : TI := { desc := .int .i64, size := 1, bytes := 8, zero := [.int .i64 0], shp := some (.int .i64) }
theorem ti25_ok : TIOK Tryd.prog 25 ti25 := TIOK.of_eq (by kernel_rfl) (by kernel_rfl) rfl rfl (zshp_of (i := ti25) (s0 := (.int .i64)) rfl rfl rfl rfl)
@[reducible] def ti26 : TI := { desc := .slice 3, size := 1, bytes := 24, zero := [.slice none 0 0], shp := some (.sl (.int .i64)) }
theorem ti26_ok : TIOK Tryd.prog 26 ti26 := TIOK.of_eq (by kernel_rfl) (by kernel_rfl) rfl rfl (zshp_of (i := ti26) (s0 := (.sl (.int .i64))) rfl rfl rfl rfl)
@[reducible] def ti27 : TI := { desc := .struct #[fld 3 0, fld 3 1, fld 3 2, fld 22 3, fld 3 11, fld 3 12, fld 23 13, fld 24 14, fld 25 15, fld 26 16], size := 17, bytes := 152, zero := [.int .i64 0, .int .i64 0, .int .i64 0, .int .i64 0, .int .i64 0, .int .i64 0, .int .i64 0, .int .i64 0, .int .i64 0, .int .i64 0, .int .i64 0, .int .i64 0, .int .i64 0, .int .i64 0, .int .i64 0, .int .i64 0, .slice none 0 0], shp := some (.pair (.int .i64) (.pair (.int .i64) (.pair (.int .i64) (.pair (.arr 8 (.int .i64)) (.pair (.int .i64) (.pair (.int .i64) (.pair (.int .i64) (.pair (.int .i64) (.pair (.int .i64) (.pair (.sl (.int .i64)) .unit)))))))))) }
theorem ti27_ok : TIOK Tryd.prog 27 ti27 := TIOK.of_eq (by kernel_rfl) (by kernel_rfl) rfl rfl (zshp_of (i := ti27) (s0 := (.pair (.int .i64) (.pair (.int .i64) (.pair (.int .i64) (.pair (.arr 8 (.int .i64)) (.pair (.int .i64) (.pair (.int .i64) (.pair (.int .i64) (.pair (.int .i64) (.pair (.int .i64) (.pair (.sl (.int .i64)) .unit))))))))))) rfl rfl rfl rfl)
@[reducible] def ti28 : TI := { desc := .struct #[fld 3 0, fld 3 1, fld 3 2, fld 22 3, fld 3 11, fld 3 12, fld 23 13, fld 24 14, fld 25 15, fld 26 16], size := 17, bytes := 152, zero := [.int .i64 0, .int .i64 0, .int .i64 0, .int .i64 0, .int .i64 0, .int .i64 0, .int .i64 0, .int .i64 0, .int .i64 0, .int .i64 0, .int .i64 0, .int .i64 0, .int .i64 0, .int .i64 0, .int .i64 0, .int .i64 0, .slice none 0 0], shp := some (.pair (.int .i64) (.pair (.int .i64) (.pair (.int .i64) (.pair (.arr 8 (.int .i64)) (.pair (.int .i64) (.pair (.int .i64) (.pair (.int .i64) (.pair (.int .i64) (.pair (.int .i64) (.pair (.sl (.int .i64)) .unit)))))))))) }
theorem ti28_ok : TIOK Tryd.prog 28 ti28 := TIOK.of_eq (by kernel_rfl) (by kernel_rfl) rfl rfl (zshp_of (i := ti28) (s0 := (.pair (.int .i64) (.pair (.int .i64) (.pair (.int .i64) (.pair (.arr 8 (.int .i64)) (.pair (.int .i64) (.pair (.int .i64) (.pair (.int .i64) (.pair (.int .i64) (.pair (.int .i64) (.pair (.sl (.int .i64)) .unit))))))))))) rfl rfl rfl rfl)
@[reducible] def ti35 : TI := { desc := .slice 28, size := 1, bytes := 24, zero := [.slice none 0 0], shp := some (.sl (.pair (.int .i64) (.pair (.int .i64) (.pair (.int .i64) (.pair (.arr 8 (.int .i64)) (.pair (.int .i64) (.pair (.int .i64) (.pair (.int .i64) (.pair (.int .i64) (.pair (.int .i64) (.pair (.sl (.int .i64)) .unit))))))))))) }
theorem ti35_ok : TIOK Tryd.prog 35 ti35 := TIOK.of_eq (by kernel_rfl) (by kernel_rfl) rfl rfl (zshp_of (i := ti35) (s0 := (.sl (.pair (.int .i64) (.pair (.int .i64) (.pair (.int .i64) (.pair (.arr 8 (.int .i64)) (.pair (.int .i64) (.pair (.int .i64) (.pair (.int .i64) (.pair (.int .i64) (.pair (.int .i64) (.pair (.sl (.int .i64)) .unit)))))))))))) rfl rfl rfl rfl)
@[reducible] def ti38 : TI := { desc := .slice 75, size := 1, bytes := 24, zero := [.slice none 0 0], shp := some (.sl (.pair .str (.pair (.int .i64) .unit))) }
theorem ti38_ok : TIOK Tryd.prog 38 ti38 := TIOK.of_eq (by kernel_rfl) (by kernel_rfl) rfl rfl (zshp_of (i := ti38) (s0 := (.sl (.pair .str (.pair (.int .i64) .unit)))) rfl rfl rfl rfl)
@[reducible] def ti39 : TI := { desc := .slice 9, size := 1, bytes := 24, zero := [.slice none 0 0], shp := some (.sl .str) }
theorem ti39_ok : TIOK Tryd.prog 39 ti39 := TIOK.of_eq (by kernel_rfl) (by kernel_rfl) rfl rfl (zshp_of (i := ti39) (s0 := (.sl .str)) rfl rfl rfl rfl)
@[reducible] def ti40 : TI := { desc := .slice 60, size := 1, bytes := 24, zero := [.slice none 0 0], shp := some (.sl (.pair .str (.pair (.sl (.pair (.int .i64) (.pair (.int .i64) (.pair (.int .i64) (.pair (.int .i64) (.pair (.int .i64) (.pair (.int .i64) (.pair (.int .i64) (.pair (.int .i64) .unit))))))))) .unit))) }
theorem ti40_ok : TIOK Tryd.prog 40 ti40 := TIOK.of_eq (by kernel_rfl) (by kernel_rfl) rfl rfl (zshp_of (i := ti40) (s0 := (.sl (.pair .str (.pair (.sl (.pair (.int .i64) (.pair (.int .i64) (.pair (.int .i64) (.pair (.int .i64) (.pair (.int .i64) (.pair (.int .i64) (.pair (.int .i64) (.pair (.int .i64) .unit))))))))) .unit)))) rfl rfl rfl rfl)
@[reducible] def ti41 : TI := { desc := .slice 77, size := 1, bytes := 24, zero := [.slice none 0 0], shp := some (.sl (.pair (.int .i64) (.pair (.int .i64) .unit))) }
theorem ti41_ok : TIOK Tryd.prog 41 ti41 := TIOK.of_eq (by kernel_rfl) (by kernel_rfl) rfl rfl (zshp_of (i := ti41) (s0 := (.sl (.pair (.int .i64) (.pair (.int .i64) .unit)))) rfl rfl rfl rfl)
@[reducible] def ti42 : TI := { desc := .struct #[fld 38 0, fld 39 1, fld 39 2, fld 40 3, fld 41 4], size := 5, bytes := 120, zero := [.slice none 0 0, .slice none 0 0, .slice none 0 0, .slice none 0 0, .slice none 0 0], shp := some (.pair (.sl (.pair .str (.pair (.int .i64) .unit))) (.pair (.sl .str) (.pair (.sl .str) (.pair (.sl (.pair .str (.pair (.sl (.pair (.int .i64) (.pair (.int .i64) (.pair (.int .i64) (.pair (.int .i64) (.pair (.int .i64) (.pair (.int .i64) (.pair (.int .i64) (.pair (.int .i64) .unit))))))))) .unit))) (.pair (.sl (.pair (.int .i64) (.pair (.int .i64) .unit))) .unit))))) }
theorem ti42_ok : TIOK Tryd.prog 42 ti42 := TIOK.of_eq (by kernel_rfl) (by kernel_rfl) rfl rfl (zshp_of (i := ti42) (s0 := (.pair (.sl (.pair .str (.pair (.int .i64) .unit))) (.pair (.sl .str) (.pair (.sl .str) (.pair (.sl (.pair .str (.pair (.sl (.pair (.int .i64) (.pair (.int .i64) (.pair (.int .i64) (.pair (.int .i64) (.pair (.int .i64) (.pair (.int .i64) (.pair (.int .i64) (.pair (.int .i64) .unit))))))))) .unit))) (.pair (.sl (.pair (.int .i64) (.pair (.int .i64) .unit))) .unit)))))) rfl rfl rfl rfl)
@[reducible] def ti43 : TI := { desc := .struct #[fld 38 0, fld 39 1, fld 39 2, fld 40 3, fld 41 4], size := 5, bytes := 120, zero := [.slice none 0 0, .slice none 0 0, .slice none 0 0, .slice none 0 0, .slice none 0 0], shp := some (.pair (.sl (.pair .str (.pair (.int .i64) .unit))) (.pair (.sl .str) (.pair (.sl .str) (.pair (.sl (.pair .str (.pair (.sl (.pair (.int .i64) (.pair (.int .i64) (.pair (.int .i64) (.pair (.int .i64) (.pair (.int .i64) (.pair (.int .i64) (.pair (.int .i64) (.pair (.int .i64) .unit))))))))) .unit))) (.pair (.sl (.pair (.int .i64) (.pair (.int .i64) .unit))) .unit))))) }
theorem ti43_ok : TIOK Tryd.prog 43 ti43 := TIOK.of_eq (by kernel_rfl) (by kernel_rfl) rfl rfl (zshp_of (i := ti43) (s0 := (.pair (.sl (.pair .str (.pair (.int .i64) .unit))) (.pair (.sl .str) (.pair (.sl .str) (.pair (.sl (.pair .str (.pair (.sl (.pair (.int .i64) (.pair (.int .i64) (.pair (.int .i64) (.pair (.int .i64) (.pair (.int .i64) (.pair (.int .i64) (.pair (.int .i64) (.pair (.int .i64) .unit))))))))) .unit))) (.pair (.sl (.pair (.int .i64) (.pair (.int .i64) .unit))) .unit)))))) rfl rfl rfl rfl)
@[reducible] def ti44 : TI := { desc := .struct #[fld 43 0, fld 3 5, fld 3 6, fld 28 7], size := 24, bytes := 288, zero := [.slice none 0 0, .slice none 0 0, .slice none 0 0, .slice none 0 0, .slice none 0 0, .int .i64 0, .int .i64 0, .int .i64 0, .int .i64 0, .int .i64 0, .int .i64 0, .int .i64 0, .int .i64 0, .int .i64 0, .int .i64 0, .int .i64 0, .int .i64 0, .int .i64 0, .int .i64 0, .int .i64 0, .int .i64 0, .int .i64 0, .int .i64 0, .slice none 0 0], shp := some (.pair (.pair (.sl (.pair .str (.pair (.int .i64) .unit))) (.pair (.sl .str) (.pair (.sl .str) (.pair (.sl (.pair .str (.pair (.sl (.pair (.int .i64) (.pair (.int .i64) (.pair (.int .i64) (.pair (.int .i64) (.pair (.int .i64) (.pair (.int .i64) (.pair (.int .i64) (.pair (.int .i64) .unit))))))))) .unit))) (.pair (.sl (.pair (.int .i64) (.pair (.int .i64) .unit))) .unit))))) (.pair (.int .i64) (.pair (.int .i64) (.pair (.pair (.int .i64) (.pair (.int .i64) (.pair (.int .i64) (.pair (.arr 8 (.int .i64)) (.pair (.int .i64) (.pair (.int .i64) (.pair (.int .i64) (.pair (.int .i64) (.pair (.int .i64) (.pair (.sl (.int .i64)) .unit)))))))))) .unit)))) }
theorem ti44_ok : TIOK Tryd.prog 44 ti44 := TIOK.of_eq (by kernel_rfl) (by kernel_rfl) rfl rfl (zshp_of (i := ti44) (s0 := (.pair (.pair (.sl (.pair .str (.pair (.int .i64) .unit))) (.pair (.sl .str) (.pair (.sl .str) (.pair (.sl (.pair .str (.pair (.sl (.pair (.int .i64) (.pair (.int .i64) (.pair (.int .i64) (.pair (.int .i64) (.pair (.int .i64) (.pair (.int .i64) (.pair (.int .i64) (.pair (.int .i64) .unit))))))))) .unit))) (.pair (.sl (.pair (.int .i64) (.pair (.int .i64) .unit))) .unit))))) (.pair (.int .i64) (.pair (.int .i64) (.pair (.pair (.int .i64) (.pair (.int .i64) (.pair (.int .i64) (.pair (.arr 8 (.int .i64)) (.pair (.int .i64) (.pair (.int .i64) (.pair (.int .i64) (.pair (.int .i64) (.pair (.int .i64) (.pair (.sl (.int .i64)) .unit)))))))))) .unit))))) rfl rfl rfl rfl)
@[reducible] def ti45 : TI := { desc := .struct #[fld 43 0, fld 3 5, fld 3 6, fld 28 7], size := 24, bytes := 288, zero := [.slice none 0 0, .slice none 0 0, .slice none 0 0, .slice none 0 0, .slice none 0 0, .int .i64 0, .int .i64 0, .int .i64 0, .int .i64 0, .int .i64 0, .int .i64 0, .int .i64 0, .int .i64 0, .int .i64 0, .int .i64 0, .int .i64 0, .int .i64 0, .int .i64 0, .int .i64 0, .int .i64 0, .int .i64 0, .int .i64 0, .int .i64 0, .slice none 0 0], shp := some (.pair (.pair (.sl (.pair .str (.pair (.int .i64) .unit))) (.pair (.sl .str) (.pair (.sl .str) (.pair (.sl (.pair .str (.pair (.sl (.pair (.int .i64) (.pair (.int .i64) (.pair (.int .i64) (.pair (.int .i64) (.pair (.int .i64) (.pair (.int .i64) (.pair (.int .i64) (.pair (.int .i64) .unit))))))))) .unit))) (.pair (.sl (.pair (.int .i64) (.pair (.int .i64) .unit))) .unit))))) (.pair (.int .i64) (.pair (.int .i64) (.pair (.pair (.int .i64) (.pair (.int .i64) (.pair (.int .i64) (.pair (.arr 8 (.int .i64)) (.pair (.int .i64) (.pair (.int .i64) (.pair (.int .i64) (.pair (.int .i64) (.pair (.int .i64) (.pair (.sl (.int .i64)) .unit)))))))))) .unit)))) }
theorem ti45_ok : TIOK Tryd.prog 45 ti45 := TIOK.of_eq (by kernel_rfl) (by kernel_rfl) rfl rfl (zshp_of (i := ti45) (s0 := (.pair (.pair (.sl (.pair .str (.pair (.int .i64) .unit))) (.pair (.sl .str) (.pair (.sl .str) (.pair (.sl (.pair .str (.pair (.sl (.pair (.int .i64) (.pair (.int .i64) (.pair (.int .i64) (.pair (.int .i64) (.pair (.int .i64) (.pair (.int .i64) (.pair (.int .i64) (.pair (.int .i64) .unit))))))))) .unit))) (.pair (.sl (.pair (.int .i64) (.pair (.int .i64) .unit))) .unit))))) (.pair (.int .i64) (.pair (.int .i64) (.pair (.pair (.int .i64) (.pair (.int .i64) (.pair (.int .i64) (.pair (.arr 8 (.int .i64)) (.pair (.int .i64) (.pair (.int .i64) (.pair (.int .i64) (.pair (.int .i64) (.pair (.int .i64) (.pair (.sl (.int .i64)) .unit)))))))))) .unit))))) rfl rfl rfl rfl)
@[reducible] def ti51 : TI := { desc := .int .i64, size := 1, bytes := 8, zero := [.int .i64 0], shp := some (.int .i64) }
theorem ti51_ok : TIOK Tryd.prog 51 ti51 := TIOK.of_eq (by kernel_rfl) (by kernel_rfl) rfl rfl (zshp_of (i := ti51) (s0 := (.int .i64)) rfl rfl rfl rfl)
@[reducible] def ti52 : TI := { desc := .int .i64, size := 1, bytes := 8, zero := [.int .i64 0], shp := some (.int .i64) }
theorem ti52_ok : TIOK Tryd.prog 52 ti52 := TIOK.of_eq (by kernel_rfl) (by kernel_rfl) rfl rfl (zshp_of (i := ti52) (s0 := (.int .i64)) rfl rfl rfl rfl)
@[reducible] def ti53 : TI := { desc := .int .i64, size := 1, bytes := 8, zero := [.int .i64 0], shp := some (.int .i64) }
theorem ti53_ok : TIOK Tryd.prog 53 ti53 := TIOK.of_eq (by kernel_rfl) (by kernel_rfl) rfl rfl (zshp_of (i := ti53) (s0 := (.int .i64)) rfl rfl rfl rfl)
@[reducible] def ti54 : TI := { desc := .struct #[fld 51 0, fld 3 1, fld 3 2, fld 3 3, fld 3 4, fld 3 5, fld 52 6, fld 53 7], size := 8, bytes := 64, zero := [.int .i64 0, .int .i64 0, .int .i64 0, .int .i64 0, .int .i64 0, .int .i64 0, .int .i64 0, .int .i64 0], shp := some (.pair (.int .i64) (.pair (.int .i64) (.pair (.int .i64) (.pair (.int .i64) (.pair (.int .i64) (.pair (.int .i64) (.pair (.int .i64) (.pair (.int .i64) .unit)))))))), eqf := [.i, .i, .i, .i, .i, .i, .i, .i] }
theorem ti54_ok : TIOK Tryd.prog 54 ti54 := TIOK.of_eq (by kernel_rfl) (by kernel_rfl) rfl rfl (zshp_of (i := ti54) (s0 := (.pair (.int .i64) (.pair (.int .i64) (.pair (.int .i64) (.pair (.int .i64) (.pair (.int .i64) (.pair (.int .i64) (.pair (.int .i64) (.pair (.int .i64) .unit))))))))) rfl rfl rfl rfl) (fun _ => by kernel_rfl)
@[reducible] def ti55 : TI := { desc := .struct #[fld 51 0, fld 3 1, fld 3 2, fld 3 3, fld 3 4, fld 3 5, fld 52 6, fld 53 7], size := 8, bytes := 64, zero := [.int .i64 0, .int .i64 0, .int .i64 0, .int .i64 0, .int .i64 0, .int .i64 0, .int .i64 0, .int .i64 0], shp := some (.pair (.int .i64) (.pair (.int .i64) (.pair (.int .i64) (.pair (.int .i64) (.pair (.int .i64) (.pair (.int .i64) (.pair (.int .i64) (.pair (.int .i64) .unit)))))))), eqf := [.i, .i, .i, .i, .i, .i, .i, .i] }
theorem ti55_ok : TIOK Tryd.prog 55 ti55 := TIOK.of_eq (by kernel_rfl) (by kernel_rfl) rfl rfl (zshp_of (i := ti55) (s0 := (.pair (.int .i64) (.pair (.int .i64) (.pair (.int .i64) (.pair (.int .i64) (.pair (.int .i64) (.pair (.int .i64) (.pair (.int .i64) (.pair (.int .i64) .unit))))))))) rfl rfl rfl rfl) (fun _ => by kernel_rfl)
@[reducible] def ti58 : TI := { desc := .slice 55, size := 1, bytes := 24, zero := [.slice none 0 0], shp := some (.sl (.pair (.int .i64) (.pair (.int .i64) (.pair (.int .i64) (.pair (.int .i64) (.pair (.int .i64) (.pair (.int .i64) (.pair (.int .i64) (.pair (.int .i64) .unit))))))))) }
theorem ti58_ok : TIOK Tryd.prog 58 ti58 := TIOK.of_eq (by kernel_rfl) (by kernel_rfl) rfl rfl (zshp_of (i := ti58) (s0 := (.sl (.pair (.int .i64) (.pair (.int .i64) (.pair (.int .i64) (.pair (.int .i64) (.pair (.int .i64) (.pair (.int .i64) (.pair (.int .i64) (.pair (.int .i64) .unit)))))))))) rfl rfl rfl rfl)
@[reducible] def ti59 : TI := { desc := .struct #[fld 9 0, fld 58 1], size := 2, bytes := 40, zero := [.string ⟨#[]⟩, .slice none 0 0], shp := some (.pair .str (.pair (.sl (.pair (.int .i64) (.pair (.int .i64) (.pair (.int .i64) (.pair (.int .i64) (.pair (.int .i64) (.pair (.int .i64) (.pair (.int .i64) (.pair (.int .i64) .unit))))))))) .unit)) }
theorem ti59_ok : TIOK Tryd.prog 59 ti59 := TIOK.of_eq (by kernel_rfl) (by kernel_rfl) rfl rfl (zshp_of (i := ti59) (s0 := (.pair .str (.pair (.sl (.pair (.int .i64) (.pair (.int .i64) (.pair (.int .i64) (.pair (.int .i64) (.pair (.int .i64) (.pair (.int .i64) (.pair (.int .i64) (.pair (.int .i64) .unit))))))))) .unit))) rfl rfl rfl rfl)
@[reducible] def ti60 : TI := { desc := .struct #[fld 9 0, fld 58 1], size := 2, bytes := 40, zero := [.string ⟨#[]⟩, .slice none 0 0], shp := some (.pair .str (.pair (.sl (.pair (.int .i64) (.pair (.int .i64) (.pair (.int .i64) (.pair (.int .i64) (.pair (.int .i64) (.pair (.int .i64) (.pair (.int .i64) (.pair (.int .i64) .unit))))))))) .unit)) }
theorem ti60_ok : TIOK Tryd.prog 60 ti60 := TIOK.of_eq (by kernel_rfl) (by kernel_rfl) rfl rfl (zshp_of (i := ti60) (s0 := (.pair .str (.pair (.sl (.pair (.int .i64) (.pair (.int .i64) (.pair (.int .i64) (.pair (.int .i64) (.pair (.int .i64) (.pair (.int .i64) (.pair (.int .i64) (.pair (.int .i64) .unit))))))))) .unit))) rfl rfl rfl rfl)
@[reducible] def ti74 : TI := { desc := .struct #[fld 9 0, fld 3 1], size := 2, bytes := 24, zero := [.string ⟨#[]⟩, .int .i64 0], shp := some (.pair .str (.pair (.int .i64) .unit)), eqf := [.s, .i] }
theorem ti74_ok : TIOK Tryd.prog 74 ti74 := TIOK.of_eq (by kernel_rfl) (by kernel_rfl) rfl rfl (zshp_of (i := ti74) (s0 := (.pair .str (.pair (.int .i64) .unit))) rfl rfl rfl rfl) (fun _ => by kernel_rfl)
@[reducible] def ti75 : TI := { desc := .struct #[fld 9 0, fld 3 1], size := 2, bytes := 24, zero := [.string ⟨#[]⟩, .int .i64 0], shp := some (.pair .str (.pair (.int .i64) .unit)), eqf := [.s, .i] }
theorem ti75_ok : TIOK Tryd.prog 75 ti75 := TIOK.of_eq (by kernel_rfl) (by kernel_rfl) rfl rfl (zshp_of (i := ti75) (s0 := (.pair .str (.pair (.int .i64) .unit))) rfl rfl rfl rfl) (fun _ => by kernel_rfl)
@[reducible] def ti76 : TI := { desc := .struct #[fld 3 0, fld 3 1], size := 2, bytes := 16, zero := [.int .i64 0, .int .i64 0], shp := some (.pair (.int .i64) (.pair (.int .i64) .unit)), eqf := [.i, .i] }
theorem ti76_ok : TIOK Tryd.prog 76 ti76 := TIOK.of_eq (by kernel_rfl) (by kernel_rfl) rfl rfl (zshp_of (i := ti76) (s0 := (.pair (.int .i64) (.pair (.int .i64) .unit))) rfl rfl rfl rfl) (fun _ => by kernel_rfl)
@[reducible] def ti77 : TI := { desc := .struct #[fld 3 0, fld 3 1], size := 2, bytes := 16, zero := [.int .i64 0, .int .i64 0], shp := some (.pair (.int .i64) (.pair (.int .i64) .unit)), eqf := [.i, .i] }
theorem ti77_ok : TIOK Tryd.prog 77 ti77 := TIOK.of_eq (by kernel_rfl) (by kernel_rfl) rfl rfl (zshp_of (i := ti77) (s0 := (.pair (.int .i64) (.pair (.int .i64) .unit))) rfl rfl rfl rfl) (fun _ => by kernel_rfl)
@[reducible] def ti80 : TI := { desc := .int .u32, size := 1, bytes := 4, zero := [.int .u32 0], shp := some (.int .u32) }
theorem ti80_ok : TIOK Tryd.prog 80 ti80 := TIOK.of_eq (by kernel_rfl) (by kernel_rfl) rfl rfl (zshp_of (i := ti80) (s0 := (.int .u32)) rfl rfl rfl rfl)
@[reducible] def ti90 : TI := { desc := .array 7 4, size := 7, bytes := 7, zero := [.bool false, .bool false, .bool false, .bool false, .bool false, .bool false, .bool false], shp := some (.arr 7 .bool) }
theorem ti90_ok : TIOK Tryd.prog 90 ti90 := TIOK.of_eq (by kernel_rfl) (by kernel_rfl) rfl rfl (zshp_of (i := ti90) (s0 := (.arr 7 .bool)) rfl rfl rfl rfl)
@[reducible] def ti91 : TI := { desc := .struct #[fld 9 0, fld 90 1], size := 8, bytes := 24, zero := [.string ⟨#[]⟩, .bool false, .bool false, .bool false, .bool false, .bool false, .bool false, .bool false], shp := some (.pair .str (.pair (.arr 7 .bool) .unit)) }
theorem ti91_ok : TIOK Tryd.prog 91 ti91 := TIOK.of_eq (by kernel_rfl) (by kernel_rfl) rfl rfl (zshp_of (i := ti91) (s0 := (.pair .str (.pair (.arr 7 .bool) .unit))) rfl rfl rfl rfl)
@[reducible] def ti92 : TI := { desc := .struct #[fld 9 0, fld 90 1], size := 8, bytes := 24, zero := [.string ⟨#[]⟩, .bool false, .bool false, .bool false, .bool false, .bool false, .bool false, .bool false], shp := some (.pair .str (.pair (.arr 7 .bool) .unit)) }
theorem ti92_ok : TIOK Tryd.prog 92 ti92 := TIOK.of_eq (by kernel_rfl) (by kernel_rfl) rfl rfl (zshp_of (i := ti92) (s0 := (.pair .str (.pair (.arr 7 .bool) .unit))) rfl rfl rfl rfl)
@[reducible] def ti93 : TI := { desc := .array 22 92, size := 176, bytes := 528, zero := [.string ⟨#[]⟩, .bool false, .bool false, .bool false, .bool false, .bool false, .bool false, .bool false, .string ⟨#[]⟩, .bool false, .bool false, .bool false, .bool false, .bool false, .bool false, .bool false, .string ⟨#[]⟩, .bool false, .bool false, .bool false, .bool false, .bool false, .bool false, .bool false, .string ⟨#[]⟩, .bool false, .bool false, .bool false, .bool false, .bool false, .bool false, .bool false, .string ⟨#[]⟩, .bool false, .bool false, .bool false, .bool false, .bool false, .bool false, .bool false, .string ⟨#[]⟩, .bool false, .bool false, .bool false, .bool false, .bool false, .bool false, .bool false, .string ⟨#[]⟩, .bool false, .bool false, .bool false, .bool false, .bool false, .bool false, .bool false, .string ⟨#[]⟩, .bool false, .bool false, .bool false, .bool false, .bool false, .bool false, .bool false, .string ⟨#[]⟩, .bool false, .bool false, .bool false, .bool false, .bool false, .bool false, .bool false, .string ⟨#[]⟩, .bool false, .bool false, .bool false, .bool false, .bool false, .bool false, .bool false, .string ⟨#[]⟩, .bool false, .bool false, .bool false, .bool false, .bool false, .bool false, .bool false, .string ⟨#[]⟩, .bool false, .bool false, .bool false, .bool false, .bool false, .bool false, .bool false, .string ⟨#[]⟩, .bool false, .bool false, .bool false, .bool false, .bool false, .bool false, .bool false, .string ⟨#[]⟩, .bool false, .bool false, .bool false, .bool false, .bool false, .bool false, .bool false, .string ⟨#[]⟩, .bool false, .bool false, .bool false, .bool false, .bool false, .bool false, .bool false, .string ⟨#[]⟩, .bool false, .bool false, .bool false, .bool false, .bool false, .bool false, .bool false, .string ⟨#[]⟩, .bool false, .bool false, .bool false, .bool false, .bool false, .bool false, .bool false, .string ⟨#[]⟩, .bool false, .bool false, .bool false, .bool false, .bool false, .bool false, .bool false, .string ⟨#[]⟩, .bool false, .bool false, .bool false, .bool false, .bool false, .bool false, .bool false, .string ⟨#[]⟩, .bool false, .bool false, .bool false, .bool false, .bool false, .bool false, .bool false, .string ⟨#[]⟩, .bool false, .bool false, .bool false, .bool false, .bool false, .bool false, .bool false, .string ⟨#[]⟩, .bool false, .bool false, .bool false, .bool false, .bool false, .bool false, .bool false], shp := some (.arr 22 (.pair .str (.pair (.arr 7 .bool) .unit))) }
theorem ti93_ok : TIOK Tryd.prog 93 ti93 := TIOK.of_eq (by kernel_rfl) (by kernel_rfl) rfl rfl (zshp_of (i := ti93) (s0 := (.arr 22 (.pair .str (.pair (.arr 7 .bool) .unit)))) rfl rfl rfl rfl)
@[reducible] def ti96 : TI := { desc := .struct #[fld 3 0, fld 3 1], size := 2, bytes := 16, zero := [.int .i64 0, .int .i64 0], shp := some (.pair (.int .i64) (.pair (.int .i64) .unit)), eqf := [.i, .i] }
theorem ti96_ok : TIOK Tryd.prog 96 ti96 := TIOK.of_eq (by kernel_rfl) (by kernel_rfl) rfl rfl (zshp_of (i := ti96) (s0 := (.pair (.int .i64) (.pair (.int .i64) .unit))) rfl rfl rfl rfl) (fun _ => by kernel_rfl)
@[reducible] def ti97 : TI := { desc := .struct #[fld 3 0, fld 3 1], size := 2, bytes := 16, zero := [.int .i64 0, .int .i64 0], shp := some (.pair (.int .i64) (.pair (.int .i64) .unit)), eqf := [.i, .i] }
theorem ti97_ok : TIOK Tryd.prog 97 ti97 := TIOK.of_eq (by kernel_rfl) (by kernel_rfl) rfl rfl (zshp_of (i := ti97) (s0 := (.pair (.int .i64) (.pair (.int .i64) .unit))) rfl rfl rfl rfl) (fun _ => by kernel_rfl)
@[reducible] def ti102 : TI := { desc := .array 7 3, size := 7, bytes := 56, zero := [.int .i64 0, .int .i64 0, .int .i64 0, .int .i64 0, .int .i64 0, .int .i64 0, .int .i64 0], shp := some (.arr 7 (.int .i64)), eqf := [.i] }
theorem ti102_ok : TIOK Tryd.prog 102 ti102 := TIOK.of_eq (by kernel_rfl) (by kernel_rfl) rfl rfl (zshp_of (i := ti102) (s0 := (.arr 7 (.int .i64))) rfl rfl rfl rfl) (fun _ => by kernel_rfl)
@[reducible] def ti104 : TI := { desc := .array 3 3, size := 3, bytes := 24, zero := [.int .i64 0, .int .i64 0, .int .i64 0], shp := some (.arr 3 (.int .i64)), eqf := [.i] }
theorem ti104_ok : TIOK Tryd.prog 104 ti104 := TIOK.of_eq (by kernel_rfl) (by kernel_rfl) rfl rfl (zshp_of (i := ti104) (s0 := (.arr 3 (.int .i64))) rfl rfl rfl rfl) (fun _ => by kernel_rfl)
@[reducible] def ti108 : TI := { desc := .slice 39, size := 1, bytes := 24, zero := [.slice none 0 0], shp := some (.sl (.sl .str)) }
theorem ti108_ok : TIOK Tryd.prog 108 ti108 := TIOK.of_eq (by kernel_rfl) (by kernel_rfl) rfl rfl (zshp_of (i := ti108) (s0 := (.sl (.sl .str))) rfl rfl rfl rfl)
@[reducible] def ti119 : TI := { desc := .array 10 9, size := 10, bytes := 160, zero := [.string ⟨#[]⟩, .string ⟨#[]⟩, .string ⟨#[]⟩, .string ⟨#[]⟩, .string ⟨#[]⟩, .string ⟨#[]⟩, .string ⟨#[]⟩, .string ⟨#[]⟩, .string ⟨#[]⟩, .string ⟨#[]⟩], shp := some (.arr 10 .str) }
theorem ti119_ok : TIOK Tryd.prog 119 ti119 := TIOK.of_eq (by kernel_rfl) (by kernel_rfl) rfl rfl (zshp_of (i := ti119) (s0 := (.arr 10 .str)) rfl rfl rfl rfl)
@[reducible] def ti122 : TI := { desc := .int .u64, size := 1, bytes := 8, zero := [.int .u64 0], shp := some (.int .u64) }
theorem ti122_ok : TIOK Tryd.prog 122 ti122 := TIOK.of_eq (by kernel_rfl) (by kernel_rfl) rfl rfl (zshp_of (i := ti122) (s0 := (.int .u64)) rfl rfl rfl rfl)
@[reducible] def ti137 : TI := { desc := .int .u64, size := 1, bytes := 8, zero := [.int .u64 0], shp := some (.int .u64) }
theorem ti137_ok : TIOK Tryd.prog 137 ti137 := TIOK.of_eq (by kernel_rfl) (by kernel_rfl) rfl rfl (zshp_of (i := ti137) (s0 := (.int .u64)) rfl rfl rfl rfl)
@[reducible] def tis : List (Nat × TI) := [(3, ti3), (4, ti4), (5, ti5), (9, ti9), (21, ti21), (22, ti22), (23, ti23), (24, ti24), (25, ti25), (26, ti26), (27, ti27), (28, ti28), (35, ti35), (38, ti38), (39, ti39), (40, ti40), (41, ti41), (42, ti42), (43, ti43), (44, ti44), (45, ti45), (51, ti51), (52, ti52), (53, ti53), (54, ti54), (55, ti55), (58, ti58), (59, ti59), (60, ti60), (74, ti74), (75, ti75), (76, ti76), (77, ti77), (80, ti80), (90, ti90), (91, ti91), (92, ti92), (93, ti93), (96, ti96), (97, ti97), (102, ti102), (104, ti104), (108, ti108), (119, ti119), (122, ti122), (137, ti137)]
theorem tis_ok : TisOK Tryd.prog tis := ⟨ti3_ok, ti4_ok, ti5_ok, ti9_ok, ti21_ok, ti22_ok, ti23_ok, ti24_ok, ti25_ok, ti26_ok, ti27_ok, ti28_ok, ti35_ok, ti38_ok, ti39_ok, ti40_ok, ti41_ok, ti42_ok, ti43_ok, ti44_ok, ti45_ok, ti51_ok, ti52_ok, ti53_ok, ti54_ok, ti55_ok, ti58_ok, ti59_ok, ti60_ok, ti74_ok, ti75_ok, ti76_ok, ti77_ok, ti80_ok, ti90_ok, ti91_ok, ti92_ok, ti93_ok, ti96_ok, ti97_ok, ti102_ok, ti104_ok, ti108_ok, ti119_ok, ti122_ok, ti137_ok, trivial⟩
end Go.Proofs.YtklnffdjhoacoaaDoor
set_option linter.unusedSimpArgs false
set_option linter.unusedVariables false
set_option maxRecDepth 100000
namespace Go.Proofs.YtklnffdjhoacoaaDoor
open Go Go.Eng

def useT : List (List Bool) := [[true, false, false, false, true, false, false], [true, true, false, false, false, false, false], [true, true, true, false, false, true, false], [false, false, false, false, true, false, false], [false, true, false, false, true, false, false], [false, true, false, false, false, false, false], [false, false, false, false, false, false, false], [true, false, false, true, false, false, true], [false, true, false, true, false, false, true], [true, true, false, true, false, false, true], [true, true, false, true, false, false, true], [true, true, true, true, false, false, true], [false, false, false, false, false, false, false], [true, true, false, true, false, true, true], [false, false, false, true, false, false, false], [false, false, false, true, false, false, false], [true, false, false, true, false, false, false], [false, false, false, true, true, false, false], [false, false, false, true, false, false, false], [false, false, false, true, false, false, false], [true, true, false, true, false, false, false], [false, true, false, false, false, false, false]]
def namesD : List ByteArray := [⟨#[97, 100, 100]⟩, ⟨#[115, 117, 98]⟩, ⟨#[109, 117, 108]⟩, ⟨#[97, 110, 100]⟩, ⟨#[111, 114]⟩, ⟨#[120, 111, 114]⟩, ⟨#[101, 113]⟩, ⟨#[110, 101]⟩, ⟨#[108, 116]⟩, ⟨#[108, 101]⟩]
def rowsD : List (ByteArray × List Bool × Unit) := [(⟨#[99, 111, 110, 115, 116]⟩, [true, false, false, false, true, false, false], ()), (⟨#[99, 111, 112, 121]⟩, [true, true, false, false, false, false, false], ()), (⟨#[99, 97, 108, 99]⟩, [true, true, true, false, false, true, false], ()), (⟨#[106, 117, 109, 112]⟩, [false, false, false, false, true, false, false], ()), (⟨#[98, 114, 97, 110, 99, 104]⟩, [false, true, false, false, true, false, false], ()), (⟨#[97, 115, 115, 101, 114, 116]⟩, [false, true, false, false, false, false, false], ()), (⟨#[115, 116, 111, 112]⟩, [false, false, false, false, false, false, false], ()), (⟨#[108, 111, 97, 100]⟩, [true, false, false, true, false, false, true], ()), (⟨#[115, 116, 111, 114, 101]⟩, [false, true, false, true, false, false, true], ()), (⟨#[115, 119, 97, 112]⟩, [true, true, false, true, false, false, true], ()), (⟨#[102, 101, 116, 99, 104, 97, 100, 100]⟩, [true, true, false, true, false, false, true], ()), (⟨#[99, 97, 115]⟩, [true, true, true, true, false, false, true], ()), (⟨#[102, 101, 110, 99, 101]⟩, [false, false, false, false, false, false, false], ()), (⟨#[97, 119, 97, 105, 116]⟩, [true, true, false, true, false, true, true], ()), (⟨#[108, 111, 99, 107]⟩, [false, false, false, true, false, false, false], ()), (⟨#[117, 110, 108, 111, 99, 107]⟩, [false, false, false, true, false, false, false], ()), (⟨#[116, 114, 121, 108, 111, 99, 107]⟩, [true, false, false, true, false, false, false], ()), (⟨#[119, 97, 105, 116]⟩, [false, false, false, true, true, false, false], ()), (⟨#[115, 105, 103, 110, 97, 108]⟩, [false, false, false, true, false, false, false], ()), (⟨#[98, 114, 111, 97, 100, 99, 97, 115, 116]⟩, [false, false, false, true, false, false, false], ()), (⟨#[115, 112, 97, 119, 110]⟩, [true, true, false, true, false, false, false], ()), (⟨#[106, 111, 105, 110]⟩, [false, true, false, false, false, false, false], ())]
@[reducible] def gd0 : Nat → Option (Sigma Sh.den) := fun g => match g with
  | 0 => some ⟨.arr 22 (.pair .str (.pair (.arr 7 .bool) .unit)), rowsD⟩
  | 1 => some ⟨.arr 10 .str, namesD⟩
  | _ => none
@[reducible] def cx0 : Cx := { ti := tis, gd := gd0 }
@[reducible] def shI : Sh := .pair (.int .i64) (.pair (.int .i64) (.pair (.int .i64) (.pair (.int .i64) (.pair (.int .i64) (.pair (.int .i64) (.pair (.int .i64) (.pair (.int .i64) .unit)))))))
/-- Whether an operation uses its field k. -/
def use (op : Int) (k : Nat) : Bool := decide (1 ≤ op) && decide (op ≤ 22) && (useT.getD (op - 1).toNat []).getD k false
def knownS (op : Int) : Bool := decide (1 ≤ op) && decide (op ≤ 22)
def nameS (f : Int) : ByteArray := if 1 ≤ f ∧ f ≤ 10 then namesD.getD (f - 1).toNat ByteArray.empty else ByteArray.empty
end Go.Proofs.YtklnffdjhoacoaaDoor
set_option linter.unusedSimpArgs false
set_option linter.unusedVariables false
set_option maxRecDepth 100000
namespace Go.Proofs.YtklnffdjhoacoaaDoor
open Go Go.Eng

@[reducible] def ct34 : CT := { ps := [.int .i64], pre := fun d => True, res := fun d => ([], vB (knownS d.1)) }
@[reducible] def cl56 : List (Nat × CT) := []
@[reducible] def ann56 (op : Int) : Nat → Option (St → Ann) := fun _ => none
set_option maxRecDepth 100000 in
theorem f56_vc (op : Int) :
    ([] : List Go.Eng.Res) = [] ∧ Ent.one (SV.c (SC.v (Value.bool (knownS op)))) = Ent.one (SV.c (SC.v (Value.bool (decide ((1 : Int) ≤ op) && decide (op ≤ (22 : Int)))))) := by
  exact ⟨rfl, rfl⟩
set_option maxRecDepth 100000 in
theorem f56_met : Go.Eng.Met Tryd.prog cx0.gd 56 ct34 :=
  met_of (cx := cx0) (n := 9) (cl := cl56) (by kernel_rfl) tis_ok trivial Tryd.func56 (by kernel_rfl) (by kernel_rfl) rfl (by kernel_rfl) (by kernel_rfl) fun d hd => by
    obtain ⟨op, ⟨⟩⟩ := d
    exact ⟨ann56 op, cast (by kernel_rfl) (f56_vc op)⟩
@[reducible] def ct35 : CT := { ps := [shI], pre := fun d => True, res := fun d => ([], .one (.dat (.arr 7 (.int .i64)) [d.1.2.1, d.1.2.2.1, d.1.2.2.2.1, d.1.2.2.2.2.1, d.1.2.2.2.2.2.1, d.1.2.2.2.2.2.2.1, d.1.2.2.2.2.2.2.2.1])) }
@[reducible] def cl57 : List (Nat × CT) := []
@[reducible] def ann57 (op : Int) (a : Int) (b : Int) (c : Int) (obj : Int) (n : Int) (fn : Int) (ord : Int) : Nat → Option (St → Ann) := fun _ => none
set_option maxRecDepth 100000 in
theorem f57_vc (op : Int) (a : Int) (b : Int) (c : Int) (obj : Int) (n : Int) (fn : Int) (ord : Int) :
    ([] : List Go.Eng.Res) = [] ∧ Ent.one (SV.dat (Sh.arr (7 : Nat) I6) [a, b, c, obj, n, fn, ord]) = Ent.one (SV.dat (Sh.arr (7 : Nat) I6) [a, b, c, obj, n, fn, ord]) := by
  exact ⟨rfl, rfl⟩
set_option maxRecDepth 100000 in
theorem f57_met : Go.Eng.Met Tryd.prog cx0.gd 57 ct35 :=
  met_of (cx := cx0) (n := 18) (cl := cl57) (by kernel_rfl) tis_ok trivial Tryd.func57 (by kernel_rfl) (by kernel_rfl) rfl (by kernel_rfl) (by kernel_rfl) fun d hd => by
    obtain ⟨⟨op, a, b, c, obj, n, fn, ord, ⟨⟩⟩, ⟨⟩⟩ := d
    exact ⟨ann57 op a b c obj n fn ord, cast (by kernel_rfl) (f57_vc op a b c obj n fn ord)⟩
@[reducible] def ct36 : CT := { ps := [.int .i64], pre := fun d => True, res := fun d => ([], .one (.c (.v (.string (nameS d.1))))) }
@[reducible] def cl58 : List (Nat × CT) := []
@[reducible] def ann58 (f : Int) : Nat → Option (St → Ann) := fun _ => none
set_option maxRecDepth 100000 in
theorem f58_vc (f : Int) :
    br (decide (f < (1 : Int)) || decide ((10 : Int) < f)) (([] : List Go.Eng.Res) = [] ∧ Ent.one (SV.c (SC.v (Value.string (nameS f)))) = Ent.one (SV.c (SC.v (Value.string { data := #[] : ByteArray })))) (InR IntKind.i64 (f - (1 : Int)) ∧ ((0 : Int) ≤ f - (1 : Int) ∧ f - (1 : Int) < (10 : Int)) ∧ ∀ (d : ByteArray), namesD[(f - (1 : Int)).toNat]? = some d → ([] : List Go.Eng.Res) = [] ∧ Ent.one (SV.c (SC.v (Value.string (nameS f)))) = Ent.one (SV.c (SC.v (Value.string d)))) := by
  refine br_iff.2 ⟨fun h => ?_, fun h => ?_⟩
  · simp only [Bool.or_eq_true, decide_eq_true_eq] at h
    rw [show nameS f = ByteArray.empty from if_neg (by omega)]
    exact ⟨rfl, rfl⟩
  · simp only [Bool.or_eq_false_iff, decide_eq_false_iff_not] at h
    refine ⟨InR_i64.2 (by omega), by omega, fun d hd => ⟨rfl, ?_⟩⟩
    rw [show nameS f = namesD.getD (f - 1).toNat ByteArray.empty from if_pos (by omega), List.getD, hd]; rfl
set_option maxRecDepth 100000 in
theorem f58_met : Go.Eng.Met Tryd.prog cx0.gd 58 ct36 :=
  met_of (cx := cx0) (n := 13) (cl := cl58) (by kernel_rfl) tis_ok trivial Tryd.func58 (by kernel_rfl) (by kernel_rfl) rfl (by kernel_rfl) (by kernel_rfl) fun d hd => by
    obtain ⟨f, ⟨⟩⟩ := d
    exact ⟨ann58 f, cast (by kernel_rfl) (f58_vc f)⟩
def regS (r : Int) : Bool := decide (0 ≤ r) && decide (r < 8)
/-- The first error of an instruction. -/
def chkS (op a b c obj n fn ord : Int) : Int :=
  if knownS op = false then 8 else
  if (!use op 0 && a != 0 || !use op 1 && b != 0 || !use op 2 && c != 0 || !use op 3 && obj != 0 || !use op 4 && n != 0 || !use op 5 && fn != 0 || !use op 6 && ord != 0) = true then 9 else
  if (!regS a || !regS b || !regS c) = true then 10 else
  if (decide (ord < 0) || decide (2 < ord)) = true then 13 else
  if (use op 5 && decide (nameS fn = (⟨#[]⟩ : ByteArray))) = true then 8 else
  if (decide (op = 1) && (decide (n < -2147483648) || decide (2147483647 < n))) = true then 2 else 0
theorem rows_use {op : Int} {nm : ByteArray} {us : List Bool} {u : Unit} (hb : 1 ≤ op ∧ op ≤ 22) (hd : rowsD[(op - 1).toNat]? = some (nm, us, u)) :
    us = [use op 0, use op 1, use op 2, use op 3, use op 4, use op 5, use op 6] := by
  have key : ∀ k : Fin 22, (rowsD[k.1]?).map (fun r => r.2.1) = some ([0, 1, 2, 3, 4, 5, 6].map fun j => (useT.getD k.1 []).getD j false) := by decide
  have h1 := key ⟨(op - 1).toNat, by omega⟩
  simp only at h1
  rw [hd] at h1
  simp only [Option.map_some, Option.some.injEq] at h1
  rw [h1]
  simp [use, hb.1, hb.2]
@[reducible] def ct11 : CT := { ps := [shI], pre := fun d => True, res := fun d => ([], .one (.c (.v (.int .i64 (chkS d.1.1 d.1.2.1 d.1.2.2.1 d.1.2.2.2.1 d.1.2.2.2.2.1 d.1.2.2.2.2.2.1 d.1.2.2.2.2.2.2.1 d.1.2.2.2.2.2.2.2.1))))) }
@[reducible] def cl47 : List (Nat × CT) := [(56, ct34), (57, ct35), (58, ct36)]
@[reducible] def ann47 (op : Int) (a : Int) (b : Int) (c : Int) (obj : Int) (n : Int) (fn : Int) (ord : Int) : Nat → Option (St → Ann) := fun k => match k with
  | 5 => some fun _ => .unroll 8
  | 11 => some fun _ => .unroll 4
  | _ => none
set_option maxRecDepth 100000 in
theorem f47_vc (op : Int) (a : Int) (b : Int) (c : Int) (obj : Int) (n : Int) (fn : Int) (ord : Int) :
    True ∧ br (!knownS op) (([] : List Go.Eng.Res) = [] ∧ Ent.one (SV.c (SC.v (Value.int IntKind.i64 (chkS op a b c obj n fn ord)))) = Ent.one (SV.c (SC.v (Value.int IntKind.i64 (8 : Int))))) (InR IntKind.i64 (op - (1 : Int)) ∧ ((0 : Int) ≤ op - (1 : Int) ∧ op - (1 : Int) < (22 : Int)) ∧ ∀ (d : Sh.str.den × ((Sh.arr (7 : Nat) Sh.bool).pair Sh.unit).den), rowsD[(op - (1 : Int)).toNat]? = some d → True ∧ ((0 : Int) ≤ (0 : Int) ∧ (0 : Int) < (↑[a, b, c, obj, n, fn, ord].length : Int)) ∧ ∀ (d_1 : Int), [a, b, c, obj, n, fn, ord][(0 : Nat)]? = some d_1 → ((0 : Int) ≤ (0 : Int) ∧ (0 : Int) < (7 : Int)) ∧ (0 : Nat) < (7 : Nat) ∧ ∀ (d_2 : Bool), (d.snd.fst)[(0 : Nat)]? = some d_2 → br (!d_2 && !decide (d_1 = (0 : Int))) (([] : List Go.Eng.Res) = [] ∧ Ent.one (SV.c (SC.v (Value.int IntKind.i64 (chkS op a b c obj n fn ord)))) = Ent.one (SV.c (SC.v (Value.int IntKind.i64 (9 : Int))))) (InR IntKind.i64 (1 : Int) ∧ ((0 : Int) ≤ (1 : Int) ∧ (1 : Int) < (↑[a, b, c, obj, n, fn, ord].length : Int)) ∧ ∀ (d_3 : Int), [a, b, c, obj, n, fn, ord][(1 : Nat)]? = some d_3 → ((0 : Int) ≤ (1 : Int) ∧ (1 : Int) < (7 : Int)) ∧ (1 : Nat) < (7 : Nat) ∧ ∀ (d_4 : Bool), (d.snd.fst)[(1 : Nat)]? = some d_4 → br (!d_4 && !decide (d_3 = (0 : Int))) (([] : List Go.Eng.Res) = [] ∧ Ent.one (SV.c (SC.v (Value.int IntKind.i64 (chkS op a b c obj n fn ord)))) = Ent.one (SV.c (SC.v (Value.int IntKind.i64 (9 : Int))))) (InR IntKind.i64 (2 : Int) ∧ ((0 : Int) ≤ (2 : Int) ∧ (2 : Int) < (↑[a, b, c, obj, n, fn, ord].length : Int)) ∧ ∀ (d_5 : Int), [a, b, c, obj, n, fn, ord][(2 : Nat)]? = some d_5 → ((0 : Int) ≤ (2 : Int) ∧ (2 : Int) < (7 : Int)) ∧ (2 : Nat) < (7 : Nat) ∧ ∀ (d_6 : Bool), (d.snd.fst)[(2 : Nat)]? = some d_6 → br (!d_6 && !decide (d_5 = (0 : Int))) (([] : List Go.Eng.Res) = [] ∧ Ent.one (SV.c (SC.v (Value.int IntKind.i64 (chkS op a b c obj n fn ord)))) = Ent.one (SV.c (SC.v (Value.int IntKind.i64 (9 : Int))))) (InR IntKind.i64 (3 : Int) ∧ ((0 : Int) ≤ (3 : Int) ∧ (3 : Int) < (↑[a, b, c, obj, n, fn, ord].length : Int)) ∧ ∀ (d_7 : Int), [a, b, c, obj, n, fn, ord][(3 : Nat)]? = some d_7 → ((0 : Int) ≤ (3 : Int) ∧ (3 : Int) < (7 : Int)) ∧ (3 : Nat) < (7 : Nat) ∧ ∀ (d_8 : Bool), (d.snd.fst)[(3 : Nat)]? = some d_8 → br (!d_8 && !decide (d_7 = (0 : Int))) (([] : List Go.Eng.Res) = [] ∧ Ent.one (SV.c (SC.v (Value.int IntKind.i64 (chkS op a b c obj n fn ord)))) = Ent.one (SV.c (SC.v (Value.int IntKind.i64 (9 : Int))))) (InR IntKind.i64 (4 : Int) ∧ ((0 : Int) ≤ (4 : Int) ∧ (4 : Int) < (↑[a, b, c, obj, n, fn, ord].length : Int)) ∧ ∀ (d_9 : Int), [a, b, c, obj, n, fn, ord][(4 : Nat)]? = some d_9 → ((0 : Int) ≤ (4 : Int) ∧ (4 : Int) < (7 : Int)) ∧ (4 : Nat) < (7 : Nat) ∧ ∀ (d_10 : Bool), (d.snd.fst)[(4 : Nat)]? = some d_10 → br (!d_10 && !decide (d_9 = (0 : Int))) (([] : List Go.Eng.Res) = [] ∧ Ent.one (SV.c (SC.v (Value.int IntKind.i64 (chkS op a b c obj n fn ord)))) = Ent.one (SV.c (SC.v (Value.int IntKind.i64 (9 : Int))))) (InR IntKind.i64 (5 : Int) ∧ ((0 : Int) ≤ (5 : Int) ∧ (5 : Int) < (↑[a, b, c, obj, n, fn, ord].length : Int)) ∧ ∀ (d_11 : Int), [a, b, c, obj, n, fn, ord][(5 : Nat)]? = some d_11 → ((0 : Int) ≤ (5 : Int) ∧ (5 : Int) < (7 : Int)) ∧ (5 : Nat) < (7 : Nat) ∧ ∀ (d_12 : Bool), (d.snd.fst)[(5 : Nat)]? = some d_12 → br (!d_12 && !decide (d_11 = (0 : Int))) (([] : List Go.Eng.Res) = [] ∧ Ent.one (SV.c (SC.v (Value.int IntKind.i64 (chkS op a b c obj n fn ord)))) = Ent.one (SV.c (SC.v (Value.int IntKind.i64 (9 : Int))))) (InR IntKind.i64 (6 : Int) ∧ ((0 : Int) ≤ (6 : Int) ∧ (6 : Int) < (↑[a, b, c, obj, n, fn, ord].length : Int)) ∧ ∀ (d_13 : Int), [a, b, c, obj, n, fn, ord][(6 : Nat)]? = some d_13 → ((0 : Int) ≤ (6 : Int) ∧ (6 : Int) < (7 : Int)) ∧ (6 : Nat) < (7 : Nat) ∧ ∀ (d_14 : Bool), (d.snd.fst)[(6 : Nat)]? = some d_14 → br (!d_14 && !decide (d_13 = (0 : Int))) (([] : List Go.Eng.Res) = [] ∧ Ent.one (SV.c (SC.v (Value.int IntKind.i64 (chkS op a b c obj n fn ord)))) = Ent.one (SV.c (SC.v (Value.int IntKind.i64 (9 : Int))))) (InR IntKind.i64 (7 : Int) ∧ ((0 : Int) ≤ (0 : Int) ∧ (0 : Int) < (↑[a, b, c].length : Int)) ∧ ∀ (d_15 : Int), [a, b, c][(0 : Nat)]? = some d_15 → ((0 : Int) ≤ (0 : Int) ∧ (0 : Int) < (7 : Int)) ∧ (0 : Nat) < (7 : Nat) ∧ ∀ (d_16 : Bool), (d.snd.fst)[(0 : Nat)]? = some d_16 → br (d_16 && (decide (d_15 < (0 : Int)) || decide ((8 : Int) ≤ d_15))) (([] : List Go.Eng.Res) = [] ∧ Ent.one (SV.c (SC.v (Value.int IntKind.i64 (chkS op a b c obj n fn ord)))) = Ent.one (SV.c (SC.v (Value.int IntKind.i64 (10 : Int))))) (InR IntKind.i64 (1 : Int) ∧ ((0 : Int) ≤ (1 : Int) ∧ (1 : Int) < (↑[a, b, c].length : Int)) ∧ ∀ (d_17 : Int), [a, b, c][(1 : Nat)]? = some d_17 → ((0 : Int) ≤ (1 : Int) ∧ (1 : Int) < (7 : Int)) ∧ (1 : Nat) < (7 : Nat) ∧ ∀ (d_18 : Bool), (d.snd.fst)[(1 : Nat)]? = some d_18 → br (d_18 && (decide (d_17 < (0 : Int)) || decide ((8 : Int) ≤ d_17))) (([] : List Go.Eng.Res) = [] ∧ Ent.one (SV.c (SC.v (Value.int IntKind.i64 (chkS op a b c obj n fn ord)))) = Ent.one (SV.c (SC.v (Value.int IntKind.i64 (10 : Int))))) (InR IntKind.i64 (2 : Int) ∧ ((0 : Int) ≤ (2 : Int) ∧ (2 : Int) < (↑[a, b, c].length : Int)) ∧ ∀ (d_19 : Int), [a, b, c][(2 : Nat)]? = some d_19 → ((0 : Int) ≤ (2 : Int) ∧ (2 : Int) < (7 : Int)) ∧ (2 : Nat) < (7 : Nat) ∧ ∀ (d_20 : Bool), (d.snd.fst)[(2 : Nat)]? = some d_20 → br (d_20 && (decide (d_19 < (0 : Int)) || decide ((8 : Int) ≤ d_19))) (([] : List Go.Eng.Res) = [] ∧ Ent.one (SV.c (SC.v (Value.int IntKind.i64 (chkS op a b c obj n fn ord)))) = Ent.one (SV.c (SC.v (Value.int IntKind.i64 (10 : Int))))) (InR IntKind.i64 (3 : Int) ∧ ((0 : Int) ≤ (6 : Int) ∧ (6 : Int) < (7 : Int)) ∧ (6 : Nat) < (7 : Nat) ∧ ∀ (d_21 : Bool), (d.snd.fst)[(6 : Nat)]? = some d_21 → br (d_21 && (decide (ord < (0 : Int)) || decide ((2 : Int) < ord))) (([] : List Go.Eng.Res) = [] ∧ Ent.one (SV.c (SC.v (Value.int IntKind.i64 (chkS op a b c obj n fn ord)))) = Ent.one (SV.c (SC.v (Value.int IntKind.i64 (13 : Int))))) (((0 : Int) ≤ (5 : Int) ∧ (5 : Int) < (7 : Int)) ∧ (5 : Nat) < (7 : Nat) ∧ ∀ (d_22 : Bool), (d.snd.fst)[(5 : Nat)]? = some d_22 → (d_22 = true → True) ∧ br (d_22 && decide (nameS fn = { data := #[] : ByteArray })) (([] : List Go.Eng.Res) = [] ∧ Ent.one (SV.c (SC.v (Value.int IntKind.i64 (chkS op a b c obj n fn ord)))) = Ent.one (SV.c (SC.v (Value.int IntKind.i64 (8 : Int))))) (br (decide (op = (1 : Int)) && (decide (n < (-2147483648 : Int)) || decide ((2147483647 : Int) < n))) (([] : List Go.Eng.Res) = [] ∧ Ent.one (SV.c (SC.v (Value.int IntKind.i64 (chkS op a b c obj n fn ord)))) = Ent.one (SV.c (SC.v (Value.int IntKind.i64 (2 : Int))))) (([] : List Go.Eng.Res) = [] ∧ Ent.one (SV.c (SC.v (Value.int IntKind.i64 (chkS op a b c obj n fn ord)))) = Ent.one (SV.c (SC.v (Value.int IntKind.i64 (0 : Int)))))))))))))))))) := by
  refine ⟨trivial, br_iff.2 ⟨fun h => ?_, fun h => ?_⟩⟩
  · have hk : knownS op = false := by simpa using h
    rw [show chkS op a b c obj n fn ord = 8 by simp [chkS, hk]]
    exact ⟨rfl, rfl⟩
  · have hk : knownS op = true := by simpa using h
    have hb : 1 ≤ op ∧ op ≤ 22 := by simpa [knownS] using hk
    refine ⟨InR_i64.2 (by omega), by omega, fun d hd => ?_⟩
    obtain ⟨nm, us, ⟨⟩⟩ := d
    have hu := rows_use hb hd
    subst hu
    clear hd
    simp only [List.getElem?_cons_zero, List.getElem?_cons_succ, Option.some.injEq, forall_eq', br_iff, InR_i64, List.length_cons, List.length_nil, true_and, Ent.one.injEq, SV.c.injEq, SC.v.injEq, Value.int.injEq, chkS, hk, regS]
    generalize use op 0 = u0
    generalize use op 1 = u1
    generalize use op 2 = u2
    generalize use op 3 = u3
    generalize use op 4 = u4
    generalize use op 5 = u5
    generalize use op 6 = u6
    repeat' (first | apply And.intro | intro _)
    all_goals first | omega | decide | skip
    all_goals simp_all
    all_goals grind
set_option maxRecDepth 100000 in
theorem f47_met : Go.Eng.Met Tryd.prog cx0.gd 47 ct11 :=
  met_of (cx := cx0) (n := 89) (cl := cl47) (by kernel_rfl) tis_ok ⟨f56_met, f57_met, f58_met, trivial⟩ Tryd.func47 (by kernel_rfl) (by kernel_rfl) rfl (by kernel_rfl) (by kernel_rfl) fun d hd => by
    obtain ⟨⟨op, a, b, c, obj, n, fn, ord, ⟨⟩⟩, ⟨⟩⟩ := d
    exact ⟨ann47 op a b c obj n fn ord, cast (by kernel_rfl) (f47_vc op a b c obj n fn ord)⟩
end Go.Proofs.YtklnffdjhoacoaaDoor
set_option linter.unusedSimpArgs false
set_option linter.unusedVariables false
namespace Go.Proofs.YtklnffdjhoacoaaDoor
open Go Go.Eng
def hasI (l : List Int) (x : Int) : Bool := l.any fun y => decide (y = x)
def posI (l : List Int) (x : Int) : Nat := (l.takeWhile fun y => decide (y < x)).length
def insI (l : List Int) (x : Int) : List Int := l.take (posI l x) ++ [x] ++ l.drop (posI l x)
def makeI (l : List Int) : List Int := l.foldl (fun o x => if hasI o x then o else insI o x) []
theorem insI_len (l : List Int) (x : Int) : (insI l x).length = l.length + 1 := by
  simp only [insI, List.length_append, List.length_take, List.length_drop, List.length_cons, List.length_nil]; omega
theorem makeI_len (l : List Int) : (makeI l).length ≤ l.length := by
  have : ∀ (l o : List Int), (l.foldl (fun o x => if hasI o x then o else insI o x) o).length ≤ o.length + l.length := by
    intro l
    induction l with
    | nil => intro o; simp
    | cons x l ih =>
      intro o
      simp only [List.foldl_cons, List.length_cons]
      refine Nat.le_trans (ih _) ?_
      split
      · omega
      · rw [insI_len]; omega
  have h := this l []
  rw [List.length_nil, Nat.zero_add] at h
  exact h
/-- Increasing. -/
def SS (l : List Int) : Prop := l.Pairwise (· < ·)
theorem ss_ext : ∀ {l m : List Int}, SS l → SS m → (∀ x, x ∈ l ↔ x ∈ m) → l = m
  | [], [], _, _, _ => rfl
  | [], y :: m, _, _, h => by have := (h y).2 (by simp); simp at this
  | x :: l, [], _, _, h => by have := (h x).1 (by simp); simp at this
  | x :: l, y :: m, hl, hm, h => by
    obtain ⟨h1, h2⟩ := List.pairwise_cons.1 hl
    obtain ⟨h3, h4⟩ := List.pairwise_cons.1 hm
    have hxy : x = y := by
      have a := (h x).1 (by simp)
      have b := (h y).2 (by simp)
      rcases List.mem_cons.1 a with a | a
      · exact a
      · rcases List.mem_cons.1 b with b | b
        · exact b.symm
        · have := h3 x a; have := h1 y b; omega
    subst hxy
    congr 1
    refine ss_ext h2 h4 fun z => ?_
    have hz := h z
    simp only [List.mem_cons] at hz
    constructor
    · intro hh
      rcases hz.1 (.inr hh) with rfl | h5
      · have := h1 z hh; omega
      · exact h5
    · intro hh
      rcases hz.2 (.inr hh) with rfl | h5
      · have := h3 z hh; omega
      · exact h5

theorem hasI_iff {l : List Int} {x : Int} : hasI l x = true ↔ x ∈ l := by
  unfold hasI
  rw [List.any_eq_true]
  constructor
  · rintro ⟨y, h1, h2⟩; simp only [decide_eq_true_eq] at h2; subst h2; exact h1
  · intro h; exact ⟨x, h, by simp⟩
theorem hasI_false {l : List Int} {x : Int} : hasI l x = false ↔ x ∉ l := by
  rw [← hasI_iff]; simp

theorem tk_pos (l : List Int) (x : Int) : l.take (posI l x) = l.takeWhile fun y => decide (y < x) := by
  unfold posI
  induction l with
  | nil => rfl
  | cons a l ih =>
    simp only [List.takeWhile_cons]
    split
    · simp [ih]
    · simp
theorem dr_pos (l : List Int) (x : Int) : l.drop (posI l x) = l.dropWhile fun y => decide (y < x) := by
  unfold posI
  induction l with
  | nil => rfl
  | cons a l ih =>
    simp only [List.takeWhile_cons, List.dropWhile_cons]
    split
    · simp [ih]
    · simp
theorem ss_drop : ∀ {l : List Int} {x : Int}, SS l → ∀ y ∈ l.dropWhile (fun y => decide (y < x)), x ≤ y
  | [], _, _, y, h => by simp at h
  | a :: l, x, hl, y, h => by
    obtain ⟨h1, h2⟩ := List.pairwise_cons.1 hl
    simp only [List.dropWhile_cons] at h
    split at h
    · exact ss_drop h2 y h
    · rename_i hn
      simp only [decide_eq_true_eq] at hn
      rcases List.mem_cons.1 h with rfl | h
      · omega
      · have := h1 y h; omega
theorem tk_lt : ∀ {l : List Int} {x : Int}, ∀ y ∈ l.takeWhile (fun y => decide (y < x)), y < x
  | [], _, y, h => by simp at h
  | a :: l, x, y, h => by
    simp only [List.takeWhile_cons] at h
    split at h
    · rename_i hn
      simp only [decide_eq_true_eq] at hn
      rcases List.mem_cons.1 h with rfl | h
      · exact hn
      · exact tk_lt y h
    · simp at h
theorem ins_ss {l : List Int} {x : Int} (hl : SS l) (hx : x ∉ l) : SS (insI l x) := by
  unfold insI SS
  rw [tk_pos, dr_pos]
  have hp : SS (l.takeWhile (fun y => decide (y < x)) ++ l.dropWhile (fun y => decide (y < x))) := by rw [List.takeWhile_append_dropWhile]; exact hl
  obtain ⟨p1, p2, p3⟩ := List.pairwise_append.1 hp
  rw [List.append_assoc, List.pairwise_append]
  refine ⟨p1, ?_, ?_⟩
  · rw [List.singleton_append, List.pairwise_cons]
    refine ⟨fun y hy => ?_, p2⟩
    have h1 := ss_drop hl y hy
    have h2 : y ≠ x := fun e => hx (by rw [← e]; rw [← List.takeWhile_append_dropWhile (p := fun y => decide (y < x)) (l := l)]; exact List.mem_append_right _ hy)
    omega
  · intro a ha b hb
    rw [List.singleton_append] at hb
    rcases List.mem_cons.1 hb with rfl | hb
    · exact tk_lt a ha
    · exact p3 a ha b hb
theorem ins_mem {l : List Int} {x y : Int} : y ∈ insI l x ↔ y = x ∨ y ∈ l := by
  unfold insI
  rw [List.mem_append, List.mem_append, List.mem_singleton]
  conv => rhs; rw [← List.take_append_drop (posI l x) l, List.mem_append]
  constructor
  · rintro ((h | h) | h)
    · exact .inr (.inl h)
    · exact .inl h
    · exact .inr (.inr h)
  · rintro (h | h | h)
    · exact .inl (.inr h)
    · exact .inl (.inl h)
    · exact .inr h
theorem fold_ss : ∀ (l o : List Int), SS o → SS (l.foldl (fun o x => if hasI o x then o else insI o x) o) ∧ ∀ y, y ∈ l.foldl (fun o x => if hasI o x then o else insI o x) o ↔ y ∈ o ∨ y ∈ l
  | [], o, h => ⟨h, fun y => by simp⟩
  | x :: l, o, h => by
    simp only [List.foldl_cons]
    cases hx : hasI o x with
    | true =>
      simp only [if_true]
      obtain ⟨h1, h2⟩ := fold_ss l o h
      refine ⟨h1, fun y => ?_⟩
      rw [h2, List.mem_cons]
      have := hasI_iff.1 hx
      constructor
      · rintro (h | h)
        · exact .inl h
        · exact .inr (.inr h)
      · rintro (h | rfl | h)
        · exact .inl h
        · exact .inl this
        · exact .inr h
    | false =>
      simp only [Bool.false_eq_true, if_false]
      obtain ⟨h1, h2⟩ := fold_ss l (insI o x) (ins_ss h (hasI_false.1 hx))
      refine ⟨h1, fun y => ?_⟩
      rw [h2, List.mem_cons, ins_mem]
      constructor
      · rintro ((h | h) | h)
        · exact .inr (.inl h)
        · exact .inl h
        · exact .inr (.inr h)
      · rintro (h | h | h)
        · exact .inl (.inr h)
        · exact .inl (.inl h)
        · exact .inr h
theorem make_ss (l : List Int) : SS (makeI l) := (fold_ss l [] List.Pairwise.nil).1
theorem make_mem {l : List Int} {x : Int} : x ∈ makeI l ↔ x ∈ l := by
  have := (fold_ss l [] List.Pairwise.nil).2 x
  simpa [makeI] using this

theorem cu_props {d : Array Int} (hs : ∀ i j, i < j → j < d.size → d[i]! ≤ d[j]!) : ∀ m, m ≤ d.size →
    SS (Lib.compactUpTo d m) ∧ (∀ x, x ∈ Lib.compactUpTo d m ↔ ∃ j < m, d[j]! = x)
  | 0, _ => ⟨by simp [Lib.compactUpTo, SS], fun x => by simp [Lib.compactUpTo]⟩
  | m + 1, hm => by
    obtain ⟨h1, h2⟩ := cu_props hs m (by omega)
    rw [Lib.compactUpTo_succ]
    have le : ∀ x ∈ Lib.compactUpTo d m, ∃ j < m, d[j]! = x := fun x hx => (h2 x).1 hx
    cases hk : Lib.keeps d m with
    | true =>
      simp only [if_true]
      constructor
      · refine List.pairwise_append.2 ⟨h1, by simp, fun a ha b hb => ?_⟩
        simp only [List.mem_singleton] at hb
        subst hb
        obtain ⟨j, hj, rfl⟩ := le a ha
        have h3 : m ≠ 0 := by omega
        simp only [Lib.keeps, decide_eq_true_eq, h3, false_or] at hk
        have h4 := hs (m - 1) m (by omega) (by omega)
        by_cases hj2 : j = m - 1
        · subst hj2; omega
        · have := hs j (m - 1) (by omega) (by omega); omega
      · intro x
        rw [List.mem_append, h2, List.mem_singleton]
        constructor
        · rintro (⟨j, hj, e⟩ | e)
          · exact ⟨j, by omega, e⟩
          · exact ⟨m, by omega, e.symm⟩
        · rintro ⟨j, hj, e⟩
          by_cases hj2 : j = m
          · subst hj2; exact .inr e.symm
          · exact .inl ⟨j, by omega, e⟩
    | false =>
      simp only [Bool.false_eq_true, if_false, List.append_nil]
      refine ⟨h1, fun x => ?_⟩
      rw [h2]
      have h3 : m ≠ 0 ∧ d[m]! = d[m - 1]! := by simpa [Lib.keeps] using hk
      constructor
      · rintro ⟨j, hj, e⟩; exact ⟨j, by omega, e⟩
      · rintro ⟨j, hj, e⟩
        by_cases hj2 : j = m
        · subst hj2; exact ⟨j - 1, by omega, by rw [← h3.2]; exact e⟩
        · exact ⟨j, by omega, e⟩

theorem sort_sorted (l : List Int) : (sortI l).Pairwise (· ≤ ·) := by
  have h : (sortI l).Pairwise (fun x y => decide (x ≤ y) = true) := List.pairwise_mergeSort (fun a b c h1 h2 => by simp at *; omega) (fun a b => by simp; omega) l
  exact h.imp fun h => by simpa using h
theorem sort_mem {l : List Int} {x : Int} : x ∈ sortI l ↔ x ∈ l := (List.mergeSort_perm l _).mem_iff
theorem dd_props (l : List Int) : SS (Lib.compact (sortI l)) ∧ ∀ x, x ∈ Lib.compact (sortI l) ↔ x ∈ l := by
  have hs : ∀ i j, i < j → j < (sortI l).toArray.size → (sortI l).toArray[i]! ≤ (sortI l).toArray[j]! := by
    intro i j hij hj
    have hj' : j < (sortI l).length := by simpa using hj
    have := List.pairwise_iff_getElem.1 (sort_sorted l) i j (by omega) hj' hij
    rw [getElem!_pos _ i (by simp; omega), getElem!_pos _ j (by simpa using hj)]
    simpa using this
  obtain ⟨h1, h2⟩ := cu_props hs (sortI l).length (by simp)
  refine ⟨h1, fun x => ?_⟩
  show x ∈ Lib.compactUpTo (sortI l).toArray (sortI l).length ↔ _
  rw [h2, ← sort_mem, List.mem_iff_getElem]
  constructor
  · rintro ⟨j, hj, e⟩; exact ⟨j, hj, by rw [getElem!_pos _ j (by simpa using hj)] at e; simpa using e⟩
  · rintro ⟨j, hj, e⟩; exact ⟨j, hj, by rw [getElem!_pos _ j (by simpa using hj)]; simpa using e⟩
theorem dd_make (l : List Int) : Lib.compact (sortI l) = makeI l :=
  ss_ext (dd_props l).1 (make_ss l) fun x => by rw [(dd_props l).2, make_mem]
end Go.Proofs.YtklnffdjhoacoaaDoor
namespace Go.Proofs
open Go.Shelf
def Tryd.lays189_ren : Go.Shelf.Ren := ⟨fun | 189 => 59 | 125 => 72 | 257 => 71 | 128 => 86 | 129 => 87 | 294 => 77 | 295 => 78 | 296 => 79 | 297 => 80 | 298 => 81 | 299 => 82 | 216 => 83 | 300 => 84 | 301 => 85 | 328 => 90 | 329 => 91 | 330 => 92 | 331 => 93 | 332 => 94 | 215 => 95 | 343 => 96 | n => n, fun | 28 => 26 | 3 => 3 | 46 => 122 | 0 => 0 | 51 => 80 | 53 => 137 | 4 => 4 | 183 => 129 | 182 => 128 | 131 => 29 | 5 => 5 | 9 => 9 | 218 => 140 | 222 => 144 | 228 => 146 | 229 => 62 | n => n, fun | n => n⟩
theorem Tryd.lays189 : Go.Proofs.Lays.n189 Tryd.prog Tryd.lays189_ren := {
  mixed := by kernel_rfl
  f125 := Tryd.func72.trans (congrArg some (by kernel_rfl))
  f128 := Tryd.func86.trans (congrArg some (by kernel_rfl))
  f129 := Tryd.func87.trans (congrArg some (by kernel_rfl))
  f189 := Tryd.func59.trans (congrArg some (by kernel_rfl))
  f215 := Tryd.func95.trans (congrArg some (by kernel_rfl))
  f216 := Tryd.func83.trans (congrArg some (by kernel_rfl))
  f257 := Tryd.func71.trans (congrArg some (by kernel_rfl))
  f294 := Tryd.func77.trans (congrArg some (by kernel_rfl))
  f295 := Tryd.func78.trans (congrArg some (by kernel_rfl))
  f296 := Tryd.func79.trans (congrArg some (by kernel_rfl))
  f297 := Tryd.func80.trans (congrArg some (by kernel_rfl))
  f298 := Tryd.func81.trans (congrArg some (by kernel_rfl))
  f299 := Tryd.func82.trans (congrArg some (by kernel_rfl))
  f300 := Tryd.func84.trans (congrArg some (by kernel_rfl))
  f301 := Tryd.func85.trans (congrArg some (by kernel_rfl))
  f328 := Tryd.func90.trans (congrArg some (by kernel_rfl))
  f329 := Tryd.func91.trans (congrArg some (by kernel_rfl))
  f330 := Tryd.func92.trans (congrArg some (by kernel_rfl))
  f331 := Tryd.func93.trans (congrArg some (by kernel_rfl))
  f332 := Tryd.func94.trans (congrArg some (by kernel_rfl))
  f343 := Tryd.func96.trans (congrArg some (by kernel_rfl))
  t0 := Tryd.underlying0
  a0 := Tryd.isAgg0
  z0 := Tryd.sizeOf0
  v0 := Tryd.zeroValue0
  t3 := Tryd.underlying3
  a3 := Tryd.isAgg3
  z3 := Tryd.sizeOf3
  v3 := Tryd.zeroValue3
  t4 := Tryd.underlying4
  a4 := Tryd.isAgg4
  z4 := Tryd.sizeOf4
  v4 := Tryd.zeroValue4
  t5 := Tryd.underlying5
  a5 := Tryd.isAgg5
  z5 := Tryd.sizeOf5
  v5 := Tryd.zeroValue5
  t9 := Tryd.underlying9
  a9 := Tryd.isAgg9
  z9 := Tryd.sizeOf9
  v9 := Tryd.zeroValue9
  t28 := Tryd.underlying26
  a28 := Tryd.isAgg26
  z28 := Tryd.sizeOf26
  v28 := Tryd.zeroValue26
  t46 := Tryd.underlying122
  a46 := Tryd.isAgg122
  z46 := Tryd.sizeOf122
  v46 := Tryd.zeroValue122
  t51 := Tryd.underlying80
  a51 := Tryd.isAgg80
  z51 := Tryd.sizeOf80
  v51 := Tryd.zeroValue80
  t53 := Tryd.underlying137
  a53 := Tryd.isAgg137
  z53 := Tryd.sizeOf137
  v53 := Tryd.zeroValue137
  t131 := Tryd.underlying29
  a131 := Tryd.isAgg29
  z131 := Tryd.sizeOf29
  v131 := Tryd.zeroValue29
  t182 := Tryd.underlying128
  a182 := Tryd.isAgg128
  z182 := Tryd.sizeOf128
  v182 := Tryd.zeroValue128
  t183 := Tryd.underlying129
  a183 := Tryd.isAgg129
  z183 := Tryd.sizeOf129
  v183 := Tryd.zeroValue129
  t218 := Tryd.underlying140
  a218 := Tryd.isAgg140
  z218 := Tryd.sizeOf140
  v218 := Tryd.zeroValue140
  t222 := Tryd.underlying144
  a222 := Tryd.isAgg144
  z222 := Tryd.sizeOf144
  v222 := Tryd.zeroValue144
  t228 := Tryd.underlying146
  a228 := Tryd.isAgg146
  z228 := Tryd.sizeOf146
  v228 := Tryd.zeroValue146
  t229 := Tryd.underlying62
  a229 := Tryd.isAgg62
  z229 := Tryd.sizeOf62
  v229 := Tryd.zeroValue62 }
open Go.Sort Go.RowKit in
theorem Tryd.slices_Sort_int (blk off cap : Nat) (zs : List Int) (w : World) (hH : Holds (Value.int .i64) w blk off zs.toArray) (hblk : blk < w.heap.size) (hsz : zs.length < 4611686018427387904) :
    Calls Tryd.prog 59 #[.slice (some ⟨blk, off, none⟩) zs.length cap] w fun e w' =>
      e = .returned (.tuple #[]) ∧ ∃ n os, w' = grow (putRow (Value.int .i64) (Sort.ahead w n) blk off (zs.mergeSort fun x y => decide (x ≤ y)).toArray) os := Any.slices_Sort_int Tryd.lays189 blk off cap zs w hH hblk hsz
def Tryd.laysNm220_ren : Go.Shelf.Ren := ⟨fun | 20 => 60 | n => n, fun | 22 => 26 | 3 => 3 | 4 => 4 | 0 => 0 | n => n, fun | n => n⟩
theorem Tryd.laysNm220 : Go.Proofs.Lays2.n20 Tryd.prog Tryd.laysNm220_ren := {
  mixed := by kernel_rfl
  f20 := Tryd.func60.trans (congrArg some (by kernel_rfl))
  t0 := Tryd.underlying0
  a0 := Tryd.isAgg0
  z0 := Tryd.sizeOf0
  v0 := Tryd.zeroValue0
  t3 := Tryd.underlying3
  a3 := Tryd.isAgg3
  z3 := Tryd.sizeOf3
  v3 := Tryd.zeroValue3
  t4 := Tryd.underlying4
  a4 := Tryd.isAgg4
  z4 := Tryd.sizeOf4
  v4 := Tryd.zeroValue4
  t22 := Tryd.underlying26
  a22 := Tryd.isAgg26
  z22 := Tryd.sizeOf26
  v22 := Tryd.zeroValue26
  i3 := by kernel_rfl }
open Go.RowKit Go.Lib Go.Sort in
/-- slices.Compact at []int: "Compact replaces consecutive runs of equal elements with a single copy. This is like the uniq command found on Unix. Compact modifies the contents of the slice s and returns the modified slice, which may have a smaller length. Compact zeroes the elements between the new length and the original length. The result preserves the nilness of s.": IT RETURNS THE SLICE CUT TO 'Lib.compact zs'; ITS CELLS HOLD 'Lib.compact zs', THEN ZERO VALUES up to the old length; all else is as it was, but for the count of draws. IN THE WORDS OF slices.Sort's CONTRACT ('Holds', 'putRow'): so the everyday 'slices.Sort(xs); xs = slices.Compact(xs)' goes from the one contract to the other. It asks 'zs.length ≤ cap' (every slice's: the reslicing 's[:k]' looks at it). Length 0, nil: '.._empty'. (LAID: no walk: one application.) -/
theorem Tryd.slices_Compact_int (blk off cap : Nat) (zs : List Int) (w : World) (hH : Holds (Value.int .i64) w blk off zs.toArray) (hsz : zs.length ≤ 9223372036854775807) (hcap : zs.length ≤ cap) :
    Calls Tryd.prog 60 #[.slice (some ⟨blk, off, none⟩) zs.length cap] w fun e w' => e = .returned (.slice (some ⟨blk, off, none⟩) (Lib.compact zs).length cap) ∧ ∃ q, w' = putRow (Value.int .i64) (Sort.ahead w q) blk off (Lib.compact zs ++ List.replicate (zs.length - (Lib.compact zs).length) 0).toArray := Any.slices_Compact_int Tryd.laysNm220 blk off cap zs w hH hsz hcap
open Go.RowKit Go.Lib Go.Sort in
/-- The same at a slice of length 0, a nil one too: it comes back as it is. (LAID: no walk: one application.) -/
theorem Tryd.slices_Compact_int_empty (a : Option Addr) (cap : Nat) (w : World) :
    Calls Tryd.prog 60 #[.slice a 0 cap] w fun e w' => e = .returned (.slice a 0 cap) ∧ w' = w := Any.slices_Compact_int_empty Tryd.laysNm220 a cap w
end Go.Proofs
set_option linter.unusedSimpArgs false
set_option linter.unusedVariables false
set_option maxRecDepth 100000
namespace Go.Proofs.YtklnffdjhoacoaaDoor
open Go Go.Eng

def Mt (l : List Int) : Prop := l = []
theorem Mt.nil : Mt [] := rfl
@[reducible] def ct58z : CT := { ps := [.int .u64], pre := fun d => d.1 = 0, res := fun d => ([], .one (.c (.v (.int .i64 0)))) }
@[reducible] def cl87 : List (Nat × CT) := []
@[reducible] def ann87  : Nat → Option (St → Ann) := fun _ => none
set_option maxRecDepth 100000 in
theorem f87_vc  :
    ((0 : Int) ≤ (0 : Int) ∧ (0 : Int) < (256 : Int)) ∧ ∀ (u : UInt8), { data := (([(0 : UInt8), (1 : UInt8), (2 : UInt8), (2 : UInt8), (3 : UInt8), (3 : UInt8), (3 : UInt8), (3 : UInt8), (4 : UInt8), (4 : UInt8), (4 : UInt8), (4 : UInt8), (4 : UInt8), (4 : UInt8), (4 : UInt8), (4 : UInt8), (5 : UInt8), (5 : UInt8), (5 : UInt8), (5 : UInt8), (5 : UInt8), (5 : UInt8), (5 : UInt8), (5 : UInt8), (5 : UInt8), (5 : UInt8), (5 : UInt8), (5 : UInt8), (5 : UInt8), (5 : UInt8), (5 : UInt8), (5 : UInt8), (6 : UInt8), (6 : UInt8), (6 : UInt8), (6 : UInt8), (6 : UInt8), (6 : UInt8), (6 : UInt8), (6 : UInt8), (6 : UInt8), (6 : UInt8), (6 : UInt8), (6 : UInt8), (6 : UInt8), (6 : UInt8), (6 : UInt8), (6 : UInt8), (6 : UInt8), (6 : UInt8), (6 : UInt8), (6 : UInt8), (6 : UInt8), (6 : UInt8), (6 : UInt8), (6 : UInt8), (6 : UInt8), (6 : UInt8), (6 : UInt8), (6 : UInt8), (6 : UInt8), (6 : UInt8), (6 : UInt8), (6 : UInt8)].append [(7 : UInt8), (7 : UInt8), (7 : UInt8), (7 : UInt8), (7 : UInt8), (7 : UInt8), (7 : UInt8), (7 : UInt8), (7 : UInt8), (7 : UInt8), (7 : UInt8), (7 : UInt8), (7 : UInt8), (7 : UInt8), (7 : UInt8), (7 : UInt8), (7 : UInt8), (7 : UInt8), (7 : UInt8), (7 : UInt8), (7 : UInt8), (7 : UInt8), (7 : UInt8), (7 : UInt8), (7 : UInt8), (7 : UInt8), (7 : UInt8), (7 : UInt8), (7 : UInt8), (7 : UInt8), (7 : UInt8), (7 : UInt8), (7 : UInt8), (7 : UInt8), (7 : UInt8), (7 : UInt8), (7 : UInt8), (7 : UInt8), (7 : UInt8), (7 : UInt8), (7 : UInt8), (7 : UInt8), (7 : UInt8), (7 : UInt8), (7 : UInt8), (7 : UInt8), (7 : UInt8), (7 : UInt8), (7 : UInt8), (7 : UInt8), (7 : UInt8), (7 : UInt8), (7 : UInt8), (7 : UInt8), (7 : UInt8), (7 : UInt8), (7 : UInt8), (7 : UInt8), (7 : UInt8), (7 : UInt8), (7 : UInt8), (7 : UInt8), (7 : UInt8), (7 : UInt8)]).append ([(8 : UInt8), (8 : UInt8), (8 : UInt8), (8 : UInt8), (8 : UInt8), (8 : UInt8), (8 : UInt8), (8 : UInt8), (8 : UInt8), (8 : UInt8), (8 : UInt8), (8 : UInt8), (8 : UInt8), (8 : UInt8), (8 : UInt8), (8 : UInt8), (8 : UInt8), (8 : UInt8), (8 : UInt8), (8 : UInt8), (8 : UInt8), (8 : UInt8), (8 : UInt8), (8 : UInt8), (8 : UInt8), (8 : UInt8), (8 : UInt8), (8 : UInt8), (8 : UInt8), (8 : UInt8), (8 : UInt8), (8 : UInt8), (8 : UInt8), (8 : UInt8), (8 : UInt8), (8 : UInt8), (8 : UInt8), (8 : UInt8), (8 : UInt8), (8 : UInt8), (8 : UInt8), (8 : UInt8), (8 : UInt8), (8 : UInt8), (8 : UInt8), (8 : UInt8), (8 : UInt8), (8 : UInt8), (8 : UInt8), (8 : UInt8), (8 : UInt8), (8 : UInt8), (8 : UInt8), (8 : UInt8), (8 : UInt8), (8 : UInt8), (8 : UInt8), (8 : UInt8), (8 : UInt8), (8 : UInt8), (8 : UInt8), (8 : UInt8), (8 : UInt8), (8 : UInt8)].append [(8 : UInt8), (8 : UInt8), (8 : UInt8), (8 : UInt8), (8 : UInt8), (8 : UInt8), (8 : UInt8), (8 : UInt8), (8 : UInt8), (8 : UInt8), (8 : UInt8), (8 : UInt8), (8 : UInt8), (8 : UInt8), (8 : UInt8), (8 : UInt8), (8 : UInt8), (8 : UInt8), (8 : UInt8), (8 : UInt8), (8 : UInt8), (8 : UInt8), (8 : UInt8), (8 : UInt8), (8 : UInt8), (8 : UInt8), (8 : UInt8), (8 : UInt8), (8 : UInt8), (8 : UInt8), (8 : UInt8), (8 : UInt8), (8 : UInt8), (8 : UInt8), (8 : UInt8), (8 : UInt8), (8 : UInt8), (8 : UInt8), (8 : UInt8), (8 : UInt8), (8 : UInt8), (8 : UInt8), (8 : UInt8), (8 : UInt8), (8 : UInt8), (8 : UInt8), (8 : UInt8), (8 : UInt8), (8 : UInt8), (8 : UInt8), (8 : UInt8), (8 : UInt8), (8 : UInt8), (8 : UInt8), (8 : UInt8), (8 : UInt8), (8 : UInt8), (8 : UInt8), (8 : UInt8), (8 : UInt8), (8 : UInt8), (8 : UInt8), (8 : UInt8), (8 : UInt8)])).toArray : ByteArray }[(0 : Nat)]? = some u → InR IntKind.i64 (↑u.toNat : Int) ∧ InR IntKind.i64 ((0 : Int) + (↑u.toNat : Int)) ∧ ([] : List Go.Eng.Res) = [] ∧ Ent.one (SV.c (SC.v (Value.int IntKind.i64 (0 : Int)))) = Ent.one (SV.c (SC.v (Value.int IntKind.i64 ((0 : Int) + (↑u.toNat : Int))))) := by
  refine ⟨by omega, fun u hu => ?_⟩
  have hu : some (0 : UInt8) = some u := hu
  cases hu
  exact ⟨InR_i64.2 (by decide), InR_i64.2 (by decide), rfl, rfl⟩
set_option maxRecDepth 100000 in
theorem f87_met : Go.Eng.Met Tryd.prog cx0.gd 87 ct58z :=
  met_of (cx := cx0) (n := 25) (cl := cl87) (by kernel_rfl) tis_ok trivial Tryd.func87 (by kernel_rfl) (by kernel_rfl) rfl (by kernel_rfl) (by kernel_rfl) fun d hd => by
    obtain ⟨x, ⟨⟩⟩ := d
    simp only at hd
    subst hd
    exact ⟨ann87 , cast (by kernel_rfl) (f87_vc )⟩
@[reducible] def ct45z : CT := { ps := [.int .u64], pre := fun d => d.1 = 0, res := fun d => ([], .one (.c (.v (.int .i64 0)))) }
@[reducible] def cl72 : List (Nat × CT) := [(87, ct58z)]
@[reducible] def ann72  : Nat → Option (St → Ann) := fun _ => none
set_option maxRecDepth 100000 in
theorem f72_vc  :
    (0 : (Sh.int IntKind.u64).den) = (0 : (Sh.int IntKind.u64).den) ∧ ([] : List Go.Eng.Res) = [] ∧ Ent.one (SV.c (SC.v (Value.int IntKind.i64 (0 : Int)))) = Ent.one (SV.c (SC.v (Value.int IntKind.i64 (0 : Int)))) := by
  exact ⟨rfl, rfl, rfl⟩
set_option maxRecDepth 100000 in
theorem f72_met : Go.Eng.Met Tryd.prog cx0.gd 72 ct45z :=
  met_of (cx := cx0) (n := 8) (cl := cl72) (by kernel_rfl) tis_ok ⟨f87_met, trivial⟩ Tryd.func72 (by kernel_rfl) (by kernel_rfl) rfl (by kernel_rfl) (by kernel_rfl) fun d hd => by
    obtain ⟨x, ⟨⟩⟩ := d
    simp only at hd
    subst hd
    exact ⟨ann72 , cast (by kernel_rfl) (f72_vc )⟩
@[reducible] def ct48z : CT := { ps := [.sl (.int .i64), .int .i64, .int .i64], pre := fun d => Mt d.1 ∧ d.2.1 = 0 ∧ d.2.2.1 = 0, res := fun d => ([], .tup []) }
@[reducible] def cl77 : List (Nat × CT) := []
@[reducible] def ann77  : Nat → Option (St → Ann) := fun _ => some fun _ => .unroll 1
set_option maxRecDepth 100000 in
theorem f77_vc  :
    InR IntKind.i64 (1 : Int) ∧ ([] : List Go.Eng.Res) = [] ∧ Ent.tup [] = Ent.tup [] := by
  exact ⟨InR_i64.2 (by omega), rfl, rfl⟩
set_option maxRecDepth 100000 in
theorem f77_met : Go.Eng.Met Tryd.prog cx0.gd 77 ct48z :=
  met_of (cx := cx0) (n := 49) (cl := cl77) (by kernel_rfl) tis_ok trivial Tryd.func77 (by kernel_rfl) (by kernel_rfl) rfl (by kernel_rfl) (by kernel_rfl) fun d hd => by
    obtain ⟨l, a, b, ⟨⟩⟩ := d
    obtain ⟨h1, h2, h3⟩ := hd
    simp only at h1 h2 h3
    have h1 : l = [] := h1
    subst h1; subst h2; subst h3
    exact ⟨ann77 , cast (by kernel_rfl) (f77_vc )⟩
@[reducible] def ct44z : CT := { ps := [.sl (.int .i64), .int .i64, .int .i64, .int .i64], pre := fun d => Mt d.1 ∧ d.2.1 = 0 ∧ d.2.2.1 = 0, res := fun d => ([], .tup []) }
@[reducible] def cl71 : List (Nat × CT) := [(77, ct48z)]
@[reducible] def ann71 (m : Int) : Nat → Option (St → Ann) := fun _ => some fun _ => .unroll 1
set_option maxRecDepth 100000 in
theorem f71_vc (m : Int) :
    InR IntKind.i64 (0 : Int) ∧ (Mt [] ∧ (0 : I6.den) = (0 : I6.den) ∧ (0 : I6.den) = (0 : I6.den)) ∧ ([] : List Go.Eng.Res) = [] ∧ Ent.tup [] = Ent.tup [] := by
  exact ⟨InR_i64.2 (by omega), ⟨rfl, rfl, rfl⟩, rfl, rfl⟩
set_option maxRecDepth 100000 in
theorem f71_met : Go.Eng.Met Tryd.prog cx0.gd 71 ct44z :=
  met_of (cx := cx0) (n := 134) (cl := cl71) (by kernel_rfl) tis_ok ⟨f77_met, trivial⟩ Tryd.func71 (by kernel_rfl) (by kernel_rfl) rfl (by kernel_rfl) (by kernel_rfl) fun d hd => by
    obtain ⟨l, a, b, m, ⟨⟩⟩ := d
    obtain ⟨h1, h2, h3⟩ := hd
    simp only at h1 h2 h3
    have h1 : l = [] := h1
    subst h1; subst h2; subst h3
    exact ⟨ann71 m, cast (by kernel_rfl) (f71_vc m)⟩
@[reducible] def ct39z : CT := { ps := [.sl (.int .i64)], pre := fun d => Mt d.1, res := fun d => ([], .tup []) }
@[reducible] def cl59 : List (Nat × CT) := [(71, ct44z), (72, ct45z)]
@[reducible] def ann59  : Nat → Option (St → Ann) := fun _ => none
set_option maxRecDepth 100000 in
theorem f59_vc  :
    (0 : Int) = (0 : (Sh.int IntKind.u64).den) ∧ (Mt [] ∧ (0 : Int) = (0 : I6.den) ∧ (0 : Int) = (0 : I6.den)) ∧ ([] : List Go.Eng.Res) = [] ∧ Ent.tup [] = Ent.tup [] := by
  exact ⟨rfl, ⟨rfl, rfl, rfl⟩, rfl, rfl⟩
set_option maxRecDepth 100000 in
theorem f59_met : Go.Eng.Met Tryd.prog cx0.gd 59 ct39z :=
  met_of (cx := cx0) (n := 11) (cl := cl59) (by kernel_rfl) tis_ok ⟨f71_met, f72_met, trivial⟩ Tryd.func59 (by kernel_rfl) (by kernel_rfl) rfl (by kernel_rfl) (by kernel_rfl) fun d hd => by
    obtain ⟨l, ⟨⟩⟩ := d
    have hd : l = [] := hd
    subst hd
    exact ⟨ann59 , cast (by kernel_rfl) (f59_vc )⟩
@[reducible] def ctClone : CT := { ps := [.sl (.int .i64)], pre := fun d => d.1.length ≤ 1000000, res := fun d => ([.row 3 (.int .i64) (d.1)], .one (.c (.row 0))) }
@[reducible] def cl40 : List (Nat × CT) := []
@[reducible] def il40 : List (Nat × IP) := []
@[reducible] def ann40 (l : List Int) : Nat → Option (St → Ann) := fun _ => none
set_option maxRecDepth 100000 in
theorem f40_vc (l : List Int) (hpre : ctClone.pre (l, ())) :
    ∀ (b : Bool), (b = true → l = []) → br b ([Res.row (3 : TypeId) I6 l] = [Res.row (3 : TypeId) I6 []] ∧ Ent.one (SV.c (SC.row (0 : Nat))) = Ent.one (SV.c (SC.row (0 : Nat)))) (InA ((0 : Nat) + List.length (l)) (8 : Nat) ∧ [Res.row (3 : TypeId) I6 l] = [Res.row (3 : TypeId) I6 ([] ++ l)] ∧ Ent.one (SV.c (SC.row (0 : Nat))) = Ent.one (SV.c (SC.row (0 : Nat)))) := by
  have hp : l.length ≤ 1000000 := hpre
  intro b hb
  refine br_iff.2 ⟨fun h => by rw [hb h]; exact ⟨rfl, rfl⟩, fun h => ⟨?_, by simp, rfl⟩⟩
  rw [InA_iff]; omega
set_option maxRecDepth 100000 in
theorem f40_met : Go.Eng.Met Tryd.prog cx0.gd 40 ctClone :=
  met_ip (il := il40) (rc := [.row 3 (.int .i64)]) (cx := cx0) (n := 8) (cl := cl40) (by kernel_rfl) tis_ok trivial trivial Tryd.func40 (by kernel_rfl) (by kernel_rfl) rfl (by kernel_rfl) (by kernel_rfl) fun d hd => by
    obtain ⟨l, ⟨⟩⟩ := d
    exact ⟨ann40 l, cast (by kernel_rfl) (f40_vc l hd)⟩
def idxI (l : List Int) (x : Int) : Int := match l.findIdx? (fun y => decide (y = x)) with | some k => (k : Int) | none => -1
theorem idxI_found {l : List Int} {x : Int} {k : Nat} (hd : l[k]? = some x) (hn : ∀ j < k, ∀ y, l[j]? = some y → y ≠ x) : idxI l x = k := by
  have hlt : k < l.length := (List.getElem?_eq_some_iff.1 hd).1
  have : l.findIdx? (fun y => decide (y = x)) = some k := by
    rw [List.findIdx?_eq_some_iff_getElem]
    refine ⟨hlt, by have := (List.getElem?_eq_some_iff.1 hd).2; simp [this], fun j hj => ?_⟩
    have := hn j hj l[j] (List.getElem?_eq_getElem (by omega))
    simpa using this
  simp [idxI, this]
theorem idxI_none {l : List Int} {x : Int} (hn : ∀ (j : Nat) y, l[j]? = some y → y ≠ x) : idxI l x = -1 := by
  have : l.findIdx? (fun y => decide (y = x)) = none := by
    rw [List.findIdx?_eq_none_iff]
    intro y hy
    obtain ⟨j, hj⟩ := List.getElem?_of_mem hy
    simpa using hn j y hj
  simp [idxI, this]
@[reducible] def ctIdx : CT := { ps := [.sl (.int .i64), .int .i64], pre := fun d => d.1.length ≤ 4611686018427387904, res := fun d => ([], .one (.c (.v (.int .i64 (idxI d.1 d.2.1))))) }
@[reducible] def cl70 : List (Nat × CT) := []
@[reducible] def ann70 (l : List Int) (x : Int) : Nat → Option (St → Ann) := fun _ => some fun _ => .inv { α := Nat, slots := fun k => [(8, .c (.v (.int .i64 k)))], res := fun _ => [], inv := fun k => k ≤ l.length ∧ ∀ j < k, ∀ y, l[j]? = some y → y ≠ x, meas := fun k => l.length - k }
set_option maxRecDepth 100000 in
theorem f70_vc (l : List Int) (x : Int) (hpre : ctIdx.pre (l, x, ())) :
    (∃ x_1, (x_1 ≤ l.length ∧ ∀ (j : Nat), j < x_1 → ∀ (y : Int), l[j]? = some y → y ≠ x) ∧ (SV.c (SC.v (Value.int IntKind.i64 (0 : Int))) = SV.c (SC.v (Value.int IntKind.i64 (↑x_1 : Int))) ∧ True) ∧ ([] : List (Go.Eng.Gd × Go.Eng.Res)) = []) ∧ ∀ (x_1 : Nat), (x_1 ≤ l.length ∧ ∀ (j : Nat), j < x_1 → ∀ (y : Int), l[j]? = some y → y ≠ x) → br (decide ((↑x_1 : Int) < (↑l.length : Int))) (((0 : Int) ≤ (↑x_1 : Int) ∧ (↑x_1 : Int) < (↑l.length : Int)) ∧ ∀ (d : Int), l[(↑x_1 : Int).toNat]? = some d → br (decide (x = d)) (([] : List Go.Eng.Res) = [] ∧ Ent.one (SV.c (SC.v (Value.int IntKind.i64 (idxI l x)))) = Ent.one (SV.c (SC.v (Value.int IntKind.i64 (↑x_1 : Int))))) (InR IntKind.i64 ((↑x_1 : Int) + (1 : Int)) ∧ ∃ x', (x' ≤ l.length ∧ ∀ (j : Nat), j < x' → ∀ (y : Int), l[j]? = some y → y ≠ x) ∧ (SV.c (SC.v (Value.int IntKind.i64 ((↑x_1 : Int) + (1 : Int)))) = SV.c (SC.v (Value.int IntKind.i64 (↑x' : Int))) ∧ True) ∧ ([] : List (Go.Eng.Gd × Go.Eng.Res)) = [] ∧ l.length - x' < l.length - x_1)) (([] : List Go.Eng.Res) = [] ∧ Ent.one (SV.c (SC.v (Value.int IntKind.i64 (idxI l x)))) = Ent.one (SV.c (SC.v (Value.int IntKind.i64 (-1 : Int))))) := by
  refine ⟨⟨0, ⟨by omega, fun j hj => by omega⟩, ⟨rfl, trivial⟩, rfl⟩, fun k hk => br_iff.2 ⟨fun h => ?_, fun h => ?_⟩⟩
  · simp only [decide_eq_true_eq] at h
    have hp : l.length ≤ 4611686018427387904 := hpre
    refine ⟨by omega, fun d hd => ?_⟩
    have hd : l[k]? = some d := by simpa using hd
    refine br_iff.2 ⟨fun he => ?_, fun he => ⟨InR_i64.2 (by omega), k + 1, ⟨by omega, fun j hj y hy => ?_⟩, ⟨rfl, trivial⟩, rfl, by omega⟩⟩
    · have he : x = d := by simpa using he
      rw [idxI_found (by rw [hd, he]) hk.2]; exact ⟨rfl, rfl⟩
    · by_cases hjk : j = k
      · subst hjk; rw [hd] at hy; cases hy
        intro hh; simp [hh] at he
      · exact hk.2 j (by omega) y hy
  · simp only [decide_eq_false_iff_not] at h
    rw [idxI_none (fun j y hy => hk.2 j (by have := (List.getElem?_eq_some_iff.1 hy).1; omega) y hy)]; exact ⟨rfl, rfl⟩
set_option maxRecDepth 100000 in
theorem f70_met : Go.Eng.Met Tryd.prog cx0.gd 70 ctIdx :=
  met_of (cx := cx0) (n := 19) (cl := cl70) (by kernel_rfl) tis_ok trivial Tryd.func70 (by kernel_rfl) (by kernel_rfl) rfl (by kernel_rfl) (by kernel_rfl) fun d hd => by
    obtain ⟨l, x, ⟨⟩⟩ := d
    exact ⟨ann70 l x, cast (by kernel_rfl) (f70_vc l x hd)⟩
theorem hasI_idx (l : List Int) (x : Int) : hasI l x = decide (0 ≤ idxI l x) := by
  have h := List.findIdx?_isSome (xs := l) (p := fun y => decide (y = x))
  unfold hasI idxI
  rw [← h]
  cases l.findIdx? (fun y => decide (y = x)) with
  | none => rfl
  | some k => simp
@[reducible] def ctCon : CT := { ps := [.sl (.int .i64), .int .i64], pre := fun d => d.1.length ≤ 4611686018427387904, res := fun d => ([], vB (hasI d.1 d.2.1)) }
@[reducible] def cl55 : List (Nat × CT) := [(70, ctIdx)]
@[reducible] def ann55 (l : List Int) (x : Int) : Nat → Option (St → Ann) := fun _ => none
set_option maxRecDepth 100000 in
theorem f55_vc (l : List Int) (x : Int) (hpre : ctCon.pre (l, x, ())) :
    l.length ≤ (4611686018427387904 : Nat) ∧ ([] : List Go.Eng.Res) = [] ∧ Ent.one (SV.c (SC.v (Value.bool (hasI l x)))) = Ent.one (SV.c (SC.v (Value.bool (decide ((0 : Int) ≤ idxI l x))))) := by
  refine ⟨hpre, rfl, ?_⟩
  rw [hasI_idx]
set_option maxRecDepth 100000 in
theorem f55_met : Go.Eng.Met Tryd.prog cx0.gd 55 ctCon :=
  met_of (cx := cx0) (n := 9) (cl := cl55) (by kernel_rfl) tis_ok ⟨f70_met, trivial⟩ Tryd.func55 (by kernel_rfl) (by kernel_rfl) rfl (by kernel_rfl) (by kernel_rfl) fun d hd => by
    obtain ⟨l, x, ⟨⟩⟩ := d
    exact ⟨ann55 l x, cast (by kernel_rfl) (f55_vc l x hd)⟩
theorem sortI_len (l : List Int) : (sortI l).length = l.length := by simp [sortI]
theorem make_len (l : List Int) : (makeI l).length ≤ l.length := makeI_len l
theorem f59_ip : MetIP Tryd.prog cx0.gd 59 ipSort := ⟨ipok_sort f59_met.1 rfl (fun blk cap zs w hH hb hz => Tryd.slices_Sort_int blk 0 cap zs w hH hb hz), f59_met.2⟩
theorem f60_ip : MetIP Tryd.prog cx0.gd 60 ipCompact := ⟨ipok_compact (fun a cap w => Tryd.slices_Compact_int_empty a cap w) (fun blk cap zs w hH h1 h2 => Tryd.slices_Compact_int blk 0 cap zs w hH h1 h2), ⟨_, Tryd.func60, rfl, by kernel_rfl⟩⟩
@[reducible] def ctSorted : CT := { ps := [.sl (.int .i64)], pre := fun d => d.1.length ≤ 1000000, res := fun d => ([.row 3 (.int .i64) (makeI d.1)], .one (.c (.row 0))) }
@[reducible] def cl48 : List (Nat × CT) := [(40, ctClone)]
@[reducible] def il48 : List (Nat × IP) := [(59, ipSort), (60, ipCompact)]
@[reducible] def ann48 (l : List Int) : Nat → Option (St → Ann) := fun _ => none
set_option maxRecDepth 100000 in
theorem f48_vc (l : List Int) (hpre : ctSorted.pre (l, ())) :
    l.length ≤ (1000000 : Nat) ∧ List.length (l) < (4611686018427387904 : Nat) ∧ List.length (sortI (l)) < (4611686018427387904 : Nat) ∧ [Res.row (3 : TypeId) I6 (makeI l)] = [Res.row (3 : TypeId) I6 (Lib.compact (sortI (l)))] ∧ Ent.one (SV.c (SC.row (0 : Nat))) = Ent.one (SV.c (SC.row (0 : Nat))) := by
  have hp : l.length ≤ 1000000 := hpre
  exact ⟨hp, by omega, by rw [sortI_len]; omega, by rw [dd_make], rfl⟩
set_option maxRecDepth 100000 in
theorem f48_met : Go.Eng.Met Tryd.prog cx0.gd 48 ctSorted :=
  met_ip (il := il48) (rc := []) (cx := cx0) (n := 10) (cl := cl48) (by kernel_rfl) tis_ok ⟨f40_met, trivial⟩ ⟨f59_ip, f60_ip, trivial⟩ Tryd.func48 (by kernel_rfl) (by kernel_rfl) rfl (by kernel_rfl) (by kernel_rfl) fun d hd => by
    obtain ⟨l, ⟨⟩⟩ := d
    exact ⟨ann48 l, cast (by kernel_rfl) (f48_vc l hd)⟩
@[reducible] def ctHas : CT := { ps := [.sl (.int .i64), .int .i64], pre := fun d => d.1.length ≤ 1000000, res := fun d => ([], vB (hasI d.1 d.2.1)) }
@[reducible] def cl46 : List (Nat × CT) := [(55, ctCon)]
@[reducible] def ann46 (l : List Int) (x : Int) : Nat → Option (St → Ann) := fun _ => none
set_option maxRecDepth 100000 in
theorem f46_vc (l : List Int) (x : Int) (hpre : ctHas.pre (l, x, ())) :
    l.length ≤ (4611686018427387904 : Nat) ∧ ([] : List Go.Eng.Res) = [] ∧ Ent.one (SV.c (SC.v (Value.bool (hasI l x)))) = Ent.one (SV.c (SC.v (Value.bool (hasI l x)))) := by
  have hp : l.length ≤ 1000000 := hpre
  exact ⟨by omega, rfl, rfl⟩
set_option maxRecDepth 100000 in
theorem f46_met : Go.Eng.Met Tryd.prog cx0.gd 46 ctHas :=
  met_of (cx := cx0) (n := 8) (cl := cl46) (by kernel_rfl) tis_ok ⟨f55_met, trivial⟩ Tryd.func46 (by kernel_rfl) (by kernel_rfl) rfl (by kernel_rfl) (by kernel_rfl) fun d hd => by
    obtain ⟨l, x, ⟨⟩⟩ := d
    exact ⟨ann46 l x, cast (by kernel_rfl) (f46_vc l x hd)⟩
@[reducible] def ctAdd : CT := { ps := [.sl (.int .i64), .int .i64], pre := fun d => d.1.length ≤ 999999, res := fun d => ([.row 3 (.int .i64) (makeI (d.1 ++ [d.2.1]))], .one (.c (.row 0))) }
@[reducible] def cl37 : List (Nat × CT) := [(40, ctClone), (48, ctSorted)]
@[reducible] def ann37 (l : List Int) (x : Int) : Nat → Option (St → Ann) := fun _ => none
set_option maxRecDepth 100000 in
theorem f37_vc (l : List Int) (x : Int) (hpre : ctAdd.pre (l, x, ())) :
    l.length ≤ (1000000 : Nat) ∧ InA (List.length (l) + List.length ([x])) (8 : Nat) ∧ List.length (l ++ [x]) ≤ (1000000 : Nat) ∧ [Res.row (3 : TypeId) I6 (makeI (l ++ [x]))] = [Res.row (3 : TypeId) I6 (makeI (l ++ [x]))] ∧ Ent.one (SV.c (SC.row (0 : Nat))) = Ent.one (SV.c (SC.row (0 : Nat))) := by
  have hp : l.length ≤ 999999 := hpre
  refine ⟨by omega, ?_, ?_, rfl, rfl⟩
  · rw [InA_iff]; simp; omega
  · simp; omega
set_option maxRecDepth 100000 in
theorem f37_met : Go.Eng.Met Tryd.prog cx0.gd 37 ctAdd :=
  met_of (cx := cx0) (n := 11) (cl := cl37) (by kernel_rfl) tis_ok ⟨f40_met, f48_met, trivial⟩ Tryd.func37 (by kernel_rfl) (by kernel_rfl) rfl (by kernel_rfl) (by kernel_rfl) fun d hd => by
    obtain ⟨l, x, ⟨⟩⟩ := d
    exact ⟨ann37 l x, cast (by kernel_rfl) (f37_vc l x hd)⟩
end Go.Proofs.YtklnffdjhoacoaaDoor
set_option linter.unusedSimpArgs false
set_option linter.unusedVariables false
set_option maxRecDepth 100000
namespace Go.Proofs.YtklnffdjhoacoaaDoor
open Go Go.Eng

@[reducible] def shV : Sh := .pair .str (.pair (.int .i64) .unit)
@[reducible] def shF : Sh := .pair .str (.pair (.sl shI) .unit)
@[reducible] def shS : Sh := .pair (.int .i64) (.pair (.int .i64) .unit)
@[reducible] def shP : Sh := .pair (.sl shV) (.pair (.sl .str) (.pair (.sl .str) (.pair (.sl shF) (.pair (.sl shS) .unit))))
abbrev ID := Int × Int × Int × Int × Int × Int × Int × Int × Unit
abbrev VD := ByteArray × Int × Unit
abbrev FD := ByteArray × List ID × Unit
abbrev SD := Int × Int × Unit
abbrev PD := List VD × List ByteArray × List ByteArray × List FD × List SD × Unit
/-- The instructions of functions, with their places. -/
def instF (f : Nat) (x : FD) : List (dens [shS, shI]) := x.2.1.zipIdx.map fun p => (((f : Int), (p.2 : Int), ()), p.1, ())
def instG : Nat → List FD → List (dens [shS, shI])
  | _, [] => []
  | n, x :: l => instF n x ++ instG (n + 1) l
def instL (fs : List FD) : List (dens [shS, shI]) := instG 0 fs
theorem instF_len (f : Nat) (x : FD) : (instF f x).length = x.2.1.length := by simp [instF]
theorem instF_get {f : Nat} {x : FD} {j : Nat} {e : ID} (h : x.2.1[j]? = some e) : (instF f x)[j]? = some (((f : Int), (j : Int), ()), e, ()) := by
  unfold instF
  rw [List.getElem?_map, List.getElem?_zipIdx, h]
  simp
theorem instG_append : ∀ (l m : List FD) (n : Nat), instG n (l ++ m) = instG n l ++ instG (n + l.length) m
  | [], m, n => by simp [instG]
  | x :: l, m, n => by
    simp only [List.cons_append, instG, instG_append l m, List.append_assoc, List.length_cons]
    rw [show n + 1 + l.length = n + (l.length + 1) by omega]
theorem instL_cut {fs : List FD} {k : Nat} {d : FD} (h : fs[k]? = some d) : instL fs = instL (fs.take k) ++ (instF k d ++ instG (k + 1) (fs.drop (k + 1))) := by
  have hk : k < fs.length := (List.getElem?_eq_some_iff.1 h).1
  have e : fs = fs.take k ++ (d :: fs.drop (k + 1)) := by
    have h2 := List.drop_eq_getElem_cons hk
    rw [(List.getElem?_eq_some_iff.1 h).2] at h2
    rw [← h2, List.take_append_drop]
  unfold instL
  conv => lhs; rw [e]
  rw [instG_append]
  rw [show 0 + (fs.take k).length = k by simp; omega]
  rfl
theorem instL_step {fs : List FD} {k : Nat} {d : FD} (h : fs[k]? = some d) : instL (fs.take (k + 1)) = instL (fs.take k) ++ instF k d := by
  have hk : k < fs.length := (List.getElem?_eq_some_iff.1 h).1
  rw [List.take_add_one, h]
  unfold instL
  rw [instG_append]
  rw [show 0 + (fs.take k).length = k by simp; omega]
  simp [instG]
theorem instL_get {fs : List FD} {k j : Nat} {d : FD} {e : ID} (h : fs[k]? = some d) (h2 : d.2.1[j]? = some e) : (instL fs)[(instL (fs.take k)).length + j]? = some (((k : Int), (j : Int), ()), e, ()) := by
  have hj : j < d.2.1.length := (List.getElem?_eq_some_iff.1 h2).1
  rw [instL_cut h, List.getElem?_append_right (by omega), List.getElem?_append_left (by rw [instF_len]; omega)]
  rw [show (instL (fs.take k)).length + j - (instL (fs.take k)).length = j by omega]
  exact instF_get h2
@[reducible] noncomputable def mk70 : MK := { ss := [shP], f := fun d => .seq Tryd.prog [shS, shI] (instL d.1.2.2.2.1), pre := fun d => d.1.2.2.2.1.length ≤ 1000000 ∧ ∀ x ∈ d.1.2.2.2.1, x.2.1.length ≤ 1000000 }

@[reducible] def cl75 : List (Nat × CT) := []
@[reducible] def ann75 (vs : List VD) (ms : List ByteArray) (cs : List ByteArray) (fs : List FD) (ts : List SD) : Nat → Option (St → Ann) := fun k => match k with
  | 1 => some fun _ => .gen { α := Nat, slots := fun k => [(10, .c (.v (.int .i64 k)))], res := fun _ => [], inv := fun k => k ≤ fs.length, meas := fun k => fs.length - k } fun k => (instL (fs.take k)).length
  | 4 => some fun s => .gen { α := Nat, slots := fun k => [(18, .c (.v (.int .i64 k)))], res := fun _ => [], inv := fun k => k ≤ (slotL shI s 16).length, meas := fun k => (slotL shI s 16).length - k } fun k => (instL (fs.take (slotI s 10).toNat)).length + k
  | _ => none
@[reducible] def il75 : List (Nat × IP) := []
@[reducible] def hl75 : List (Nat × Nat × CT) := []
@[reducible] def ml75 : List (Nat × MK) := []
set_option maxRecDepth 100000 in
theorem f75_vc (vs : List VD) (ms : List ByteArray) (cs : List ByteArray) (fs : List FD) (ts : List SD) (l : Nat) (hpre : mk70.pre ((vs, ms, cs, fs, ts, ()), ())) :
    (∃ x, x ≤ fs.length ∧ (instL (List.take x fs)).length = (0 : Nat) ∧ (SV.c (SC.v (Value.int IntKind.i64 (0 : Int))) = SV.c (SC.v (Value.int IntKind.i64 (↑x : Int))) ∧ True) ∧ ([] : List (Go.Eng.Gd × Go.Eng.Res)) = []) ∧ ∀ (x : Nat), x ≤ fs.length → br (decide ((↑x : Int) < (↑fs.length : Int))) (((0 : Int) ≤ (↑x : Int) ∧ (↑x : Int) < (↑fs.length : Int)) ∧ ∀ (d : Sh.str.den × (shI.sl.pair Sh.unit).den), fs[(↑x : Int).toNat]? = some d → (∃ x_1, x_1 ≤ List.length (d.snd.fst) ∧ (instL (List.take (↑x : Int).toNat fs)).length + x_1 = (instL (List.take x fs)).length ∧ (SV.c (SC.v (Value.int IntKind.i64 (0 : Int))) = SV.c (SC.v (Value.int IntKind.i64 (↑x_1 : Int))) ∧ True) ∧ [(([] : Go.Eng.Gd), Res.blk (60 : Nat) [SC.v (Value.string d.fst), SC.sl shI d.snd.fst])] = [(([] : Go.Eng.Gd), Res.blk (60 : Nat) [SC.v (Value.string d.fst), SC.sl shI d.snd.fst])]) ∧ ∀ (x_1 : Nat), x_1 ≤ List.length (d.snd.fst) → br (decide ((↑x_1 : Int) < (↑(List.length d.snd.fst) : Int))) (((0 : Int) ≤ (↑x_1 : Int) ∧ (↑x_1 : Int) < (↑(List.length d.snd.fst) : Int)) ∧ ∀ (d_1 : I6.den × (I6.pair (I6.pair (I6.pair (I6.pair (I6.pair (I6.pair (I6.pair Sh.unit))))))).den), d.snd.fst[(↑x_1 : Int).toNat]? = some d_1 → l = l ∧ (instL fs)[(instL (List.take (↑x : Int).toNat fs)).length + x_1]? = some (((↑x : Int), (↑x_1 : Int), ()), d_1, ()) ∧ (InR IntKind.i64 ((↑x_1 : Int) + (1 : Int)) ∧ ∃ x', x' ≤ List.length (d.snd.fst) ∧ (instL (List.take (↑x : Int).toNat fs)).length + x' = (instL (List.take (↑x : Int).toNat fs)).length + x_1 + (1 : Nat) ∧ (SV.c (SC.v (Value.int IntKind.i64 ((↑x_1 : Int) + (1 : Int)))) = SV.c (SC.v (Value.int IntKind.i64 (↑x' : Int))) ∧ True) ∧ [(([] : Go.Eng.Gd), Res.blk (60 : Nat) [SC.v (Value.string d.fst), SC.sl shI d.snd.fst])] = [(([] : Go.Eng.Gd), Res.blk (60 : Nat) [SC.v (Value.string d.fst), SC.sl shI d.snd.fst])] ∧ List.length (d.snd.fst) - x' < List.length (d.snd.fst) - x_1) ∧ True) (InR IntKind.i64 ((↑x : Int) + (1 : Int)) ∧ ∃ x', x' ≤ fs.length ∧ (instL (List.take x' fs)).length = (instL (List.take (↑x : Int).toNat fs)).length + x_1 ∧ (SV.c (SC.v (Value.int IntKind.i64 ((↑x : Int) + (1 : Int)))) = SV.c (SC.v (Value.int IntKind.i64 (↑x' : Int))) ∧ True) ∧ ([] : List (Go.Eng.Gd × Go.Eng.Res)) = [] ∧ fs.length - x' < fs.length - x)) ((instL (List.take x fs)).length = lenL (instL fs)) := by
  have hp1 : fs.length ≤ 1000000 := hpre.1
  have hp2 : ∀ x ∈ fs, x.2.1.length ≤ 1000000 := hpre.2
  refine ⟨⟨0, by omega, by simp [instL, instG], ⟨rfl, trivial⟩, rfl⟩, fun x hx => br_iff.2 ⟨fun h => ?_, fun h => ?_⟩⟩
  · simp only [decide_eq_true_eq] at h
    have hN : (↑x : Int).toNat = x := by omega
    rw [hN]
    refine ⟨by omega, fun d hd => ?_⟩
    have hd : fs[x]? = some d := by simpa using hd
    have hst := instL_step hd
    refine ⟨⟨0, Nat.zero_le _, by omega, ⟨rfl, trivial⟩, rfl⟩, fun y hy => br_iff.2 ⟨fun h2 => ?_, fun h2 => ?_⟩⟩
    · simp only [decide_eq_true_eq] at h2
      refine ⟨by omega, fun e he => ?_⟩
      have he : d.2.1[y]? = some e := by simpa using he
      refine ⟨rfl, instL_get hd he, ⟨?_, y + 1, ?_, ?_, ⟨rfl, trivial⟩, rfl, ?_⟩, trivial⟩
      · have := hp2 d (List.mem_of_getElem? hd)
        exact InR_i64.2 (by omega)
      · omega
      · omega
      · omega
    · simp only [decide_eq_false_iff_not] at h2
      refine ⟨InR_i64.2 (by omega), x + 1, by omega, ?_, ⟨rfl, trivial⟩, rfl, by omega⟩
      have hq := hp2 d (List.mem_of_getElem? hd)
      have hy : y = d.2.1.length := by omega
      rw [hst, List.length_append, instF_len, hy]
  · simp only [decide_eq_false_iff_not] at h
    rw [List.take_of_length_le (by omega), lenL_eq]
set_option maxRecDepth 100000 in
theorem f75_gv : MkOK Tryd.prog cx0.gd 75 mk70 := by
  intro d h lb hd hg cap
  obtain ⟨⟨vs, ms, cs, fs, ts, ⟨⟩⟩, ⟨⟩⟩ := d
  exact gives_of (E := envA Tryd.prog cx0 32 cl75 il75 hl75 ml75 [] [] fun _ => none) (envA_ok (by kernel_rfl) tis_ok trivial trivial trivial trivial) rfl Tryd.func75 (body := bodyOf Tryd.f75) (by kernel_rfl) (by kernel_rfl) rfl rfl rfl rfl ⟨ann75 vs ms cs fs ts, fun l => cast (by kernel_rfl) (f75_vc vs ms cs fs ts l hd)⟩ hg cap
@[reducible] noncomputable def ctInsts : CT := { ps := [shP], pre := fun d => d.1.2.2.2.1.length ≤ 1000000 ∧ ∀ x ∈ d.1.2.2.2.1, x.2.1.length ≤ 1000000, res := fun d => ([], .one (.c (.abs (.seq Tryd.prog [shS, shI] (instL d.1.2.2.2.1))))) }
@[reducible] noncomputable def cl67 : List (Nat × CT) := []
@[reducible] def ann67 (vs : List VD) (ms : List ByteArray) (cs : List ByteArray) (fs : List FD) (ts : List SD) : Nat → Option (St → Ann) := fun _ => none
@[reducible] def il67 : List (Nat × IP) := []
@[reducible] def hl67 : List (Nat × Nat × CT) := []
@[reducible] noncomputable def ml67 : List (Nat × MK) := [(75, mk70)]
set_option maxRecDepth 100000 in
theorem f67_vc (vs : List VD) (ms : List ByteArray) (cs : List ByteArray) (fs : List FD) (ts : List SD) (hpre : ctInsts.pre ((vs, ms, cs, fs, ts, ()), ())) :
    (fs.length ≤ (1000000 : Nat) ∧ ∀ (x : Sh.str.den × (shI.sl.pair Sh.unit).den), x ∈ fs → List.length x.snd.fst ≤ (1000000 : Nat)) ∧ ([] : List Go.Eng.Res) = [] ∧ Ent.one (SV.c (SC.abs (Abs.seq Tryd.prog [I6.pair (I6.pair Sh.unit), I6.pair (I6.pair (I6.pair (I6.pair (I6.pair (I6.pair (I6.pair (I6.pair Sh.unit)))))))] (instL fs)))) = Ent.one (SV.c (SC.abs (Abs.seq Tryd.prog [I6.pair (I6.pair Sh.unit), I6.pair (I6.pair (I6.pair (I6.pair (I6.pair (I6.pair (I6.pair (I6.pair Sh.unit)))))))] (instL fs)))) := by
  exact ⟨hpre, rfl, rfl⟩
set_option maxRecDepth 100000 in
theorem f67_met : Go.Eng.Met Tryd.prog cx0.gd 67 ctInsts :=
  (met_all (cx := cx0) (n := 4) (cl := cl67) (il := il67) (hl := hl67) (ml := ml67) (rc := []) (lits := []) (suf := []) (by kernel_rfl) tis_ok trivial trivial trivial ⟨f75_gv, trivial⟩ Tryd.func67 (by kernel_rfl) (by kernel_rfl) rfl (by kernel_rfl) (by kernel_rfl) (by simp) fun d hd => by
    obtain ⟨⟨vs, ms, cs, fs, ts, ⟨⟩⟩, ⟨⟩⟩ := d
    exact ⟨ann67 vs ms cs fs ts, cast (by kernel_rfl) (f67_vc vs ms cs fs ts hd)⟩).met
end Go.Proofs.YtklnffdjhoacoaaDoor
set_option linter.unusedSimpArgs false
set_option linter.unusedVariables false
set_option maxRecDepth 100000
namespace Go.Proofs.YtklnffdjhoacoaaDoor
open Go Go.Eng

def letS (c : Int) : Bool := decide (97 ≤ c ∧ c ≤ 122 ∨ 65 ≤ c ∧ c ≤ 90)
@[reducible] def ctLet : CT := { ps := [.int .u8], pre := fun d => True, res := fun d => ([], vB (letS d.1)) }
@[reducible] def cl88 : List (Nat × CT) := []
@[reducible] def ann88 (c : Int) : Nat → Option (St → Ann) := fun _ => none
set_option maxRecDepth 100000 in
theorem f88_vc (c : Int) :
    ([] : List Go.Eng.Res) = [] ∧ Ent.one (SV.c (SC.v (Value.bool (letS c)))) = Ent.one (SV.c (SC.v (Value.bool (decide ((97 : Int) ≤ c) && decide (c ≤ (122 : Int)) || decide ((65 : Int) ≤ c) && decide (c ≤ (90 : Int)))))) := by
  refine ⟨rfl, ?_⟩
  rw [show letS c = (decide (97 ≤ c) && decide (c ≤ 122) || decide (65 ≤ c) && decide (c ≤ 90)) by unfold letS; rw [Bool.eq_iff_iff]; simp]
set_option maxRecDepth 100000 in
theorem f88_met : Go.Eng.Met Tryd.prog cx0.gd 88 ctLet :=
  met_of (cx := cx0) (n := 17) (cl := cl88) (by kernel_rfl) tis_ok trivial Tryd.func88 (by kernel_rfl) (by kernel_rfl) rfl (by kernel_rfl) (by kernel_rfl) fun d hd => by
    obtain ⟨c, ⟨⟩⟩ := d
    exact ⟨ann88 c, cast (by kernel_rfl) (f88_vc c)⟩
def valS (n : Int) : Bool := decide (-2147483648 ≤ n ∧ n ≤ 2147483647)
@[reducible] def ctVal : CT := { ps := [.int .i64], pre := fun d => True, res := fun d => ([], vB (valS d.1)) }
@[reducible] def cl64 : List (Nat × CT) := []
@[reducible] def ann64 (n : Int) : Nat → Option (St → Ann) := fun _ => none
set_option maxRecDepth 100000 in
theorem f64_vc (n : Int) :
    ([] : List Go.Eng.Res) = [] ∧ Ent.one (SV.c (SC.v (Value.bool (valS n)))) = Ent.one (SV.c (SC.v (Value.bool (decide ((-2147483648 : Int) ≤ n) && decide (n ≤ (2147483647 : Int)))))) := by
  refine ⟨rfl, ?_⟩
  rw [show valS n = (decide (-2147483648 ≤ n) && decide (n ≤ 2147483647)) by unfold valS; rw [Bool.eq_iff_iff]; simp]
set_option maxRecDepth 100000 in
theorem f64_met : Go.Eng.Met Tryd.prog cx0.gd 64 ctVal :=
  met_of (cx := cx0) (n := 9) (cl := cl64) (by kernel_rfl) tis_ok trivial Tryd.func64 (by kernel_rfl) (by kernel_rfl) rfl (by kernel_rfl) (by kernel_rfl) fun d hd => by
    obtain ⟨n, ⟨⟩⟩ := d
    exact ⟨ann64 n, cast (by kernel_rfl) (f64_vc n)⟩
def objS (vs : List VD) (ms cs : List ByteArray) (fs : List FD) (op : Int) : Int :=
  if op = 8 ∨ op = 9 ∨ op = 10 ∨ op = 11 ∨ op = 12 ∨ op = 14 then vs.length else if op = 15 ∨ op = 16 ∨ op = 17 then ms.length else if op = 18 ∨ op = 19 ∨ op = 20 then cs.length else if op = 21 then fs.length else -1
@[reducible] def ctObj : CT := { ps := [shP, .int .i64], pre := fun d => True, res := fun d => ([], .one (.c (.v (.int .i64 (objS d.1.1 d.1.2.1 d.1.2.2.1 d.1.2.2.2.1 d.2.1))))) }
@[reducible] def cl76 : List (Nat × CT) := []
@[reducible] def ann76 (vs : List VD) (ms : List ByteArray) (cs : List ByteArray) (fs : List FD) (ts : List SD) (op : Int) : Nat → Option (St → Ann) := fun _ => none
set_option maxRecDepth 100000 in
theorem f76_vc (vs : List VD) (ms : List ByteArray) (cs : List ByteArray) (fs : List FD) (ts : List SD) (op : Int) :
    br (decide (op = (8 : Int))) (br (decide (op = (8 : Int))) (([] : List Go.Eng.Res) = [] ∧ Ent.one (SV.c (SC.v (Value.int IntKind.i64 (objS vs ms cs fs op)))) = Ent.one (SV.c (SC.v (Value.int IntKind.i64 (↑vs.length : Int))))) (br (decide (op = (15 : Int))) (br (decide (op = (15 : Int))) (([] : List Go.Eng.Res) = [] ∧ Ent.one (SV.c (SC.v (Value.int IntKind.i64 (objS vs ms cs fs op)))) = Ent.one (SV.c (SC.v (Value.int IntKind.i64 (↑ms.length : Int))))) (br (decide (op = (18 : Int))) (br (decide (op = (18 : Int))) (([] : List Go.Eng.Res) = [] ∧ Ent.one (SV.c (SC.v (Value.int IntKind.i64 (objS vs ms cs fs op)))) = Ent.one (SV.c (SC.v (Value.int IntKind.i64 (↑cs.length : Int))))) (br (decide (op = (21 : Int))) (([] : List Go.Eng.Res) = [] ∧ Ent.one (SV.c (SC.v (Value.int IntKind.i64 (objS vs ms cs fs op)))) = Ent.one (SV.c (SC.v (Value.int IntKind.i64 (↑fs.length : Int))))) (([] : List Go.Eng.Res) = [] ∧ Ent.one (SV.c (SC.v (Value.int IntKind.i64 (objS vs ms cs fs op)))) = Ent.one (SV.c (SC.v (Value.int IntKind.i64 (-1 : Int))))))) (br (decide (op = (19 : Int))) (br (decide (op = (19 : Int))) (([] : List Go.Eng.Res) = [] ∧ Ent.one (SV.c (SC.v (Value.int IntKind.i64 (objS vs ms cs fs op)))) = Ent.one (SV.c (SC.v (Value.int IntKind.i64 (↑cs.length : Int))))) (br (decide (op = (21 : Int))) (([] : List Go.Eng.Res) = [] ∧ Ent.one (SV.c (SC.v (Value.int IntKind.i64 (objS vs ms cs fs op)))) = Ent.one (SV.c (SC.v (Value.int IntKind.i64 (↑fs.length : Int))))) (([] : List Go.Eng.Res) = [] ∧ Ent.one (SV.c (SC.v (Value.int IntKind.i64 (objS vs ms cs fs op)))) = Ent.one (SV.c (SC.v (Value.int IntKind.i64 (-1 : Int))))))) (br (decide (op = (20 : Int))) (([] : List Go.Eng.Res) = [] ∧ Ent.one (SV.c (SC.v (Value.int IntKind.i64 (objS vs ms cs fs op)))) = Ent.one (SV.c (SC.v (Value.int IntKind.i64 (↑cs.length : Int))))) (br (decide (op = (21 : Int))) (([] : List Go.Eng.Res) = [] ∧ Ent.one (SV.c (SC.v (Value.int IntKind.i64 (objS vs ms cs fs op)))) = Ent.one (SV.c (SC.v (Value.int IntKind.i64 (↑fs.length : Int))))) (([] : List Go.Eng.Res) = [] ∧ Ent.one (SV.c (SC.v (Value.int IntKind.i64 (objS vs ms cs fs op)))) = Ent.one (SV.c (SC.v (Value.int IntKind.i64 (-1 : Int)))))))))) (br (decide (op = (16 : Int))) (br (decide (op = (16 : Int))) (([] : List Go.Eng.Res) = [] ∧ Ent.one (SV.c (SC.v (Value.int IntKind.i64 (objS vs ms cs fs op)))) = Ent.one (SV.c (SC.v (Value.int IntKind.i64 (↑ms.length : Int))))) (br (decide (op = (18 : Int))) (br (decide (op = (18 : Int))) (([] : List Go.Eng.Res) = [] ∧ Ent.one (SV.c (SC.v (Value.int IntKind.i64 (objS vs ms cs fs op)))) = Ent.one (SV.c (SC.v (Value.int IntKind.i64 (↑cs.length : Int))))) (br (decide (op = (21 : Int))) (([] : List Go.Eng.Res) = [] ∧ Ent.one (SV.c (SC.v (Value.int IntKind.i64 (objS vs ms cs fs op)))) = Ent.one (SV.c (SC.v (Value.int IntKind.i64 (↑fs.length : Int))))) (([] : List Go.Eng.Res) = [] ∧ Ent.one (SV.c (SC.v (Value.int IntKind.i64 (objS vs ms cs fs op)))) = Ent.one (SV.c (SC.v (Value.int IntKind.i64 (-1 : Int))))))) (br (decide (op = (19 : Int))) (br (decide (op = (19 : Int))) (([] : List Go.Eng.Res) = [] ∧ Ent.one (SV.c (SC.v (Value.int IntKind.i64 (objS vs ms cs fs op)))) = Ent.one (SV.c (SC.v (Value.int IntKind.i64 (↑cs.length : Int))))) (br (decide (op = (21 : Int))) (([] : List Go.Eng.Res) = [] ∧ Ent.one (SV.c (SC.v (Value.int IntKind.i64 (objS vs ms cs fs op)))) = Ent.one (SV.c (SC.v (Value.int IntKind.i64 (↑fs.length : Int))))) (([] : List Go.Eng.Res) = [] ∧ Ent.one (SV.c (SC.v (Value.int IntKind.i64 (objS vs ms cs fs op)))) = Ent.one (SV.c (SC.v (Value.int IntKind.i64 (-1 : Int))))))) (br (decide (op = (20 : Int))) (([] : List Go.Eng.Res) = [] ∧ Ent.one (SV.c (SC.v (Value.int IntKind.i64 (objS vs ms cs fs op)))) = Ent.one (SV.c (SC.v (Value.int IntKind.i64 (↑cs.length : Int))))) (br (decide (op = (21 : Int))) (([] : List Go.Eng.Res) = [] ∧ Ent.one (SV.c (SC.v (Value.int IntKind.i64 (objS vs ms cs fs op)))) = Ent.one (SV.c (SC.v (Value.int IntKind.i64 (↑fs.length : Int))))) (([] : List Go.Eng.Res) = [] ∧ Ent.one (SV.c (SC.v (Value.int IntKind.i64 (objS vs ms cs fs op)))) = Ent.one (SV.c (SC.v (Value.int IntKind.i64 (-1 : Int)))))))))) (br (decide (op = (17 : Int))) (([] : List Go.Eng.Res) = [] ∧ Ent.one (SV.c (SC.v (Value.int IntKind.i64 (objS vs ms cs fs op)))) = Ent.one (SV.c (SC.v (Value.int IntKind.i64 (↑ms.length : Int))))) (br (decide (op = (18 : Int))) (br (decide (op = (18 : Int))) (([] : List Go.Eng.Res) = [] ∧ Ent.one (SV.c (SC.v (Value.int IntKind.i64 (objS vs ms cs fs op)))) = Ent.one (SV.c (SC.v (Value.int IntKind.i64 (↑cs.length : Int))))) (br (decide (op = (21 : Int))) (([] : List Go.Eng.Res) = [] ∧ Ent.one (SV.c (SC.v (Value.int IntKind.i64 (objS vs ms cs fs op)))) = Ent.one (SV.c (SC.v (Value.int IntKind.i64 (↑fs.length : Int))))) (([] : List Go.Eng.Res) = [] ∧ Ent.one (SV.c (SC.v (Value.int IntKind.i64 (objS vs ms cs fs op)))) = Ent.one (SV.c (SC.v (Value.int IntKind.i64 (-1 : Int))))))) (br (decide (op = (19 : Int))) (br (decide (op = (19 : Int))) (([] : List Go.Eng.Res) = [] ∧ Ent.one (SV.c (SC.v (Value.int IntKind.i64 (objS vs ms cs fs op)))) = Ent.one (SV.c (SC.v (Value.int IntKind.i64 (↑cs.length : Int))))) (br (decide (op = (21 : Int))) (([] : List Go.Eng.Res) = [] ∧ Ent.one (SV.c (SC.v (Value.int IntKind.i64 (objS vs ms cs fs op)))) = Ent.one (SV.c (SC.v (Value.int IntKind.i64 (↑fs.length : Int))))) (([] : List Go.Eng.Res) = [] ∧ Ent.one (SV.c (SC.v (Value.int IntKind.i64 (objS vs ms cs fs op)))) = Ent.one (SV.c (SC.v (Value.int IntKind.i64 (-1 : Int))))))) (br (decide (op = (20 : Int))) (([] : List Go.Eng.Res) = [] ∧ Ent.one (SV.c (SC.v (Value.int IntKind.i64 (objS vs ms cs fs op)))) = Ent.one (SV.c (SC.v (Value.int IntKind.i64 (↑cs.length : Int))))) (br (decide (op = (21 : Int))) (([] : List Go.Eng.Res) = [] ∧ Ent.one (SV.c (SC.v (Value.int IntKind.i64 (objS vs ms cs fs op)))) = Ent.one (SV.c (SC.v (Value.int IntKind.i64 (↑fs.length : Int))))) (([] : List Go.Eng.Res) = [] ∧ Ent.one (SV.c (SC.v (Value.int IntKind.i64 (objS vs ms cs fs op)))) = Ent.one (SV.c (SC.v (Value.int IntKind.i64 (-1 : Int))))))))))))) (br (decide (op = (9 : Int))) (br (decide (op = (9 : Int))) (([] : List Go.Eng.Res) = [] ∧ Ent.one (SV.c (SC.v (Value.int IntKind.i64 (objS vs ms cs fs op)))) = Ent.one (SV.c (SC.v (Value.int IntKind.i64 (↑vs.length : Int))))) (br (decide (op = (15 : Int))) (br (decide (op = (15 : Int))) (([] : List Go.Eng.Res) = [] ∧ Ent.one (SV.c (SC.v (Value.int IntKind.i64 (objS vs ms cs fs op)))) = Ent.one (SV.c (SC.v (Value.int IntKind.i64 (↑ms.length : Int))))) (br (decide (op = (18 : Int))) (br (decide (op = (18 : Int))) (([] : List Go.Eng.Res) = [] ∧ Ent.one (SV.c (SC.v (Value.int IntKind.i64 (objS vs ms cs fs op)))) = Ent.one (SV.c (SC.v (Value.int IntKind.i64 (↑cs.length : Int))))) (br (decide (op = (21 : Int))) (([] : List Go.Eng.Res) = [] ∧ Ent.one (SV.c (SC.v (Value.int IntKind.i64 (objS vs ms cs fs op)))) = Ent.one (SV.c (SC.v (Value.int IntKind.i64 (↑fs.length : Int))))) (([] : List Go.Eng.Res) = [] ∧ Ent.one (SV.c (SC.v (Value.int IntKind.i64 (objS vs ms cs fs op)))) = Ent.one (SV.c (SC.v (Value.int IntKind.i64 (-1 : Int))))))) (br (decide (op = (19 : Int))) (br (decide (op = (19 : Int))) (([] : List Go.Eng.Res) = [] ∧ Ent.one (SV.c (SC.v (Value.int IntKind.i64 (objS vs ms cs fs op)))) = Ent.one (SV.c (SC.v (Value.int IntKind.i64 (↑cs.length : Int))))) (br (decide (op = (21 : Int))) (([] : List Go.Eng.Res) = [] ∧ Ent.one (SV.c (SC.v (Value.int IntKind.i64 (objS vs ms cs fs op)))) = Ent.one (SV.c (SC.v (Value.int IntKind.i64 (↑fs.length : Int))))) (([] : List Go.Eng.Res) = [] ∧ Ent.one (SV.c (SC.v (Value.int IntKind.i64 (objS vs ms cs fs op)))) = Ent.one (SV.c (SC.v (Value.int IntKind.i64 (-1 : Int))))))) (br (decide (op = (20 : Int))) (([] : List Go.Eng.Res) = [] ∧ Ent.one (SV.c (SC.v (Value.int IntKind.i64 (objS vs ms cs fs op)))) = Ent.one (SV.c (SC.v (Value.int IntKind.i64 (↑cs.length : Int))))) (br (decide (op = (21 : Int))) (([] : List Go.Eng.Res) = [] ∧ Ent.one (SV.c (SC.v (Value.int IntKind.i64 (objS vs ms cs fs op)))) = Ent.one (SV.c (SC.v (Value.int IntKind.i64 (↑fs.length : Int))))) (([] : List Go.Eng.Res) = [] ∧ Ent.one (SV.c (SC.v (Value.int IntKind.i64 (objS vs ms cs fs op)))) = Ent.one (SV.c (SC.v (Value.int IntKind.i64 (-1 : Int)))))))))) (br (decide (op = (16 : Int))) (br (decide (op = (16 : Int))) (([] : List Go.Eng.Res) = [] ∧ Ent.one (SV.c (SC.v (Value.int IntKind.i64 (objS vs ms cs fs op)))) = Ent.one (SV.c (SC.v (Value.int IntKind.i64 (↑ms.length : Int))))) (br (decide (op = (18 : Int))) (br (decide (op = (18 : Int))) (([] : List Go.Eng.Res) = [] ∧ Ent.one (SV.c (SC.v (Value.int IntKind.i64 (objS vs ms cs fs op)))) = Ent.one (SV.c (SC.v (Value.int IntKind.i64 (↑cs.length : Int))))) (br (decide (op = (21 : Int))) (([] : List Go.Eng.Res) = [] ∧ Ent.one (SV.c (SC.v (Value.int IntKind.i64 (objS vs ms cs fs op)))) = Ent.one (SV.c (SC.v (Value.int IntKind.i64 (↑fs.length : Int))))) (([] : List Go.Eng.Res) = [] ∧ Ent.one (SV.c (SC.v (Value.int IntKind.i64 (objS vs ms cs fs op)))) = Ent.one (SV.c (SC.v (Value.int IntKind.i64 (-1 : Int))))))) (br (decide (op = (19 : Int))) (br (decide (op = (19 : Int))) (([] : List Go.Eng.Res) = [] ∧ Ent.one (SV.c (SC.v (Value.int IntKind.i64 (objS vs ms cs fs op)))) = Ent.one (SV.c (SC.v (Value.int IntKind.i64 (↑cs.length : Int))))) (br (decide (op = (21 : Int))) (([] : List Go.Eng.Res) = [] ∧ Ent.one (SV.c (SC.v (Value.int IntKind.i64 (objS vs ms cs fs op)))) = Ent.one (SV.c (SC.v (Value.int IntKind.i64 (↑fs.length : Int))))) (([] : List Go.Eng.Res) = [] ∧ Ent.one (SV.c (SC.v (Value.int IntKind.i64 (objS vs ms cs fs op)))) = Ent.one (SV.c (SC.v (Value.int IntKind.i64 (-1 : Int))))))) (br (decide (op = (20 : Int))) (([] : List Go.Eng.Res) = [] ∧ Ent.one (SV.c (SC.v (Value.int IntKind.i64 (objS vs ms cs fs op)))) = Ent.one (SV.c (SC.v (Value.int IntKind.i64 (↑cs.length : Int))))) (br (decide (op = (21 : Int))) (([] : List Go.Eng.Res) = [] ∧ Ent.one (SV.c (SC.v (Value.int IntKind.i64 (objS vs ms cs fs op)))) = Ent.one (SV.c (SC.v (Value.int IntKind.i64 (↑fs.length : Int))))) (([] : List Go.Eng.Res) = [] ∧ Ent.one (SV.c (SC.v (Value.int IntKind.i64 (objS vs ms cs fs op)))) = Ent.one (SV.c (SC.v (Value.int IntKind.i64 (-1 : Int)))))))))) (br (decide (op = (17 : Int))) (([] : List Go.Eng.Res) = [] ∧ Ent.one (SV.c (SC.v (Value.int IntKind.i64 (objS vs ms cs fs op)))) = Ent.one (SV.c (SC.v (Value.int IntKind.i64 (↑ms.length : Int))))) (br (decide (op = (18 : Int))) (br (decide (op = (18 : Int))) (([] : List Go.Eng.Res) = [] ∧ Ent.one (SV.c (SC.v (Value.int IntKind.i64 (objS vs ms cs fs op)))) = Ent.one (SV.c (SC.v (Value.int IntKind.i64 (↑cs.length : Int))))) (br (decide (op = (21 : Int))) (([] : List Go.Eng.Res) = [] ∧ Ent.one (SV.c (SC.v (Value.int IntKind.i64 (objS vs ms cs fs op)))) = Ent.one (SV.c (SC.v (Value.int IntKind.i64 (↑fs.length : Int))))) (([] : List Go.Eng.Res) = [] ∧ Ent.one (SV.c (SC.v (Value.int IntKind.i64 (objS vs ms cs fs op)))) = Ent.one (SV.c (SC.v (Value.int IntKind.i64 (-1 : Int))))))) (br (decide (op = (19 : Int))) (br (decide (op = (19 : Int))) (([] : List Go.Eng.Res) = [] ∧ Ent.one (SV.c (SC.v (Value.int IntKind.i64 (objS vs ms cs fs op)))) = Ent.one (SV.c (SC.v (Value.int IntKind.i64 (↑cs.length : Int))))) (br (decide (op = (21 : Int))) (([] : List Go.Eng.Res) = [] ∧ Ent.one (SV.c (SC.v (Value.int IntKind.i64 (objS vs ms cs fs op)))) = Ent.one (SV.c (SC.v (Value.int IntKind.i64 (↑fs.length : Int))))) (([] : List Go.Eng.Res) = [] ∧ Ent.one (SV.c (SC.v (Value.int IntKind.i64 (objS vs ms cs fs op)))) = Ent.one (SV.c (SC.v (Value.int IntKind.i64 (-1 : Int))))))) (br (decide (op = (20 : Int))) (([] : List Go.Eng.Res) = [] ∧ Ent.one (SV.c (SC.v (Value.int IntKind.i64 (objS vs ms cs fs op)))) = Ent.one (SV.c (SC.v (Value.int IntKind.i64 (↑cs.length : Int))))) (br (decide (op = (21 : Int))) (([] : List Go.Eng.Res) = [] ∧ Ent.one (SV.c (SC.v (Value.int IntKind.i64 (objS vs ms cs fs op)))) = Ent.one (SV.c (SC.v (Value.int IntKind.i64 (↑fs.length : Int))))) (([] : List Go.Eng.Res) = [] ∧ Ent.one (SV.c (SC.v (Value.int IntKind.i64 (objS vs ms cs fs op)))) = Ent.one (SV.c (SC.v (Value.int IntKind.i64 (-1 : Int))))))))))))) (br (decide (op = (10 : Int))) (br (decide (op = (10 : Int))) (([] : List Go.Eng.Res) = [] ∧ Ent.one (SV.c (SC.v (Value.int IntKind.i64 (objS vs ms cs fs op)))) = Ent.one (SV.c (SC.v (Value.int IntKind.i64 (↑vs.length : Int))))) (br (decide (op = (15 : Int))) (br (decide (op = (15 : Int))) (([] : List Go.Eng.Res) = [] ∧ Ent.one (SV.c (SC.v (Value.int IntKind.i64 (objS vs ms cs fs op)))) = Ent.one (SV.c (SC.v (Value.int IntKind.i64 (↑ms.length : Int))))) (br (decide (op = (18 : Int))) (br (decide (op = (18 : Int))) (([] : List Go.Eng.Res) = [] ∧ Ent.one (SV.c (SC.v (Value.int IntKind.i64 (objS vs ms cs fs op)))) = Ent.one (SV.c (SC.v (Value.int IntKind.i64 (↑cs.length : Int))))) (br (decide (op = (21 : Int))) (([] : List Go.Eng.Res) = [] ∧ Ent.one (SV.c (SC.v (Value.int IntKind.i64 (objS vs ms cs fs op)))) = Ent.one (SV.c (SC.v (Value.int IntKind.i64 (↑fs.length : Int))))) (([] : List Go.Eng.Res) = [] ∧ Ent.one (SV.c (SC.v (Value.int IntKind.i64 (objS vs ms cs fs op)))) = Ent.one (SV.c (SC.v (Value.int IntKind.i64 (-1 : Int))))))) (br (decide (op = (19 : Int))) (br (decide (op = (19 : Int))) (([] : List Go.Eng.Res) = [] ∧ Ent.one (SV.c (SC.v (Value.int IntKind.i64 (objS vs ms cs fs op)))) = Ent.one (SV.c (SC.v (Value.int IntKind.i64 (↑cs.length : Int))))) (br (decide (op = (21 : Int))) (([] : List Go.Eng.Res) = [] ∧ Ent.one (SV.c (SC.v (Value.int IntKind.i64 (objS vs ms cs fs op)))) = Ent.one (SV.c (SC.v (Value.int IntKind.i64 (↑fs.length : Int))))) (([] : List Go.Eng.Res) = [] ∧ Ent.one (SV.c (SC.v (Value.int IntKind.i64 (objS vs ms cs fs op)))) = Ent.one (SV.c (SC.v (Value.int IntKind.i64 (-1 : Int))))))) (br (decide (op = (20 : Int))) (([] : List Go.Eng.Res) = [] ∧ Ent.one (SV.c (SC.v (Value.int IntKind.i64 (objS vs ms cs fs op)))) = Ent.one (SV.c (SC.v (Value.int IntKind.i64 (↑cs.length : Int))))) (br (decide (op = (21 : Int))) (([] : List Go.Eng.Res) = [] ∧ Ent.one (SV.c (SC.v (Value.int IntKind.i64 (objS vs ms cs fs op)))) = Ent.one (SV.c (SC.v (Value.int IntKind.i64 (↑fs.length : Int))))) (([] : List Go.Eng.Res) = [] ∧ Ent.one (SV.c (SC.v (Value.int IntKind.i64 (objS vs ms cs fs op)))) = Ent.one (SV.c (SC.v (Value.int IntKind.i64 (-1 : Int)))))))))) (br (decide (op = (16 : Int))) (br (decide (op = (16 : Int))) (([] : List Go.Eng.Res) = [] ∧ Ent.one (SV.c (SC.v (Value.int IntKind.i64 (objS vs ms cs fs op)))) = Ent.one (SV.c (SC.v (Value.int IntKind.i64 (↑ms.length : Int))))) (br (decide (op = (18 : Int))) (br (decide (op = (18 : Int))) (([] : List Go.Eng.Res) = [] ∧ Ent.one (SV.c (SC.v (Value.int IntKind.i64 (objS vs ms cs fs op)))) = Ent.one (SV.c (SC.v (Value.int IntKind.i64 (↑cs.length : Int))))) (br (decide (op = (21 : Int))) (([] : List Go.Eng.Res) = [] ∧ Ent.one (SV.c (SC.v (Value.int IntKind.i64 (objS vs ms cs fs op)))) = Ent.one (SV.c (SC.v (Value.int IntKind.i64 (↑fs.length : Int))))) (([] : List Go.Eng.Res) = [] ∧ Ent.one (SV.c (SC.v (Value.int IntKind.i64 (objS vs ms cs fs op)))) = Ent.one (SV.c (SC.v (Value.int IntKind.i64 (-1 : Int))))))) (br (decide (op = (19 : Int))) (br (decide (op = (19 : Int))) (([] : List Go.Eng.Res) = [] ∧ Ent.one (SV.c (SC.v (Value.int IntKind.i64 (objS vs ms cs fs op)))) = Ent.one (SV.c (SC.v (Value.int IntKind.i64 (↑cs.length : Int))))) (br (decide (op = (21 : Int))) (([] : List Go.Eng.Res) = [] ∧ Ent.one (SV.c (SC.v (Value.int IntKind.i64 (objS vs ms cs fs op)))) = Ent.one (SV.c (SC.v (Value.int IntKind.i64 (↑fs.length : Int))))) (([] : List Go.Eng.Res) = [] ∧ Ent.one (SV.c (SC.v (Value.int IntKind.i64 (objS vs ms cs fs op)))) = Ent.one (SV.c (SC.v (Value.int IntKind.i64 (-1 : Int))))))) (br (decide (op = (20 : Int))) (([] : List Go.Eng.Res) = [] ∧ Ent.one (SV.c (SC.v (Value.int IntKind.i64 (objS vs ms cs fs op)))) = Ent.one (SV.c (SC.v (Value.int IntKind.i64 (↑cs.length : Int))))) (br (decide (op = (21 : Int))) (([] : List Go.Eng.Res) = [] ∧ Ent.one (SV.c (SC.v (Value.int IntKind.i64 (objS vs ms cs fs op)))) = Ent.one (SV.c (SC.v (Value.int IntKind.i64 (↑fs.length : Int))))) (([] : List Go.Eng.Res) = [] ∧ Ent.one (SV.c (SC.v (Value.int IntKind.i64 (objS vs ms cs fs op)))) = Ent.one (SV.c (SC.v (Value.int IntKind.i64 (-1 : Int)))))))))) (br (decide (op = (17 : Int))) (([] : List Go.Eng.Res) = [] ∧ Ent.one (SV.c (SC.v (Value.int IntKind.i64 (objS vs ms cs fs op)))) = Ent.one (SV.c (SC.v (Value.int IntKind.i64 (↑ms.length : Int))))) (br (decide (op = (18 : Int))) (br (decide (op = (18 : Int))) (([] : List Go.Eng.Res) = [] ∧ Ent.one (SV.c (SC.v (Value.int IntKind.i64 (objS vs ms cs fs op)))) = Ent.one (SV.c (SC.v (Value.int IntKind.i64 (↑cs.length : Int))))) (br (decide (op = (21 : Int))) (([] : List Go.Eng.Res) = [] ∧ Ent.one (SV.c (SC.v (Value.int IntKind.i64 (objS vs ms cs fs op)))) = Ent.one (SV.c (SC.v (Value.int IntKind.i64 (↑fs.length : Int))))) (([] : List Go.Eng.Res) = [] ∧ Ent.one (SV.c (SC.v (Value.int IntKind.i64 (objS vs ms cs fs op)))) = Ent.one (SV.c (SC.v (Value.int IntKind.i64 (-1 : Int))))))) (br (decide (op = (19 : Int))) (br (decide (op = (19 : Int))) (([] : List Go.Eng.Res) = [] ∧ Ent.one (SV.c (SC.v (Value.int IntKind.i64 (objS vs ms cs fs op)))) = Ent.one (SV.c (SC.v (Value.int IntKind.i64 (↑cs.length : Int))))) (br (decide (op = (21 : Int))) (([] : List Go.Eng.Res) = [] ∧ Ent.one (SV.c (SC.v (Value.int IntKind.i64 (objS vs ms cs fs op)))) = Ent.one (SV.c (SC.v (Value.int IntKind.i64 (↑fs.length : Int))))) (([] : List Go.Eng.Res) = [] ∧ Ent.one (SV.c (SC.v (Value.int IntKind.i64 (objS vs ms cs fs op)))) = Ent.one (SV.c (SC.v (Value.int IntKind.i64 (-1 : Int))))))) (br (decide (op = (20 : Int))) (([] : List Go.Eng.Res) = [] ∧ Ent.one (SV.c (SC.v (Value.int IntKind.i64 (objS vs ms cs fs op)))) = Ent.one (SV.c (SC.v (Value.int IntKind.i64 (↑cs.length : Int))))) (br (decide (op = (21 : Int))) (([] : List Go.Eng.Res) = [] ∧ Ent.one (SV.c (SC.v (Value.int IntKind.i64 (objS vs ms cs fs op)))) = Ent.one (SV.c (SC.v (Value.int IntKind.i64 (↑fs.length : Int))))) (([] : List Go.Eng.Res) = [] ∧ Ent.one (SV.c (SC.v (Value.int IntKind.i64 (objS vs ms cs fs op)))) = Ent.one (SV.c (SC.v (Value.int IntKind.i64 (-1 : Int))))))))))))) (br (decide (op = (11 : Int))) (br (decide (op = (11 : Int))) (([] : List Go.Eng.Res) = [] ∧ Ent.one (SV.c (SC.v (Value.int IntKind.i64 (objS vs ms cs fs op)))) = Ent.one (SV.c (SC.v (Value.int IntKind.i64 (↑vs.length : Int))))) (br (decide (op = (15 : Int))) (br (decide (op = (15 : Int))) (([] : List Go.Eng.Res) = [] ∧ Ent.one (SV.c (SC.v (Value.int IntKind.i64 (objS vs ms cs fs op)))) = Ent.one (SV.c (SC.v (Value.int IntKind.i64 (↑ms.length : Int))))) (br (decide (op = (18 : Int))) (br (decide (op = (18 : Int))) (([] : List Go.Eng.Res) = [] ∧ Ent.one (SV.c (SC.v (Value.int IntKind.i64 (objS vs ms cs fs op)))) = Ent.one (SV.c (SC.v (Value.int IntKind.i64 (↑cs.length : Int))))) (br (decide (op = (21 : Int))) (([] : List Go.Eng.Res) = [] ∧ Ent.one (SV.c (SC.v (Value.int IntKind.i64 (objS vs ms cs fs op)))) = Ent.one (SV.c (SC.v (Value.int IntKind.i64 (↑fs.length : Int))))) (([] : List Go.Eng.Res) = [] ∧ Ent.one (SV.c (SC.v (Value.int IntKind.i64 (objS vs ms cs fs op)))) = Ent.one (SV.c (SC.v (Value.int IntKind.i64 (-1 : Int))))))) (br (decide (op = (19 : Int))) (br (decide (op = (19 : Int))) (([] : List Go.Eng.Res) = [] ∧ Ent.one (SV.c (SC.v (Value.int IntKind.i64 (objS vs ms cs fs op)))) = Ent.one (SV.c (SC.v (Value.int IntKind.i64 (↑cs.length : Int))))) (br (decide (op = (21 : Int))) (([] : List Go.Eng.Res) = [] ∧ Ent.one (SV.c (SC.v (Value.int IntKind.i64 (objS vs ms cs fs op)))) = Ent.one (SV.c (SC.v (Value.int IntKind.i64 (↑fs.length : Int))))) (([] : List Go.Eng.Res) = [] ∧ Ent.one (SV.c (SC.v (Value.int IntKind.i64 (objS vs ms cs fs op)))) = Ent.one (SV.c (SC.v (Value.int IntKind.i64 (-1 : Int))))))) (br (decide (op = (20 : Int))) (([] : List Go.Eng.Res) = [] ∧ Ent.one (SV.c (SC.v (Value.int IntKind.i64 (objS vs ms cs fs op)))) = Ent.one (SV.c (SC.v (Value.int IntKind.i64 (↑cs.length : Int))))) (br (decide (op = (21 : Int))) (([] : List Go.Eng.Res) = [] ∧ Ent.one (SV.c (SC.v (Value.int IntKind.i64 (objS vs ms cs fs op)))) = Ent.one (SV.c (SC.v (Value.int IntKind.i64 (↑fs.length : Int))))) (([] : List Go.Eng.Res) = [] ∧ Ent.one (SV.c (SC.v (Value.int IntKind.i64 (objS vs ms cs fs op)))) = Ent.one (SV.c (SC.v (Value.int IntKind.i64 (-1 : Int)))))))))) (br (decide (op = (16 : Int))) (br (decide (op = (16 : Int))) (([] : List Go.Eng.Res) = [] ∧ Ent.one (SV.c (SC.v (Value.int IntKind.i64 (objS vs ms cs fs op)))) = Ent.one (SV.c (SC.v (Value.int IntKind.i64 (↑ms.length : Int))))) (br (decide (op = (18 : Int))) (br (decide (op = (18 : Int))) (([] : List Go.Eng.Res) = [] ∧ Ent.one (SV.c (SC.v (Value.int IntKind.i64 (objS vs ms cs fs op)))) = Ent.one (SV.c (SC.v (Value.int IntKind.i64 (↑cs.length : Int))))) (br (decide (op = (21 : Int))) (([] : List Go.Eng.Res) = [] ∧ Ent.one (SV.c (SC.v (Value.int IntKind.i64 (objS vs ms cs fs op)))) = Ent.one (SV.c (SC.v (Value.int IntKind.i64 (↑fs.length : Int))))) (([] : List Go.Eng.Res) = [] ∧ Ent.one (SV.c (SC.v (Value.int IntKind.i64 (objS vs ms cs fs op)))) = Ent.one (SV.c (SC.v (Value.int IntKind.i64 (-1 : Int))))))) (br (decide (op = (19 : Int))) (br (decide (op = (19 : Int))) (([] : List Go.Eng.Res) = [] ∧ Ent.one (SV.c (SC.v (Value.int IntKind.i64 (objS vs ms cs fs op)))) = Ent.one (SV.c (SC.v (Value.int IntKind.i64 (↑cs.length : Int))))) (br (decide (op = (21 : Int))) (([] : List Go.Eng.Res) = [] ∧ Ent.one (SV.c (SC.v (Value.int IntKind.i64 (objS vs ms cs fs op)))) = Ent.one (SV.c (SC.v (Value.int IntKind.i64 (↑fs.length : Int))))) (([] : List Go.Eng.Res) = [] ∧ Ent.one (SV.c (SC.v (Value.int IntKind.i64 (objS vs ms cs fs op)))) = Ent.one (SV.c (SC.v (Value.int IntKind.i64 (-1 : Int))))))) (br (decide (op = (20 : Int))) (([] : List Go.Eng.Res) = [] ∧ Ent.one (SV.c (SC.v (Value.int IntKind.i64 (objS vs ms cs fs op)))) = Ent.one (SV.c (SC.v (Value.int IntKind.i64 (↑cs.length : Int))))) (br (decide (op = (21 : Int))) (([] : List Go.Eng.Res) = [] ∧ Ent.one (SV.c (SC.v (Value.int IntKind.i64 (objS vs ms cs fs op)))) = Ent.one (SV.c (SC.v (Value.int IntKind.i64 (↑fs.length : Int))))) (([] : List Go.Eng.Res) = [] ∧ Ent.one (SV.c (SC.v (Value.int IntKind.i64 (objS vs ms cs fs op)))) = Ent.one (SV.c (SC.v (Value.int IntKind.i64 (-1 : Int)))))))))) (br (decide (op = (17 : Int))) (([] : List Go.Eng.Res) = [] ∧ Ent.one (SV.c (SC.v (Value.int IntKind.i64 (objS vs ms cs fs op)))) = Ent.one (SV.c (SC.v (Value.int IntKind.i64 (↑ms.length : Int))))) (br (decide (op = (18 : Int))) (br (decide (op = (18 : Int))) (([] : List Go.Eng.Res) = [] ∧ Ent.one (SV.c (SC.v (Value.int IntKind.i64 (objS vs ms cs fs op)))) = Ent.one (SV.c (SC.v (Value.int IntKind.i64 (↑cs.length : Int))))) (br (decide (op = (21 : Int))) (([] : List Go.Eng.Res) = [] ∧ Ent.one (SV.c (SC.v (Value.int IntKind.i64 (objS vs ms cs fs op)))) = Ent.one (SV.c (SC.v (Value.int IntKind.i64 (↑fs.length : Int))))) (([] : List Go.Eng.Res) = [] ∧ Ent.one (SV.c (SC.v (Value.int IntKind.i64 (objS vs ms cs fs op)))) = Ent.one (SV.c (SC.v (Value.int IntKind.i64 (-1 : Int))))))) (br (decide (op = (19 : Int))) (br (decide (op = (19 : Int))) (([] : List Go.Eng.Res) = [] ∧ Ent.one (SV.c (SC.v (Value.int IntKind.i64 (objS vs ms cs fs op)))) = Ent.one (SV.c (SC.v (Value.int IntKind.i64 (↑cs.length : Int))))) (br (decide (op = (21 : Int))) (([] : List Go.Eng.Res) = [] ∧ Ent.one (SV.c (SC.v (Value.int IntKind.i64 (objS vs ms cs fs op)))) = Ent.one (SV.c (SC.v (Value.int IntKind.i64 (↑fs.length : Int))))) (([] : List Go.Eng.Res) = [] ∧ Ent.one (SV.c (SC.v (Value.int IntKind.i64 (objS vs ms cs fs op)))) = Ent.one (SV.c (SC.v (Value.int IntKind.i64 (-1 : Int))))))) (br (decide (op = (20 : Int))) (([] : List Go.Eng.Res) = [] ∧ Ent.one (SV.c (SC.v (Value.int IntKind.i64 (objS vs ms cs fs op)))) = Ent.one (SV.c (SC.v (Value.int IntKind.i64 (↑cs.length : Int))))) (br (decide (op = (21 : Int))) (([] : List Go.Eng.Res) = [] ∧ Ent.one (SV.c (SC.v (Value.int IntKind.i64 (objS vs ms cs fs op)))) = Ent.one (SV.c (SC.v (Value.int IntKind.i64 (↑fs.length : Int))))) (([] : List Go.Eng.Res) = [] ∧ Ent.one (SV.c (SC.v (Value.int IntKind.i64 (objS vs ms cs fs op)))) = Ent.one (SV.c (SC.v (Value.int IntKind.i64 (-1 : Int))))))))))))) (br (decide (op = (12 : Int))) (br (decide (op = (12 : Int))) (([] : List Go.Eng.Res) = [] ∧ Ent.one (SV.c (SC.v (Value.int IntKind.i64 (objS vs ms cs fs op)))) = Ent.one (SV.c (SC.v (Value.int IntKind.i64 (↑vs.length : Int))))) (br (decide (op = (15 : Int))) (br (decide (op = (15 : Int))) (([] : List Go.Eng.Res) = [] ∧ Ent.one (SV.c (SC.v (Value.int IntKind.i64 (objS vs ms cs fs op)))) = Ent.one (SV.c (SC.v (Value.int IntKind.i64 (↑ms.length : Int))))) (br (decide (op = (18 : Int))) (br (decide (op = (18 : Int))) (([] : List Go.Eng.Res) = [] ∧ Ent.one (SV.c (SC.v (Value.int IntKind.i64 (objS vs ms cs fs op)))) = Ent.one (SV.c (SC.v (Value.int IntKind.i64 (↑cs.length : Int))))) (br (decide (op = (21 : Int))) (([] : List Go.Eng.Res) = [] ∧ Ent.one (SV.c (SC.v (Value.int IntKind.i64 (objS vs ms cs fs op)))) = Ent.one (SV.c (SC.v (Value.int IntKind.i64 (↑fs.length : Int))))) (([] : List Go.Eng.Res) = [] ∧ Ent.one (SV.c (SC.v (Value.int IntKind.i64 (objS vs ms cs fs op)))) = Ent.one (SV.c (SC.v (Value.int IntKind.i64 (-1 : Int))))))) (br (decide (op = (19 : Int))) (br (decide (op = (19 : Int))) (([] : List Go.Eng.Res) = [] ∧ Ent.one (SV.c (SC.v (Value.int IntKind.i64 (objS vs ms cs fs op)))) = Ent.one (SV.c (SC.v (Value.int IntKind.i64 (↑cs.length : Int))))) (br (decide (op = (21 : Int))) (([] : List Go.Eng.Res) = [] ∧ Ent.one (SV.c (SC.v (Value.int IntKind.i64 (objS vs ms cs fs op)))) = Ent.one (SV.c (SC.v (Value.int IntKind.i64 (↑fs.length : Int))))) (([] : List Go.Eng.Res) = [] ∧ Ent.one (SV.c (SC.v (Value.int IntKind.i64 (objS vs ms cs fs op)))) = Ent.one (SV.c (SC.v (Value.int IntKind.i64 (-1 : Int))))))) (br (decide (op = (20 : Int))) (([] : List Go.Eng.Res) = [] ∧ Ent.one (SV.c (SC.v (Value.int IntKind.i64 (objS vs ms cs fs op)))) = Ent.one (SV.c (SC.v (Value.int IntKind.i64 (↑cs.length : Int))))) (br (decide (op = (21 : Int))) (([] : List Go.Eng.Res) = [] ∧ Ent.one (SV.c (SC.v (Value.int IntKind.i64 (objS vs ms cs fs op)))) = Ent.one (SV.c (SC.v (Value.int IntKind.i64 (↑fs.length : Int))))) (([] : List Go.Eng.Res) = [] ∧ Ent.one (SV.c (SC.v (Value.int IntKind.i64 (objS vs ms cs fs op)))) = Ent.one (SV.c (SC.v (Value.int IntKind.i64 (-1 : Int)))))))))) (br (decide (op = (16 : Int))) (br (decide (op = (16 : Int))) (([] : List Go.Eng.Res) = [] ∧ Ent.one (SV.c (SC.v (Value.int IntKind.i64 (objS vs ms cs fs op)))) = Ent.one (SV.c (SC.v (Value.int IntKind.i64 (↑ms.length : Int))))) (br (decide (op = (18 : Int))) (br (decide (op = (18 : Int))) (([] : List Go.Eng.Res) = [] ∧ Ent.one (SV.c (SC.v (Value.int IntKind.i64 (objS vs ms cs fs op)))) = Ent.one (SV.c (SC.v (Value.int IntKind.i64 (↑cs.length : Int))))) (br (decide (op = (21 : Int))) (([] : List Go.Eng.Res) = [] ∧ Ent.one (SV.c (SC.v (Value.int IntKind.i64 (objS vs ms cs fs op)))) = Ent.one (SV.c (SC.v (Value.int IntKind.i64 (↑fs.length : Int))))) (([] : List Go.Eng.Res) = [] ∧ Ent.one (SV.c (SC.v (Value.int IntKind.i64 (objS vs ms cs fs op)))) = Ent.one (SV.c (SC.v (Value.int IntKind.i64 (-1 : Int))))))) (br (decide (op = (19 : Int))) (br (decide (op = (19 : Int))) (([] : List Go.Eng.Res) = [] ∧ Ent.one (SV.c (SC.v (Value.int IntKind.i64 (objS vs ms cs fs op)))) = Ent.one (SV.c (SC.v (Value.int IntKind.i64 (↑cs.length : Int))))) (br (decide (op = (21 : Int))) (([] : List Go.Eng.Res) = [] ∧ Ent.one (SV.c (SC.v (Value.int IntKind.i64 (objS vs ms cs fs op)))) = Ent.one (SV.c (SC.v (Value.int IntKind.i64 (↑fs.length : Int))))) (([] : List Go.Eng.Res) = [] ∧ Ent.one (SV.c (SC.v (Value.int IntKind.i64 (objS vs ms cs fs op)))) = Ent.one (SV.c (SC.v (Value.int IntKind.i64 (-1 : Int))))))) (br (decide (op = (20 : Int))) (([] : List Go.Eng.Res) = [] ∧ Ent.one (SV.c (SC.v (Value.int IntKind.i64 (objS vs ms cs fs op)))) = Ent.one (SV.c (SC.v (Value.int IntKind.i64 (↑cs.length : Int))))) (br (decide (op = (21 : Int))) (([] : List Go.Eng.Res) = [] ∧ Ent.one (SV.c (SC.v (Value.int IntKind.i64 (objS vs ms cs fs op)))) = Ent.one (SV.c (SC.v (Value.int IntKind.i64 (↑fs.length : Int))))) (([] : List Go.Eng.Res) = [] ∧ Ent.one (SV.c (SC.v (Value.int IntKind.i64 (objS vs ms cs fs op)))) = Ent.one (SV.c (SC.v (Value.int IntKind.i64 (-1 : Int)))))))))) (br (decide (op = (17 : Int))) (([] : List Go.Eng.Res) = [] ∧ Ent.one (SV.c (SC.v (Value.int IntKind.i64 (objS vs ms cs fs op)))) = Ent.one (SV.c (SC.v (Value.int IntKind.i64 (↑ms.length : Int))))) (br (decide (op = (18 : Int))) (br (decide (op = (18 : Int))) (([] : List Go.Eng.Res) = [] ∧ Ent.one (SV.c (SC.v (Value.int IntKind.i64 (objS vs ms cs fs op)))) = Ent.one (SV.c (SC.v (Value.int IntKind.i64 (↑cs.length : Int))))) (br (decide (op = (21 : Int))) (([] : List Go.Eng.Res) = [] ∧ Ent.one (SV.c (SC.v (Value.int IntKind.i64 (objS vs ms cs fs op)))) = Ent.one (SV.c (SC.v (Value.int IntKind.i64 (↑fs.length : Int))))) (([] : List Go.Eng.Res) = [] ∧ Ent.one (SV.c (SC.v (Value.int IntKind.i64 (objS vs ms cs fs op)))) = Ent.one (SV.c (SC.v (Value.int IntKind.i64 (-1 : Int))))))) (br (decide (op = (19 : Int))) (br (decide (op = (19 : Int))) (([] : List Go.Eng.Res) = [] ∧ Ent.one (SV.c (SC.v (Value.int IntKind.i64 (objS vs ms cs fs op)))) = Ent.one (SV.c (SC.v (Value.int IntKind.i64 (↑cs.length : Int))))) (br (decide (op = (21 : Int))) (([] : List Go.Eng.Res) = [] ∧ Ent.one (SV.c (SC.v (Value.int IntKind.i64 (objS vs ms cs fs op)))) = Ent.one (SV.c (SC.v (Value.int IntKind.i64 (↑fs.length : Int))))) (([] : List Go.Eng.Res) = [] ∧ Ent.one (SV.c (SC.v (Value.int IntKind.i64 (objS vs ms cs fs op)))) = Ent.one (SV.c (SC.v (Value.int IntKind.i64 (-1 : Int))))))) (br (decide (op = (20 : Int))) (([] : List Go.Eng.Res) = [] ∧ Ent.one (SV.c (SC.v (Value.int IntKind.i64 (objS vs ms cs fs op)))) = Ent.one (SV.c (SC.v (Value.int IntKind.i64 (↑cs.length : Int))))) (br (decide (op = (21 : Int))) (([] : List Go.Eng.Res) = [] ∧ Ent.one (SV.c (SC.v (Value.int IntKind.i64 (objS vs ms cs fs op)))) = Ent.one (SV.c (SC.v (Value.int IntKind.i64 (↑fs.length : Int))))) (([] : List Go.Eng.Res) = [] ∧ Ent.one (SV.c (SC.v (Value.int IntKind.i64 (objS vs ms cs fs op)))) = Ent.one (SV.c (SC.v (Value.int IntKind.i64 (-1 : Int))))))))))))) (br (decide (op = (14 : Int))) (([] : List Go.Eng.Res) = [] ∧ Ent.one (SV.c (SC.v (Value.int IntKind.i64 (objS vs ms cs fs op)))) = Ent.one (SV.c (SC.v (Value.int IntKind.i64 (↑vs.length : Int))))) (br (decide (op = (15 : Int))) (br (decide (op = (15 : Int))) (([] : List Go.Eng.Res) = [] ∧ Ent.one (SV.c (SC.v (Value.int IntKind.i64 (objS vs ms cs fs op)))) = Ent.one (SV.c (SC.v (Value.int IntKind.i64 (↑ms.length : Int))))) (br (decide (op = (18 : Int))) (br (decide (op = (18 : Int))) (([] : List Go.Eng.Res) = [] ∧ Ent.one (SV.c (SC.v (Value.int IntKind.i64 (objS vs ms cs fs op)))) = Ent.one (SV.c (SC.v (Value.int IntKind.i64 (↑cs.length : Int))))) (br (decide (op = (21 : Int))) (([] : List Go.Eng.Res) = [] ∧ Ent.one (SV.c (SC.v (Value.int IntKind.i64 (objS vs ms cs fs op)))) = Ent.one (SV.c (SC.v (Value.int IntKind.i64 (↑fs.length : Int))))) (([] : List Go.Eng.Res) = [] ∧ Ent.one (SV.c (SC.v (Value.int IntKind.i64 (objS vs ms cs fs op)))) = Ent.one (SV.c (SC.v (Value.int IntKind.i64 (-1 : Int))))))) (br (decide (op = (19 : Int))) (br (decide (op = (19 : Int))) (([] : List Go.Eng.Res) = [] ∧ Ent.one (SV.c (SC.v (Value.int IntKind.i64 (objS vs ms cs fs op)))) = Ent.one (SV.c (SC.v (Value.int IntKind.i64 (↑cs.length : Int))))) (br (decide (op = (21 : Int))) (([] : List Go.Eng.Res) = [] ∧ Ent.one (SV.c (SC.v (Value.int IntKind.i64 (objS vs ms cs fs op)))) = Ent.one (SV.c (SC.v (Value.int IntKind.i64 (↑fs.length : Int))))) (([] : List Go.Eng.Res) = [] ∧ Ent.one (SV.c (SC.v (Value.int IntKind.i64 (objS vs ms cs fs op)))) = Ent.one (SV.c (SC.v (Value.int IntKind.i64 (-1 : Int))))))) (br (decide (op = (20 : Int))) (([] : List Go.Eng.Res) = [] ∧ Ent.one (SV.c (SC.v (Value.int IntKind.i64 (objS vs ms cs fs op)))) = Ent.one (SV.c (SC.v (Value.int IntKind.i64 (↑cs.length : Int))))) (br (decide (op = (21 : Int))) (([] : List Go.Eng.Res) = [] ∧ Ent.one (SV.c (SC.v (Value.int IntKind.i64 (objS vs ms cs fs op)))) = Ent.one (SV.c (SC.v (Value.int IntKind.i64 (↑fs.length : Int))))) (([] : List Go.Eng.Res) = [] ∧ Ent.one (SV.c (SC.v (Value.int IntKind.i64 (objS vs ms cs fs op)))) = Ent.one (SV.c (SC.v (Value.int IntKind.i64 (-1 : Int)))))))))) (br (decide (op = (16 : Int))) (br (decide (op = (16 : Int))) (([] : List Go.Eng.Res) = [] ∧ Ent.one (SV.c (SC.v (Value.int IntKind.i64 (objS vs ms cs fs op)))) = Ent.one (SV.c (SC.v (Value.int IntKind.i64 (↑ms.length : Int))))) (br (decide (op = (18 : Int))) (br (decide (op = (18 : Int))) (([] : List Go.Eng.Res) = [] ∧ Ent.one (SV.c (SC.v (Value.int IntKind.i64 (objS vs ms cs fs op)))) = Ent.one (SV.c (SC.v (Value.int IntKind.i64 (↑cs.length : Int))))) (br (decide (op = (21 : Int))) (([] : List Go.Eng.Res) = [] ∧ Ent.one (SV.c (SC.v (Value.int IntKind.i64 (objS vs ms cs fs op)))) = Ent.one (SV.c (SC.v (Value.int IntKind.i64 (↑fs.length : Int))))) (([] : List Go.Eng.Res) = [] ∧ Ent.one (SV.c (SC.v (Value.int IntKind.i64 (objS vs ms cs fs op)))) = Ent.one (SV.c (SC.v (Value.int IntKind.i64 (-1 : Int))))))) (br (decide (op = (19 : Int))) (br (decide (op = (19 : Int))) (([] : List Go.Eng.Res) = [] ∧ Ent.one (SV.c (SC.v (Value.int IntKind.i64 (objS vs ms cs fs op)))) = Ent.one (SV.c (SC.v (Value.int IntKind.i64 (↑cs.length : Int))))) (br (decide (op = (21 : Int))) (([] : List Go.Eng.Res) = [] ∧ Ent.one (SV.c (SC.v (Value.int IntKind.i64 (objS vs ms cs fs op)))) = Ent.one (SV.c (SC.v (Value.int IntKind.i64 (↑fs.length : Int))))) (([] : List Go.Eng.Res) = [] ∧ Ent.one (SV.c (SC.v (Value.int IntKind.i64 (objS vs ms cs fs op)))) = Ent.one (SV.c (SC.v (Value.int IntKind.i64 (-1 : Int))))))) (br (decide (op = (20 : Int))) (([] : List Go.Eng.Res) = [] ∧ Ent.one (SV.c (SC.v (Value.int IntKind.i64 (objS vs ms cs fs op)))) = Ent.one (SV.c (SC.v (Value.int IntKind.i64 (↑cs.length : Int))))) (br (decide (op = (21 : Int))) (([] : List Go.Eng.Res) = [] ∧ Ent.one (SV.c (SC.v (Value.int IntKind.i64 (objS vs ms cs fs op)))) = Ent.one (SV.c (SC.v (Value.int IntKind.i64 (↑fs.length : Int))))) (([] : List Go.Eng.Res) = [] ∧ Ent.one (SV.c (SC.v (Value.int IntKind.i64 (objS vs ms cs fs op)))) = Ent.one (SV.c (SC.v (Value.int IntKind.i64 (-1 : Int)))))))))) (br (decide (op = (17 : Int))) (([] : List Go.Eng.Res) = [] ∧ Ent.one (SV.c (SC.v (Value.int IntKind.i64 (objS vs ms cs fs op)))) = Ent.one (SV.c (SC.v (Value.int IntKind.i64 (↑ms.length : Int))))) (br (decide (op = (18 : Int))) (br (decide (op = (18 : Int))) (([] : List Go.Eng.Res) = [] ∧ Ent.one (SV.c (SC.v (Value.int IntKind.i64 (objS vs ms cs fs op)))) = Ent.one (SV.c (SC.v (Value.int IntKind.i64 (↑cs.length : Int))))) (br (decide (op = (21 : Int))) (([] : List Go.Eng.Res) = [] ∧ Ent.one (SV.c (SC.v (Value.int IntKind.i64 (objS vs ms cs fs op)))) = Ent.one (SV.c (SC.v (Value.int IntKind.i64 (↑fs.length : Int))))) (([] : List Go.Eng.Res) = [] ∧ Ent.one (SV.c (SC.v (Value.int IntKind.i64 (objS vs ms cs fs op)))) = Ent.one (SV.c (SC.v (Value.int IntKind.i64 (-1 : Int))))))) (br (decide (op = (19 : Int))) (br (decide (op = (19 : Int))) (([] : List Go.Eng.Res) = [] ∧ Ent.one (SV.c (SC.v (Value.int IntKind.i64 (objS vs ms cs fs op)))) = Ent.one (SV.c (SC.v (Value.int IntKind.i64 (↑cs.length : Int))))) (br (decide (op = (21 : Int))) (([] : List Go.Eng.Res) = [] ∧ Ent.one (SV.c (SC.v (Value.int IntKind.i64 (objS vs ms cs fs op)))) = Ent.one (SV.c (SC.v (Value.int IntKind.i64 (↑fs.length : Int))))) (([] : List Go.Eng.Res) = [] ∧ Ent.one (SV.c (SC.v (Value.int IntKind.i64 (objS vs ms cs fs op)))) = Ent.one (SV.c (SC.v (Value.int IntKind.i64 (-1 : Int))))))) (br (decide (op = (20 : Int))) (([] : List Go.Eng.Res) = [] ∧ Ent.one (SV.c (SC.v (Value.int IntKind.i64 (objS vs ms cs fs op)))) = Ent.one (SV.c (SC.v (Value.int IntKind.i64 (↑cs.length : Int))))) (br (decide (op = (21 : Int))) (([] : List Go.Eng.Res) = [] ∧ Ent.one (SV.c (SC.v (Value.int IntKind.i64 (objS vs ms cs fs op)))) = Ent.one (SV.c (SC.v (Value.int IntKind.i64 (↑fs.length : Int))))) (([] : List Go.Eng.Res) = [] ∧ Ent.one (SV.c (SC.v (Value.int IntKind.i64 (objS vs ms cs fs op)))) = Ent.one (SV.c (SC.v (Value.int IntKind.i64 (-1 : Int))))))))))))))))) := by
  unfold objS
  simp only [br_iff]
  repeat' (first | (refine And.intro ?_ ?_) | (intro _))
  all_goals first | rfl | (simp_all; done) | (simp_all; omega) | grind
set_option maxRecDepth 100000 in
theorem f76_met : Go.Eng.Met Tryd.prog cx0.gd 76 ctObj :=
  met_of (cx := cx0) (n := 35) (cl := cl76) (by kernel_rfl) tis_ok trivial Tryd.func76 (by kernel_rfl) (by kernel_rfl) rfl (by kernel_rfl) (by kernel_rfl) fun d hd => by
    obtain ⟨⟨vs, ms, cs, fs, ts, ⟨⟩⟩, op, ⟨⟩⟩ := d
    exact ⟨ann76 vs ms cs fs ts op, cast (by kernel_rfl) (f76_vc vs ms cs fs ts op)⟩
def nmsV (vs : List VD) : List ByteArray := vs.map fun v => v.1
def nmsF (fs : List FD) : List ByteArray := fs.map fun f => f.1
@[reducible] def ctVarN : CT := { ps := [shP], pre := fun d => d.1.1.length ≤ 1000000, res := fun d => ([.row 9 .str (nmsV d.1.1)], .one (.c (.row 0))) }
@[reducible] def cl61 : List (Nat × CT) := []
@[reducible] def ann61 (vs : List VD) (ms : List ByteArray) (cs : List ByteArray) (fs : List FD) (ts : List SD) : Nat → Option (St → Ann) := fun k => match k with
  | 3 => some fun _ => .inv { α := Nat, slots := fun k => [(9, .c (.v (.int .i64 k))), (3, .c (.row 1))], res := fun k => [(1, .row 9 .str (nmsV (vs.take k)))], inv := fun k => k ≤ (vs).length, meas := fun k => (vs).length - k, nil := [(3, 9, .str)] }
  | _ => none
set_option maxRecDepth 100000 in
theorem f61_vc (vs : List VD) (ms : List ByteArray) (cs : List ByteArray) (fs : List FD) (ts : List SD) (hpre : ctVarN.pre ((vs, ms, cs, fs, ts, ()), ())) :
    (∃ x, x ≤ vs.length ∧ (SV.c (SC.v (Value.int IntKind.i64 (0 : Int))) = SV.c (SC.v (Value.int IntKind.i64 (↑x : Int))) ∧ SV.c (SC.row (Nat.succ (0 : Nat))) = SV.c (SC.row (1 : Nat)) ∧ True) ∧ [(([] : Go.Eng.Gd), Res.blk (43 : Nat) [SC.sl (Sh.str.pair (I6.pair Sh.unit)) vs, SC.sl Sh.str ms, SC.sl Sh.str cs, SC.sl (Sh.str.pair (shI.sl.pair Sh.unit)) fs, SC.sl (I6.pair (I6.pair Sh.unit)) ts]), (([] : Go.Eng.Gd), Res.row (9 : TypeId) Sh.str [])] = [(([] : Go.Eng.Gd), Res.blk (43 : Nat) [SC.sl (Sh.str.pair (I6.pair Sh.unit)) vs, SC.sl Sh.str ms, SC.sl Sh.str cs, SC.sl (Sh.str.pair (shI.sl.pair Sh.unit)) fs, SC.sl (I6.pair (I6.pair Sh.unit)) ts]), (([] : Go.Eng.Gd), Res.row (9 : TypeId) Sh.str (nmsV (List.take x vs)))]) ∧ ∀ (x : Nat), x ≤ vs.length → br (decide ((↑x : Int) < (↑vs.length : Int))) (((0 : Int) ≤ (↑x : Int) ∧ (↑x : Int) < (↑vs.length : Int)) ∧ ∀ (d : Sh.str.den × (I6.pair Sh.unit).den), vs[(↑x : Int).toNat]? = some d → InA (List.length (nmsV (List.take x vs)) + List.length ([d.fst])) (16 : Nat) ∧ InR IntKind.i64 ((↑x : Int) + (1 : Int)) ∧ ∃ x', x' ≤ vs.length ∧ (SV.c (SC.v (Value.int IntKind.i64 ((↑x : Int) + (1 : Int)))) = SV.c (SC.v (Value.int IntKind.i64 (↑x' : Int))) ∧ SV.c (SC.row (1 : Nat)) = SV.c (SC.row (1 : Nat)) ∧ True) ∧ [(([] : Go.Eng.Gd), Res.blk (43 : Nat) [SC.sl (Sh.str.pair (I6.pair Sh.unit)) vs, SC.sl Sh.str ms, SC.sl Sh.str cs, SC.sl (Sh.str.pair (shI.sl.pair Sh.unit)) fs, SC.sl (I6.pair (I6.pair Sh.unit)) ts]), (([] : Go.Eng.Gd), Res.row (9 : TypeId) Sh.str (nmsV (List.take x vs) ++ [d.fst]))] = [(([] : Go.Eng.Gd), Res.blk (43 : Nat) [SC.sl (Sh.str.pair (I6.pair Sh.unit)) vs, SC.sl Sh.str ms, SC.sl Sh.str cs, SC.sl (Sh.str.pair (shI.sl.pair Sh.unit)) fs, SC.sl (I6.pair (I6.pair Sh.unit)) ts]), (([] : Go.Eng.Gd), Res.row (9 : TypeId) Sh.str (nmsV (List.take x' vs)))] ∧ vs.length - x' < vs.length - x) ([Res.row (9 : TypeId) Sh.str (nmsV vs)] = [Res.row (9 : TypeId) Sh.str (nmsV (List.take x vs))] ∧ Ent.one (SV.c (SC.row (0 : Nat))) = Ent.one (SV.c (SC.row (0 : Nat)))) := by
  have hp : (vs).length ≤ 1000000 := hpre
  refine ⟨⟨0, by omega, ⟨rfl, rfl, trivial⟩, rfl⟩, fun k hk => br_iff.2 ⟨fun h => ?_, fun h => ?_⟩⟩
  · simp only [decide_eq_true_eq] at h
    refine ⟨by omega, fun d hd => ?_⟩
    have hd : (vs)[k]? = some d := by simpa using hd
    have e : nmsV ((vs).take (k + 1)) = nmsV ((vs).take k) ++ [d.1] := by
      unfold nmsV
      rw [List.take_add_one, hd]; simp
    refine ⟨?_, InR_i64.2 (by omega), k + 1, by omega, ⟨rfl, rfl, trivial⟩, ?_, by omega⟩
    · have : (nmsV ((vs).take k)).length ≤ 1000000 := by simp [nmsV]; omega
      exact InA_iff.2 (by simp only [List.length_cons, List.length_nil]; omega)
    · rw [e]
  · simp only [decide_eq_false_iff_not] at h
    rw [List.take_of_length_le (by omega)]; exact ⟨rfl, rfl⟩
set_option maxRecDepth 100000 in
theorem f61_met : Go.Eng.Met Tryd.prog cx0.gd 61 ctVarN :=
  met_of (cx := cx0) (n := 20) (cl := cl61) (by kernel_rfl) tis_ok trivial Tryd.func61 (by kernel_rfl) (by kernel_rfl) rfl (by kernel_rfl) (by kernel_rfl) fun d hd => by
    obtain ⟨⟨vs, ms, cs, fs, ts, ⟨⟩⟩, ⟨⟩⟩ := d
    exact ⟨ann61 vs ms cs fs ts, cast (by kernel_rfl) (f61_vc vs ms cs fs ts hd)⟩
@[reducible] def ctFunN : CT := { ps := [shP], pre := fun d => d.1.2.2.2.1.length ≤ 1000000, res := fun d => ([.row 9 .str (nmsF d.1.2.2.2.1)], .one (.c (.row 0))) }
@[reducible] def cl63 : List (Nat × CT) := []
@[reducible] def ann63 (vs : List VD) (ms : List ByteArray) (cs : List ByteArray) (fs : List FD) (ts : List SD) : Nat → Option (St → Ann) := fun k => match k with
  | 3 => some fun _ => .inv { α := Nat, slots := fun k => [(9, .c (.v (.int .i64 k))), (3, .c (.row 1))], res := fun k => [(1, .row 9 .str (nmsF (fs.take k)))], inv := fun k => k ≤ (fs).length, meas := fun k => (fs).length - k, nil := [(3, 9, .str)] }
  | _ => none
set_option maxRecDepth 100000 in
theorem f63_vc (vs : List VD) (ms : List ByteArray) (cs : List ByteArray) (fs : List FD) (ts : List SD) (hpre : ctFunN.pre ((vs, ms, cs, fs, ts, ()), ())) :
    (∃ x, x ≤ fs.length ∧ (SV.c (SC.v (Value.int IntKind.i64 (0 : Int))) = SV.c (SC.v (Value.int IntKind.i64 (↑x : Int))) ∧ SV.c (SC.row (Nat.succ (0 : Nat))) = SV.c (SC.row (1 : Nat)) ∧ True) ∧ [(([] : Go.Eng.Gd), Res.blk (43 : Nat) [SC.sl (Sh.str.pair (I6.pair Sh.unit)) vs, SC.sl Sh.str ms, SC.sl Sh.str cs, SC.sl (Sh.str.pair (shI.sl.pair Sh.unit)) fs, SC.sl (I6.pair (I6.pair Sh.unit)) ts]), (([] : Go.Eng.Gd), Res.row (9 : TypeId) Sh.str [])] = [(([] : Go.Eng.Gd), Res.blk (43 : Nat) [SC.sl (Sh.str.pair (I6.pair Sh.unit)) vs, SC.sl Sh.str ms, SC.sl Sh.str cs, SC.sl (Sh.str.pair (shI.sl.pair Sh.unit)) fs, SC.sl (I6.pair (I6.pair Sh.unit)) ts]), (([] : Go.Eng.Gd), Res.row (9 : TypeId) Sh.str (nmsF (List.take x fs)))]) ∧ ∀ (x : Nat), x ≤ fs.length → br (decide ((↑x : Int) < (↑fs.length : Int))) (((0 : Int) ≤ (↑x : Int) ∧ (↑x : Int) < (↑fs.length : Int)) ∧ ∀ (d : Sh.str.den × (shI.sl.pair Sh.unit).den), fs[(↑x : Int).toNat]? = some d → InA (List.length (nmsF (List.take x fs)) + List.length ([d.fst])) (16 : Nat) ∧ InR IntKind.i64 ((↑x : Int) + (1 : Int)) ∧ ∃ x', x' ≤ fs.length ∧ (SV.c (SC.v (Value.int IntKind.i64 ((↑x : Int) + (1 : Int)))) = SV.c (SC.v (Value.int IntKind.i64 (↑x' : Int))) ∧ SV.c (SC.row (1 : Nat)) = SV.c (SC.row (1 : Nat)) ∧ True) ∧ [(([] : Go.Eng.Gd), Res.blk (43 : Nat) [SC.sl (Sh.str.pair (I6.pair Sh.unit)) vs, SC.sl Sh.str ms, SC.sl Sh.str cs, SC.sl (Sh.str.pair (shI.sl.pair Sh.unit)) fs, SC.sl (I6.pair (I6.pair Sh.unit)) ts]), (([] : Go.Eng.Gd), Res.row (9 : TypeId) Sh.str (nmsF (List.take x fs) ++ [d.fst]))] = [(([] : Go.Eng.Gd), Res.blk (43 : Nat) [SC.sl (Sh.str.pair (I6.pair Sh.unit)) vs, SC.sl Sh.str ms, SC.sl Sh.str cs, SC.sl (Sh.str.pair (shI.sl.pair Sh.unit)) fs, SC.sl (I6.pair (I6.pair Sh.unit)) ts]), (([] : Go.Eng.Gd), Res.row (9 : TypeId) Sh.str (nmsF (List.take x' fs)))] ∧ fs.length - x' < fs.length - x) ([Res.row (9 : TypeId) Sh.str (nmsF fs)] = [Res.row (9 : TypeId) Sh.str (nmsF (List.take x fs))] ∧ Ent.one (SV.c (SC.row (0 : Nat))) = Ent.one (SV.c (SC.row (0 : Nat)))) := by
  have hp : (fs).length ≤ 1000000 := hpre
  refine ⟨⟨0, by omega, ⟨rfl, rfl, trivial⟩, rfl⟩, fun k hk => br_iff.2 ⟨fun h => ?_, fun h => ?_⟩⟩
  · simp only [decide_eq_true_eq] at h
    refine ⟨by omega, fun d hd => ?_⟩
    have hd : (fs)[k]? = some d := by simpa using hd
    have e : nmsF ((fs).take (k + 1)) = nmsF ((fs).take k) ++ [d.1] := by
      unfold nmsF
      rw [List.take_add_one, hd]; simp
    refine ⟨?_, InR_i64.2 (by omega), k + 1, by omega, ⟨rfl, rfl, trivial⟩, ?_, by omega⟩
    · have : (nmsF ((fs).take k)).length ≤ 1000000 := by simp [nmsF]; omega
      exact InA_iff.2 (by simp only [List.length_cons, List.length_nil]; omega)
    · rw [e]
  · simp only [decide_eq_false_iff_not] at h
    rw [List.take_of_length_le (by omega)]; exact ⟨rfl, rfl⟩
set_option maxRecDepth 100000 in
theorem f63_met : Go.Eng.Met Tryd.prog cx0.gd 63 ctFunN :=
  met_of (cx := cx0) (n := 20) (cl := cl63) (by kernel_rfl) tis_ok trivial Tryd.func63 (by kernel_rfl) (by kernel_rfl) rfl (by kernel_rfl) (by kernel_rfl) fun d hd => by
    obtain ⟨⟨vs, ms, cs, fs, ts, ⟨⟩⟩, ⟨⟩⟩ := d
    exact ⟨ann63 vs ms cs fs ts, cast (by kernel_rfl) (f63_vc vs ms cs fs ts hd)⟩
def idxS (l : List ByteArray) (x : ByteArray) : Int := match l.findIdx? (fun y => decide (y = x)) with | some k => (k : Int) | none => -1
theorem idxS_found {l : List ByteArray} {x : ByteArray} {k : Nat} (hd : l[k]? = some x) (hn : ∀ j < k, ∀ y, l[j]? = some y → y ≠ x) : idxS l x = k := by
  have hlt : k < l.length := (List.getElem?_eq_some_iff.1 hd).1
  have : l.findIdx? (fun y => decide (y = x)) = some k := by
    rw [List.findIdx?_eq_some_iff_getElem]
    refine ⟨hlt, by have := (List.getElem?_eq_some_iff.1 hd).2; simp [this], fun j hj => ?_⟩
    have := hn j hj l[j] (List.getElem?_eq_getElem (by omega))
    simpa using this
  simp [idxS, this]
theorem idxS_none {l : List ByteArray} {x : ByteArray} (hn : ∀ (j : Nat) y, l[j]? = some y → y ≠ x) : idxS l x = -1 := by
  have : l.findIdx? (fun y => decide (y = x)) = none := by
    rw [List.findIdx?_eq_none_iff]
    intro y hy
    obtain ⟨j, hj⟩ := List.getElem?_of_mem hy
    simpa using hn j y hj
  simp [idxS, this]
@[reducible] def ctIdxS : CT := { ps := [.sl .str, .str], pre := fun d => d.1.length ≤ 1000000, res := fun d => ([], .one (.c (.v (.int .i64 (idxS d.1 d.2.1))))) }
@[reducible] def cl89 : List (Nat × CT) := []
@[reducible] def ann89 (l : List ByteArray) (x : ByteArray) : Nat → Option (St → Ann) := fun k => match k with
  | 2 => some fun _ => .inv { α := Nat, slots := fun k => [(8, .c (.v (.int .i64 k)))], res := fun k => [], inv := fun k => k ≤ (l).length ∧ ∀ j < k, ∀ y, l[j]? = some y → y ≠ x, meas := fun k => (l).length - k }
  | _ => none
set_option maxRecDepth 100000 in
theorem f89_vc (l : List ByteArray) (x : ByteArray) (hpre : ctIdxS.pre (l, x, ())) :
    (∃ x_1, (x_1 ≤ l.length ∧ ∀ (j : Nat), j < x_1 → ∀ (y : ByteArray), l[j]? = some y → y ≠ x) ∧ (SV.c (SC.v (Value.int IntKind.i64 (0 : Int))) = SV.c (SC.v (Value.int IntKind.i64 (↑x_1 : Int))) ∧ True) ∧ ([] : List (Go.Eng.Gd × Go.Eng.Res)) = []) ∧ ∀ (x_1 : Nat), (x_1 ≤ l.length ∧ ∀ (j : Nat), j < x_1 → ∀ (y : ByteArray), l[j]? = some y → y ≠ x) → br (decide ((↑x_1 : Int) < (↑l.length : Int))) (((0 : Int) ≤ (↑x_1 : Int) ∧ (↑x_1 : Int) < (↑l.length : Int)) ∧ ∀ (d : ByteArray), l[(↑x_1 : Int).toNat]? = some d → br (decide (x = d)) (([] : List Go.Eng.Res) = [] ∧ Ent.one (SV.c (SC.v (Value.int IntKind.i64 (idxS l x)))) = Ent.one (SV.c (SC.v (Value.int IntKind.i64 (↑x_1 : Int))))) (InR IntKind.i64 ((↑x_1 : Int) + (1 : Int)) ∧ ∃ x', (x' ≤ l.length ∧ ∀ (j : Nat), j < x' → ∀ (y : ByteArray), l[j]? = some y → y ≠ x) ∧ (SV.c (SC.v (Value.int IntKind.i64 ((↑x_1 : Int) + (1 : Int)))) = SV.c (SC.v (Value.int IntKind.i64 (↑x' : Int))) ∧ True) ∧ ([] : List (Go.Eng.Gd × Go.Eng.Res)) = [] ∧ l.length - x' < l.length - x_1)) (([] : List Go.Eng.Res) = [] ∧ Ent.one (SV.c (SC.v (Value.int IntKind.i64 (idxS l x)))) = Ent.one (SV.c (SC.v (Value.int IntKind.i64 (-1 : Int))))) := by
  refine ⟨⟨0, ⟨by omega, fun j hj => by omega⟩, ⟨rfl, trivial⟩, rfl⟩, fun k hk => br_iff.2 ⟨fun h => ?_, fun h => ?_⟩⟩
  · simp only [decide_eq_true_eq] at h
    have hp : l.length ≤ 1000000 := hpre
    refine ⟨by omega, fun d hd => ?_⟩
    have hd : l[k]? = some d := by simpa using hd
    refine br_iff.2 ⟨fun he => ?_, fun he => ⟨InR_i64.2 (by omega), k + 1, ⟨by omega, fun j hj y hy => ?_⟩, ⟨rfl, trivial⟩, rfl, by omega⟩⟩
    · have he : x = d := by simpa using he
      rw [idxS_found (by rw [hd, he]) hk.2]; exact ⟨rfl, rfl⟩
    · by_cases hjk : j = k
      · subst hjk; rw [hd] at hy; cases hy
        intro hh; simp [hh] at he
      · exact hk.2 j (by omega) y hy
  · simp only [decide_eq_false_iff_not] at h
    rw [idxS_none (fun j y hy => hk.2 j (by have := (List.getElem?_eq_some_iff.1 hy).1; omega) y hy)]; exact ⟨rfl, rfl⟩
set_option maxRecDepth 100000 in
theorem f89_met : Go.Eng.Met Tryd.prog cx0.gd 89 ctIdxS :=
  met_of (cx := cx0) (n := 19) (cl := cl89) (by kernel_rfl) tis_ok trivial Tryd.func89 (by kernel_rfl) (by kernel_rfl) rfl (by kernel_rfl) (by kernel_rfl) fun d hd => by
    obtain ⟨l, x, ⟨⟩⟩ := d
    exact ⟨ann89 l x, cast (by kernel_rfl) (f89_vc l x hd)⟩
def hasS (l : List ByteArray) (x : ByteArray) : Bool := l.any fun y => decide (y = x)
theorem hasS_idx (l : List ByteArray) (x : ByteArray) : hasS l x = decide (0 ≤ idxS l x) := by
  have h := List.findIdx?_isSome (xs := l) (p := fun y => decide (y = x))
  unfold hasS idxS
  rw [← h]
  cases l.findIdx? (fun y => decide (y = x)) with
  | none => rfl
  | some k => simp
@[reducible] def ctConS : CT := { ps := [.sl .str, .str], pre := fun d => d.1.length ≤ 1000000, res := fun d => ([], vB (hasS d.1 d.2.1)) }
@[reducible] def cl74 : List (Nat × CT) := [(89, ctIdxS)]
@[reducible] def ann74 (l : List ByteArray) (x : ByteArray) : Nat → Option (St → Ann) := fun _ => none
set_option maxRecDepth 100000 in
theorem f74_vc (l : List ByteArray) (x : ByteArray) (hpre : ctConS.pre (l, x, ())) :
    l.length ≤ (1000000 : Nat) ∧ ([] : List Go.Eng.Res) = [] ∧ Ent.one (SV.c (SC.v (Value.bool (hasS l x)))) = Ent.one (SV.c (SC.v (Value.bool (decide ((0 : Int) ≤ idxS l x))))) := by
  refine ⟨hpre, rfl, ?_⟩
  rw [hasS_idx]
set_option maxRecDepth 100000 in
theorem f74_met : Go.Eng.Met Tryd.prog cx0.gd 74 ctConS :=
  met_of (cx := cx0) (n := 9) (cl := cl74) (by kernel_rfl) tis_ok ⟨f89_met, trivial⟩ Tryd.func74 (by kernel_rfl) (by kernel_rfl) rfl (by kernel_rfl) (by kernel_rfl) fun d hd => by
    obtain ⟨l, x, ⟨⟩⟩ := d
    exact ⟨ann74 l x, cast (by kernel_rfl) (f74_vc l x hd)⟩
end Go.Proofs.YtklnffdjhoacoaaDoor
set_option linter.unusedSimpArgs false
set_option linter.unusedVariables false
set_option maxRecDepth 100000
namespace Go.Proofs.YtklnffdjhoacoaaDoor
open Go Go.Eng

def byt (s : ByteArray) (i : Nat) : Int := match s[i]? with | some u => (u.toNat : Int) | none => 0
theorem byt_of {s : ByteArray} {i : Nat} {u : UInt8} (h : s[i]? = some u) : byt s i = u.toNat := by simp [byt, h]
def okB (c : Int) : Bool := letS c || decide (c = 95) || decide (48 ≤ c ∧ c ≤ 57)
def validN (s : ByteArray) : Bool := decide (1 ≤ s.size ∧ s.size ≤ 16) && letS (byt s 0) && (List.range s.size).all fun i => okB (byt s i)
@[reducible] def ctVN : CT := { ps := [.str], pre := fun d => True, res := fun d => ([], vB (validN d.1)) }
@[reducible] def cl73 : List (Nat × CT) := [(88, ctLet)]
@[reducible] def ann73 (s : ByteArray) : Nat → Option (St → Ann) := fun k => match k with
  | 4 => some fun _ => .inv { α := Nat, slots := fun k => [(20, .c (.v (.int .i64 k)))], res := fun k => [], inv := fun k => k ≤ ((List.range s.size)).length ∧ ∀ j < k, okB (byt s j) = true, meas := fun k => ((List.range s.size)).length - k }
  | _ => none
set_option maxRecDepth 100000 in
theorem f73_vc (s : ByteArray) :
    ((!(decide ((↑s.size : Int) < (1 : Int)) || decide ((16 : Int) < (↑s.size : Int)))) = true → (0 : Int) ≤ (0 : Int) ∧ (0 : Int) < (↑s.size : Int)) ∧ ∀ (u : UInt8), ((!(decide ((↑s.size : Int) < (1 : Int)) || decide ((16 : Int) < (↑s.size : Int)))) = true → s[(0 : Nat)]? = some u) → ((!(decide ((↑s.size : Int) < (1 : Int)) || decide ((16 : Int) < (↑s.size : Int)))) = true → True) ∧ br (decide ((↑s.size : Int) < (1 : Int)) || decide ((16 : Int) < (↑s.size : Int)) || !letS (↑u.toNat : Int)) (([] : List Go.Eng.Res) = [] ∧ Ent.one (SV.c (SC.v (Value.bool (validN s)))) = Ent.one (SV.c (SC.v (Value.bool false)))) ((∃ x, (x ≤ (List.range s.size).length ∧ ∀ (j : Nat), j < x → okB (byt s j) = true) ∧ (SV.c (SC.v (Value.int IntKind.i64 (0 : Int))) = SV.c (SC.v (Value.int IntKind.i64 (↑x : Int))) ∧ True) ∧ ([] : List (Go.Eng.Gd × Go.Eng.Res)) = []) ∧ ∀ (x : Nat), (x ≤ (List.range s.size).length ∧ ∀ (j : Nat), j < x → okB (byt s j) = true) → br (decide ((↑x : Int) < (↑s.size : Int))) (((0 : Int) ≤ (↑x : Int) ∧ (↑x : Int) < (↑s.size : Int)) ∧ ∀ (u : UInt8), s[(↑x : Int).toNat]? = some u → True ∧ ((!letS (↑u.toNat : Int)) = true → (0 : Int) ≤ (↑x : Int) ∧ (↑x : Int) < (↑s.size : Int)) ∧ ∀ (u_1 : UInt8), ((!letS (↑u.toNat : Int)) = true → s[(↑x : Int).toNat]? = some u_1) → ((!letS (↑u.toNat : Int) && !decide ((↑u_1.toNat : Int) = (95 : Int))) = true → (0 : Int) ≤ (↑x : Int) ∧ (↑x : Int) < (↑s.size : Int)) ∧ ∀ (u_2 : UInt8), ((!letS (↑u.toNat : Int) && !decide ((↑u_1.toNat : Int) = (95 : Int))) = true → s[(↑x : Int).toNat]? = some u_2) → ((!decide ((↑u_2.toNat : Int) < (48 : Int)) && (!letS (↑u.toNat : Int) && !decide ((↑u_1.toNat : Int) = (95 : Int)))) = true → (0 : Int) ≤ (↑x : Int) ∧ (↑x : Int) < (↑s.size : Int)) ∧ ∀ (u_3 : UInt8), ((!decide ((↑u_2.toNat : Int) < (48 : Int)) && (!letS (↑u.toNat : Int) && !decide ((↑u_1.toNat : Int) = (95 : Int)))) = true → s[(↑x : Int).toNat]? = some u_3) → br (!letS (↑u.toNat : Int) && !decide ((↑u_1.toNat : Int) = (95 : Int)) && (decide ((↑u_2.toNat : Int) < (48 : Int)) || decide ((57 : Int) < (↑u_3.toNat : Int)))) (([] : List Go.Eng.Res) = [] ∧ Ent.one (SV.c (SC.v (Value.bool (validN s)))) = Ent.one (SV.c (SC.v (Value.bool false)))) (InR IntKind.i64 ((↑x : Int) + (1 : Int)) ∧ ∃ x', (x' ≤ (List.range s.size).length ∧ ∀ (j : Nat), j < x' → okB (byt s j) = true) ∧ (SV.c (SC.v (Value.int IntKind.i64 ((↑x : Int) + (1 : Int)))) = SV.c (SC.v (Value.int IntKind.i64 (↑x' : Int))) ∧ True) ∧ ([] : List (Go.Eng.Gd × Go.Eng.Res)) = [] ∧ (List.range s.size).length - x' < (List.range s.size).length - x)) (([] : List Go.Eng.Res) = [] ∧ Ent.one (SV.c (SC.v (Value.bool (validN s)))) = Ent.one (SV.c (SC.v (Value.bool true))))) := by
  have hs2 : (!(decide ((↑s.size : Int) < (1 : Int)) || decide ((16 : Int) < (↑s.size : Int)))) = true ↔ (1 ≤ s.size ∧ s.size ≤ 16) := by
    simp only [Bool.not_eq_true', Bool.or_eq_false_iff, decide_eq_false_iff_not]; omega
  refine ⟨fun h => by have := hs2.1 h; omega, fun u hu => ⟨fun _ => trivial, br_iff.2 ⟨fun h => ⟨rfl, ?_⟩, fun h => ?_⟩⟩⟩
  · have : validN s = false := by
      unfold validN
      by_cases hs : 1 ≤ s.size ∧ s.size ≤ 16
      · have e := byt_of (hu (hs2.2 hs))
        simp only [Bool.or_eq_true, decide_eq_true_eq, Bool.not_eq_true'] at h
        have h0 : letS (byt s 0) = false := by
          rw [e]
          rcases h with (h | h) | h
          · omega
          · omega
          · exact h
        rw [h0]; simp
      · rw [decide_eq_false hs]; rfl
    rw [this]
  · simp only [Bool.or_eq_false_iff, decide_eq_false_iff_not, Bool.not_eq_false'] at h
    obtain ⟨⟨h1, h2⟩, h3⟩ := h
    have hs : 1 ≤ s.size ∧ s.size ≤ 16 := by omega
    have e := byt_of (hu (hs2.2 hs))
    have hl : (List.range s.size).length = s.size := List.length_range
    rw [hl]
    refine ⟨⟨0, ⟨by omega, fun j hj => by omega⟩, ⟨rfl, trivial⟩, rfl⟩, fun k hk => br_iff.2 ⟨fun h => ?_, fun h => ?_⟩⟩
    · simp only [decide_eq_true_eq] at h
      have hN : (↑k : Int).toNat = k := by omega
      rw [hN]
      refine ⟨by omega, fun v hv => ⟨trivial, fun _ => by omega, fun v1 hv1 => ⟨fun _ => by omega, fun v2 hv2 => ⟨fun _ => by omega, fun v3 hv3 => ?_⟩⟩⟩⟩
      have ev := byt_of hv
      have bad : okB (byt s k) = false → validN s = false := by
        intro hb
        unfold validN
        have : ((List.range s.size).all fun i => okB (byt s i)) = false := by
          rw [List.all_eq_false]
          exact ⟨k, by simp; omega, by rw [hb]; simp⟩
        rw [this]; simp
      have fin : okB (byt s k) = true → (InR IntKind.i64 ((↑k : Int) + 1) ∧ ∃ x', (x' ≤ s.size ∧ ∀ (j : Nat), j < x' → okB (byt s j) = true) ∧ (SV.c (SC.v (Value.int IntKind.i64 ((↑k : Int) + 1))) = SV.c (SC.v (Value.int IntKind.i64 (↑x' : Int))) ∧ True) ∧ ([] : List (Go.Eng.Gd × Go.Eng.Res)) = [] ∧ s.size - x' < s.size - k) := fun ho =>
        ⟨InR_i64.2 (by omega), k + 1, ⟨by omega, fun j hj => by
          by_cases hjk : j = k
          · rw [hjk]; exact ho
          · exact hk.2 j (by omega)⟩, ⟨rfl, trivial⟩, rfl, by omega⟩
      cases hA : letS (↑v.toNat : Int) with
      | true =>
        refine br_iff.2 ⟨fun h => by simp at h, fun _ => fin ?_⟩
        rw [ev]; unfold okB; rw [hA]; rfl
      | false =>
        have hv1 := hv1 (by rw [hA]; rfl)
        rw [hv] at hv1; cases hv1
        by_cases h95 : (↑v.toNat : Int) = 95
        · refine br_iff.2 ⟨fun h => by simp [h95] at h, fun _ => fin ?_⟩
          rw [ev]; unfold okB; simp [h95]
        · have hd95 : decide ((↑v.toNat : Int) = 95) = false := decide_eq_false h95
          have hv2 := hv2 (by rw [hA, hd95]; rfl)
          rw [hv] at hv2; cases hv2
          by_cases h48 : (↑v.toNat : Int) < 48
          · refine br_iff.2 ⟨fun _ => ⟨rfl, ?_⟩, fun h => by simp [h95, h48] at h⟩
            rw [bad (by rw [ev]; unfold okB; rw [hA, hd95]; simp; omega)]
          · have hd48 : decide ((↑v.toNat : Int) < 48) = false := decide_eq_false h48
            have hv3 := hv3 (by rw [hA, hd95, hd48]; rfl)
            rw [hv] at hv3; cases hv3
            by_cases h57 : 57 < (↑v.toNat : Int)
            · refine br_iff.2 ⟨fun _ => ⟨rfl, ?_⟩, fun h => by simp [h95, h57] at h⟩
              rw [bad (by rw [ev]; unfold okB; rw [hA, hd95]; simp; omega)]
            · refine br_iff.2 ⟨fun h => by simp [h95, h48, h57] at h, fun _ => fin ?_⟩
              rw [ev]; unfold okB; rw [hA, hd95]; simp; omega
    · simp only [decide_eq_false_iff_not] at h
      have : validN s = true := by
        unfold validN
        rw [decide_eq_true hs, e, h3]
        simp only [Bool.true_and]
        rw [List.all_eq_true]
        intro i hi
        simp at hi
        exact hk.2 i (by omega)
      rw [this]; exact ⟨rfl, rfl⟩
set_option maxHeartbeats 2000000 in
set_option maxRecDepth 100000 in
theorem f73_met : Go.Eng.Met Tryd.prog cx0.gd 73 ctVN :=
  met_of (cx := cx0) (n := 47) (cl := cl73) (by kernel_rfl) tis_ok ⟨f88_met, trivial⟩ Tryd.func73 (by kernel_rfl) (by kernel_rfl) rfl (by kernel_rfl) (by kernel_rfl) fun d hd => by
    obtain ⟨s, ⟨⟩⟩ := d
    exact ⟨ann73 s, cast (by kernel_rfl) (f73_vc s)⟩
/-- The first fault of a list of names, and its place. -/
def nmsE (l : List ByteArray) : Int × Int := match (List.range l.length).find? (fun i => !validN (l.getD i ⟨#[]⟩) || hasS (l.take i) (l.getD i ⟨#[]⟩)) with
  | some i => (if validN (l.getD i ⟨#[]⟩) then 7 else 6, i)
  | none => (0, -1)
theorem nms_found {l : List ByteArray} {k : Nat} (hk : k < l.length) (h : ∀ j < k, validN (l.getD j ⟨#[]⟩) = true ∧ hasS (l.take j) (l.getD j ⟨#[]⟩) = false) (hf : validN (l.getD k ⟨#[]⟩) = false ∨ hasS (l.take k) (l.getD k ⟨#[]⟩) = true) :
    nmsE l = (if validN (l.getD k ⟨#[]⟩) then 7 else 6, (k : Int)) := by
  unfold nmsE
  rw [show (List.range l.length).find? (fun i => !validN (l.getD i ⟨#[]⟩) || hasS (l.take i) (l.getD i ⟨#[]⟩)) = some k from List.find?_range_eq_some.2 ⟨by rcases hf with hf | hf <;> rw [hf] <;> simp, by simpa using hk, fun j hj => by obtain ⟨a, b⟩ := h j hj; rw [a, b]; rfl⟩]
theorem nms_none {l : List ByteArray} (h : ∀ j < l.length, validN (l.getD j ⟨#[]⟩) = true ∧ hasS (l.take j) (l.getD j ⟨#[]⟩) = false) : nmsE l = (0, -1) := by
  unfold nmsE
  rw [show (List.range l.length).find? (fun i => !validN (l.getD i ⟨#[]⟩) || hasS (l.take i) (l.getD i ⟨#[]⟩)) = none from List.find?_eq_none.2 fun i hi => by
    obtain ⟨a, b⟩ := h i (by simpa using hi)
    rw [a, b]; simp]
@[reducible] def ctNms : CT := { ps := [.sl .str], pre := fun d => d.1.length ≤ 1000000, res := fun d => ([], .tup [.c (.v (.int .i64 (nmsE d.1).1)), .c (.v (.int .i64 (nmsE d.1).2))]) }
@[reducible] def cl62 : List (Nat × CT) := [(73, ctVN), (74, ctConS)]
@[reducible] def ann62 (l : List ByteArray) : Nat → Option (St → Ann) := fun k => match k with
  | 2 => some fun _ => .inv { α := Nat, slots := fun k => [(8, .c (.v (.int .i64 k)))], res := fun k => [], inv := fun k => k ≤ (l).length ∧ ∀ j < k, validN (l.getD j ⟨#[]⟩) = true ∧ hasS (l.take j) (l.getD j ⟨#[]⟩) = false, meas := fun k => (l).length - k }
  | _ => none
set_option maxRecDepth 100000 in
theorem f62_vc (l : List ByteArray) (hpre : ctNms.pre (l, ())) :
    (∃ x, (x ≤ l.length ∧ ∀ (j : Nat), j < x → validN (l.getD j { data := #[] : ByteArray }) = true ∧ hasS (List.take j l) (l.getD j { data := #[] : ByteArray }) = false) ∧ (SV.c (SC.v (Value.int IntKind.i64 (0 : Int))) = SV.c (SC.v (Value.int IntKind.i64 (↑x : Int))) ∧ True) ∧ ([] : List (Go.Eng.Gd × Go.Eng.Res)) = []) ∧ ∀ (x : Nat), (x ≤ l.length ∧ ∀ (j : Nat), j < x → validN (l.getD j { data := #[] : ByteArray }) = true ∧ hasS (List.take j l) (l.getD j { data := #[] : ByteArray }) = false) → br (decide ((↑x : Int) < (↑l.length : Int))) (((0 : Int) ≤ (↑x : Int) ∧ (↑x : Int) < (↑l.length : Int)) ∧ ∀ (d : ByteArray), l[(↑x : Int).toNat]? = some d → True ∧ br (!validN d) (([] : List Go.Eng.Res) = [] ∧ Ent.tup [SV.c (SC.v (Value.int IntKind.i64 (nmsE l).fst)), SV.c (SC.v (Value.int IntKind.i64 (nmsE l).snd))] = Ent.tup [SV.c (SC.v (Value.int IntKind.i64 (6 : Int))), SV.c (SC.v (Value.int IntKind.i64 (↑x : Int)))]) (((0 : Int) ≤ (0 : Int) ∧ (0 : Int) ≤ (↑x : Int) ∧ (↑x : Int) ≤ (↑l.length : Int)) ∧ (List.drop (0 : Nat) (List.take (↑x : Int).toNat l)).length ≤ (1000000 : Nat) ∧ br (hasS (List.drop (0 : Nat) (List.take (↑x : Int).toNat l)) d) (([] : List Go.Eng.Res) = [] ∧ Ent.tup [SV.c (SC.v (Value.int IntKind.i64 (nmsE l).fst)), SV.c (SC.v (Value.int IntKind.i64 (nmsE l).snd))] = Ent.tup [SV.c (SC.v (Value.int IntKind.i64 (7 : Int))), SV.c (SC.v (Value.int IntKind.i64 (↑x : Int)))]) (InR IntKind.i64 ((↑x : Int) + (1 : Int)) ∧ ∃ x', (x' ≤ l.length ∧ ∀ (j : Nat), j < x' → validN (l.getD j { data := #[] : ByteArray }) = true ∧ hasS (List.take j l) (l.getD j { data := #[] : ByteArray }) = false) ∧ (SV.c (SC.v (Value.int IntKind.i64 ((↑x : Int) + (1 : Int)))) = SV.c (SC.v (Value.int IntKind.i64 (↑x' : Int))) ∧ True) ∧ ([] : List (Go.Eng.Gd × Go.Eng.Res)) = [] ∧ l.length - x' < l.length - x))) (([] : List Go.Eng.Res) = [] ∧ Ent.tup [SV.c (SC.v (Value.int IntKind.i64 (nmsE l).fst)), SV.c (SC.v (Value.int IntKind.i64 (nmsE l).snd))] = Ent.tup [SV.c (SC.v (Value.int IntKind.i64 (0 : Int))), SV.c (SC.v (Value.int IntKind.i64 (-1 : Int)))]) := by
  have hp : l.length ≤ 1000000 := hpre
  refine ⟨⟨0, ⟨by omega, fun j hj => by omega⟩, ⟨rfl, trivial⟩, rfl⟩, fun k hk => br_iff.2 ⟨fun h => ?_, fun h => ?_⟩⟩
  · simp only [decide_eq_true_eq] at h
    have hN : (↑k : Int).toNat = k := by omega
    rw [hN]
    refine ⟨by omega, fun d hd => ?_⟩
    have hg : l.getD k ⟨#[]⟩ = d := by rw [List.getD_eq_getElem?_getD, hd]; rfl
    refine ⟨trivial, br_iff.2 ⟨fun h2 => ⟨rfl, ?_⟩, fun h2 => ⟨⟨by omega, by omega, by omega⟩, by simp; omega, br_iff.2 ⟨fun h3 => ⟨rfl, ?_⟩, fun h3 => ⟨InR_i64.2 (by omega), k + 1, ⟨by omega, fun j hj => ?_⟩, ⟨rfl, trivial⟩, rfl, by omega⟩⟩⟩⟩⟩
    · have h2 : validN d = false := by simpa using h2
      rw [nms_found (by omega) hk.2 (.inl (by rw [hg]; exact h2)), hg, h2]; rfl
    · have h2 : validN d = true := by simpa using h2
      have h3 : hasS (l.take k) d = true := by simpa using h3
      rw [nms_found (by omega) hk.2 (.inr (by rw [hg]; exact h3)), hg, h2]; rfl
    · by_cases hjk : j = k
      · subst hjk
        rw [hg]
        exact ⟨by simpa using h2, by simpa using h3⟩
      · exact hk.2 j (by omega)
  · simp only [decide_eq_false_iff_not] at h
    rw [nms_none fun j hj => hk.2 j (by omega)]; exact ⟨rfl, rfl⟩
set_option maxHeartbeats 2000000 in
set_option maxRecDepth 100000 in
theorem f62_met : Go.Eng.Met Tryd.prog cx0.gd 62 ctNms :=
  met_of (cx := cx0) (n := 24) (cl := cl62) (by kernel_rfl) tis_ok ⟨f73_met, f74_met, trivial⟩ Tryd.func62 (by kernel_rfl) (by kernel_rfl) rfl (by kernel_rfl) (by kernel_rfl) fun d hd => by
    obtain ⟨l, ⟨⟩⟩ := d
    exact ⟨ann62 l, cast (by kernel_rfl) (f62_vc l hd)⟩
def ciS (vs : List VD) (ms cs : List ByteArray) (fs : List FD) (e op obj n m : Int) : Int := if e ≠ 0 then e else if 0 ≤ objS vs ms cs fs op ∧ (obj < 0 ∨ objS vs ms cs fs op ≤ obj) then 11 else if op = 18 ∧ (n < 0 ∨ (ms.length : Int) ≤ n) then 11 else if (op = 4 ∨ op = 5) ∧ (n < 0 ∨ m < n) then 12 else 0
@[reducible] def chkI (i : ID) : Int := chkS i.1 i.2.1 i.2.2.1 i.2.2.2.1 i.2.2.2.2.1 i.2.2.2.2.2.1 i.2.2.2.2.2.2.1 i.2.2.2.2.2.2.2.1
@[reducible] def ciI (vs : List VD) (ms cs : List ByteArray) (fs : List FD) (i : ID) (m : Int) : Int := ciS vs ms cs fs (chkI i) i.1 i.2.2.2.2.1 i.2.2.2.2.2.1 m
@[reducible] def ctCI : CT := { ps := [shP, shI, .int .i64], pre := fun d => True, res := fun d => ([], .one (.c (.v (.int .i64 (ciI d.1.1 d.1.2.1 d.1.2.2.1 d.1.2.2.2.1 d.2.1 d.2.2.1))))) }
@[reducible] def cl68 : List (Nat × CT) := [(47, ct11), (76, ctObj)]
@[reducible] def ann68 (vs : List VD) (ms : List ByteArray) (cs : List ByteArray) (fs : List FD) (ts : List SD) (op : Int) (a : Int) (b : Int) (c : Int) (obj : Int) (n : Int) (fn : Int) (ord : Int) (m : Int) : Nat → Option (St → Ann) := fun _ => none
set_option maxRecDepth 100000 in
theorem f68_vc (vs : List VD) (ms : List ByteArray) (cs : List ByteArray) (fs : List FD) (ts : List SD) (op : Int) (a : Int) (b : Int) (c : Int) (obj : Int) (n : Int) (fn : Int) (ord : Int) (m : Int) :
    True ∧ br (!decide (chkS op a b c obj n fn ord = (0 : Int))) (([] : List Go.Eng.Res) = [] ∧ Ent.one (SV.c (SC.v (Value.int IntKind.i64 (ciS vs ms cs fs (chkS op a b c obj n fn ord) op obj n m)))) = Ent.one (SV.c (SC.v (Value.int IntKind.i64 (chkS op a b c obj n fn ord))))) (True ∧ br (decide ((0 : Int) ≤ objS vs ms cs fs op) && (decide (obj < (0 : Int)) || decide (objS vs ms cs fs op ≤ obj))) (([] : List Go.Eng.Res) = [] ∧ Ent.one (SV.c (SC.v (Value.int IntKind.i64 (ciS vs ms cs fs (chkS op a b c obj n fn ord) op obj n m)))) = Ent.one (SV.c (SC.v (Value.int IntKind.i64 (11 : Int))))) (br (decide (op = (18 : Int)) && (decide (n < (0 : Int)) || decide ((↑ms.length : Int) ≤ n))) (([] : List Go.Eng.Res) = [] ∧ Ent.one (SV.c (SC.v (Value.int IntKind.i64 (ciS vs ms cs fs (chkS op a b c obj n fn ord) op obj n m)))) = Ent.one (SV.c (SC.v (Value.int IntKind.i64 (11 : Int))))) (br ((decide (op = (4 : Int)) || decide (op = (5 : Int))) && (decide (n < (0 : Int)) || decide (m < n))) (([] : List Go.Eng.Res) = [] ∧ Ent.one (SV.c (SC.v (Value.int IntKind.i64 (ciS vs ms cs fs (chkS op a b c obj n fn ord) op obj n m)))) = Ent.one (SV.c (SC.v (Value.int IntKind.i64 (12 : Int))))) (([] : List Go.Eng.Res) = [] ∧ Ent.one (SV.c (SC.v (Value.int IntKind.i64 (ciS vs ms cs fs (chkS op a b c obj n fn ord) op obj n m)))) = Ent.one (SV.c (SC.v (Value.int IntKind.i64 (0 : Int)))))))) := by
  generalize chkS op a b c obj n fn ord = e
  unfold ciS
  generalize objS vs ms cs fs op = o
  refine ⟨trivial, br_iff.2 ⟨fun h => ⟨rfl, ?_⟩, fun h => ⟨trivial, br_iff.2 ⟨fun h2 => ⟨rfl, ?_⟩, fun h2 => br_iff.2 ⟨fun h3 => ⟨rfl, ?_⟩, fun h3 => br_iff.2 ⟨fun h4 => ⟨rfl, ?_⟩, fun h4 => ⟨rfl, ?_⟩⟩⟩⟩⟩⟩⟩
  all_goals simp only [Bool.not_eq_true', Bool.not_eq_false', Bool.and_eq_true, Bool.or_eq_true, Bool.and_eq_false_iff, Bool.or_eq_false_iff, decide_eq_true_eq, decide_eq_false_iff_not] at *
  all_goals (congr 4; (repeat' split) <;> first | rfl | omega | (exfalso; omega))
set_option maxHeartbeats 2000000 in
set_option maxRecDepth 100000 in
theorem f68_met : Go.Eng.Met Tryd.prog cx0.gd 68 ctCI :=
  met_of (cx := cx0) (n := 66) (cl := cl68) (by kernel_rfl) tis_ok ⟨f47_met, f76_met, trivial⟩ Tryd.func68 (by kernel_rfl) (by kernel_rfl) rfl (by kernel_rfl) (by kernel_rfl) fun d hd => by
    obtain ⟨⟨vs, ms, cs, fs, ts, ⟨⟩⟩, ⟨op, a, b, c, obj, n, fn, ord, ⟨⟩⟩, m, ⟨⟩⟩ := d
    exact ⟨ann68 vs ms cs fs ts op a b c obj n fn ord m, cast (by kernel_rfl) (f68_vc vs ms cs fs ts op a b c obj n fn ord m)⟩
def cnS (vs : List VD) (ms cs : List ByteArray) (fs : List FD) : Int × Int × Int :=
  if (nmsE (nmsV vs)).1 ≠ 0 then ((nmsE (nmsV vs)).1, -1, -1) else if (nmsE ms).1 ≠ 0 then ((nmsE ms).1, -1, -1) else if (nmsE cs).1 ≠ 0 then ((nmsE cs).1, -1, -1) else ((nmsE (nmsF fs)).1, (nmsE (nmsF fs)).2, -1)
theorem cn_bad {vs : List VD} {ms cs : List ByteArray} {fs : List FD} {k : Nat} {d : List ByteArray} (hd : [nmsV vs, ms, cs][k]? = some d) (h : (nmsE d).1 ≠ 0) (hn : ∀ j < k, ∀ x, [nmsV vs, ms, cs][j]? = some x → (nmsE x).1 = 0) :
    cnS vs ms cs fs = ((nmsE d).1, -1, -1) := by
  unfold cnS
  match k, hd, hn with
  | 0, hd, hn => simp at hd; subst hd; rw [if_pos h]
  | 1, hd, hn =>
    simp at hd; subst hd
    have h0 := hn 0 (by omega) (nmsV vs) rfl
    rw [if_neg (by rw [h0]; simp), if_pos h]
  | 2, hd, hn =>
    simp at hd; subst hd
    have h0 := hn 0 (by omega) (nmsV vs) rfl
    have h1 := hn 1 (by omega) ms rfl
    rw [if_neg (by rw [h0]; simp), if_neg (by rw [h1]; simp), if_pos h]
  | k + 3, hd, hn => simp at hd
theorem cn_ok {vs : List VD} {ms cs : List ByteArray} {fs : List FD} (hn : ∀ (j : Nat) x, [nmsV vs, ms, cs][j]? = some x → (nmsE x).1 = 0) : cnS vs ms cs fs = ((nmsE (nmsF fs)).1, (nmsE (nmsF fs)).2, -1) := by
  unfold cnS
  have h0 := hn 0 (nmsV vs) rfl
  have h1 := hn 1 ms rfl
  have h2 := hn 2 cs rfl
  rw [if_neg (by rw [h0]; simp), if_neg (by rw [h1]; simp), if_neg (by rw [h2]; simp)]
@[reducible] def ctCN : CT := { ps := [shP], pre := fun d => d.1.1.length ≤ 1000000 ∧ d.1.2.1.length ≤ 1000000 ∧ d.1.2.2.1.length ≤ 1000000 ∧ d.1.2.2.2.1.length ≤ 1000000, res := fun d => ([], .tup [.c (.v (.int .i64 ((cnS d.1.1 d.1.2.1 d.1.2.2.1 d.1.2.2.2.1).1))), .agg [.v (.int .i64 ((cnS d.1.1 d.1.2.1 d.1.2.2.1 d.1.2.2.2.1).2.1)), .v (.int .i64 ((cnS d.1.1 d.1.2.1 d.1.2.2.1 d.1.2.2.2.1).2.2))]]) }
@[reducible] def cl50 : List (Nat × CT) := [(61, ctVarN), (62, ctNms), (63, ctFunN)]
@[reducible] def ann50 (vs : List VD) (ms : List ByteArray) (cs : List ByteArray) (fs : List FD) (ts : List SD) : Nat → Option (St → Ann) := fun k => match k with
  | 2 => some fun _ => .inv { α := Nat, slots := fun k => [(18, .c (.v (.int .i64 k)))], res := fun k => [], inv := fun k => k ≤ ([nmsV vs, ms, cs]).length ∧ ∀ j < k, ∀ x, [nmsV vs, ms, cs][j]? = some x → (nmsE x).1 = 0, meas := fun k => ([nmsV vs, ms, cs]).length - k }
  | _ => none
set_option maxRecDepth 100000 in
theorem f50_vc (vs : List VD) (ms : List ByteArray) (cs : List ByteArray) (fs : List FD) (ts : List SD) (hpre : ctCN.pre ((vs, ms, cs, fs, ts, ()), ())) :
    vs.length ≤ (1000000 : Nat) ∧ (∃ x, (x ≤ [nmsV vs, ms, cs].length ∧ ∀ (j : Nat), j < x → ∀ (x : List ByteArray), [nmsV vs, ms, cs][j]? = some x → (nmsE x).fst = (0 : Int)) ∧ (SV.c (SC.v (Value.int IntKind.i64 (0 : Int))) = SV.c (SC.v (Value.int IntKind.i64 (↑x : Int))) ∧ True) ∧ [(([] : Go.Eng.Gd), Res.blk (43 : Nat) [SC.sl (Sh.str.pair (I6.pair Sh.unit)) vs, SC.sl Sh.str ms, SC.sl Sh.str cs, SC.sl (Sh.str.pair (shI.sl.pair Sh.unit)) fs, SC.sl (I6.pair (I6.pair Sh.unit)) ts]), (([] : Go.Eng.Gd), Res.blk (97 : Nat) [SC.v (Value.int IntKind.i64 (0 : Int)), SC.v (Value.int IntKind.i64 (0 : Int))]), (([] : Go.Eng.Gd), Res.gone), (([] : Go.Eng.Gd), Res.row (39 : TypeId) Sh.str.sl [nmsV vs, ms, cs])] = [(([] : Go.Eng.Gd), Res.blk (43 : Nat) [SC.sl (Sh.str.pair (I6.pair Sh.unit)) vs, SC.sl Sh.str ms, SC.sl Sh.str cs, SC.sl (Sh.str.pair (shI.sl.pair Sh.unit)) fs, SC.sl (I6.pair (I6.pair Sh.unit)) ts]), (([] : Go.Eng.Gd), Res.blk (97 : Nat) [SC.v (Value.int IntKind.i64 (0 : Int)), SC.v (Value.int IntKind.i64 (0 : Int))]), (([] : Go.Eng.Gd), Res.gone), (([] : Go.Eng.Gd), Res.row (39 : TypeId) Sh.str.sl [nmsV vs, ms, cs])]) ∧ ∀ (x : Nat), (x ≤ [nmsV vs, ms, cs].length ∧ ∀ (j : Nat), j < x → ∀ (x : List ByteArray), [nmsV vs, ms, cs][j]? = some x → (nmsE x).fst = (0 : Int)) → br (decide ((↑x : Int) < (↑[nmsV vs, ms, cs].length : Int))) (((0 : Int) ≤ (↑x : Int) ∧ (↑x : Int) < (↑[nmsV vs, ms, cs].length : Int)) ∧ (↑x : Int).toNat < [nmsV vs, ms, cs].length ∧ ∀ (d : List Sh.str.den), [nmsV vs, ms, cs][(↑x : Int).toNat]? = some d → d.length ≤ (1000000 : Nat) ∧ br (!decide ((nmsE d).fst = (0 : Int))) (([] : List Go.Eng.Res) = [] ∧ Ent.tup [SV.c (SC.v (Value.int IntKind.i64 (cnS vs ms cs fs).fst)), SV.agg [SC.v (Value.int IntKind.i64 (cnS vs ms cs fs).snd.fst), SC.v (Value.int IntKind.i64 (cnS vs ms cs fs).snd.snd)]] = Ent.tup [SV.c (SC.v (Value.int IntKind.i64 (nmsE d).fst)), SV.agg [SC.v (Value.int IntKind.i64 (-1 : Int)), SC.v (Value.int IntKind.i64 (-1 : Int))]]) (InR IntKind.i64 ((↑x : Int) + (1 : Int)) ∧ ∃ x', (x' ≤ [nmsV vs, ms, cs].length ∧ ∀ (j : Nat), j < x' → ∀ (x : List ByteArray), [nmsV vs, ms, cs][j]? = some x → (nmsE x).fst = (0 : Int)) ∧ (SV.c (SC.v (Value.int IntKind.i64 ((↑x : Int) + (1 : Int)))) = SV.c (SC.v (Value.int IntKind.i64 (↑x' : Int))) ∧ True) ∧ [(([] : Go.Eng.Gd), Res.blk (43 : Nat) [SC.sl (Sh.str.pair (I6.pair Sh.unit)) vs, SC.sl Sh.str ms, SC.sl Sh.str cs, SC.sl (Sh.str.pair (shI.sl.pair Sh.unit)) fs, SC.sl (I6.pair (I6.pair Sh.unit)) ts]), (([] : Go.Eng.Gd), Res.blk (97 : Nat) [SC.v (Value.int IntKind.i64 (0 : Int)), SC.v (Value.int IntKind.i64 (0 : Int))]), (([] : Go.Eng.Gd), Res.gone), (([] : Go.Eng.Gd), Res.row (39 : TypeId) Sh.str.sl [nmsV vs, ms, cs])] = [(([] : Go.Eng.Gd), Res.blk (43 : Nat) [SC.sl (Sh.str.pair (I6.pair Sh.unit)) vs, SC.sl Sh.str ms, SC.sl Sh.str cs, SC.sl (Sh.str.pair (shI.sl.pair Sh.unit)) fs, SC.sl (I6.pair (I6.pair Sh.unit)) ts]), (([] : Go.Eng.Gd), Res.blk (97 : Nat) [SC.v (Value.int IntKind.i64 (0 : Int)), SC.v (Value.int IntKind.i64 (0 : Int))]), (([] : Go.Eng.Gd), Res.gone), (([] : Go.Eng.Gd), Res.row (39 : TypeId) Sh.str.sl [nmsV vs, ms, cs])] ∧ [nmsV vs, ms, cs].length - x' < [nmsV vs, ms, cs].length - x)) (fs.length ≤ (1000000 : Nat) ∧ (nmsF fs).length ≤ (1000000 : Nat) ∧ ([] : List Go.Eng.Res) = [] ∧ Ent.tup [SV.c (SC.v (Value.int IntKind.i64 (cnS vs ms cs fs).fst)), SV.agg [SC.v (Value.int IntKind.i64 (cnS vs ms cs fs).snd.fst), SC.v (Value.int IntKind.i64 (cnS vs ms cs fs).snd.snd)]] = Ent.tup [SV.c (SC.v (Value.int IntKind.i64 (nmsE (nmsF fs)).fst)), SV.agg [SC.v (Value.int IntKind.i64 (nmsE (nmsF fs)).snd), SC.v (Value.int IntKind.i64 (-1 : Int))]]) := by
  obtain ⟨hp1, hp2, hp3, hp4⟩ : vs.length ≤ 1000000 ∧ ms.length ≤ 1000000 ∧ cs.length ≤ 1000000 ∧ fs.length ≤ 1000000 := hpre
  refine ⟨hp1, ?_⟩
  refine ⟨⟨0, ⟨by omega, fun j hj => by omega⟩, ⟨rfl, trivial⟩, rfl⟩, fun k hk => br_iff.2 ⟨fun h => ?_, fun h => ?_⟩⟩
  · have h3 : k < 3 := by simp at h; omega
    have h : k < [nmsV vs, ms, cs].length := h3
    have hN : (↑k : Int).toNat = k := by omega
    rw [hN]
    refine ⟨⟨by omega, by omega⟩, h, fun d hd => ⟨?_, br_iff.2 ⟨fun h2 => ⟨rfl, ?_⟩, fun h2 => ⟨InR_i64.2 (by omega), k + 1, ⟨by omega, fun j hj x hx => ?_⟩, ⟨rfl, trivial⟩, rfl, by omega⟩⟩⟩⟩
    · have : d ∈ [nmsV vs, ms, cs] := List.mem_of_getElem? hd
      simp only [List.mem_cons, List.not_mem_nil, or_false] at this
      rcases this with rfl | rfl | rfl
      · simpa [nmsV] using hp1
      · exact hp2
      · exact hp3
    · rw [cn_bad hd (by simpa using h2) hk.2]
    · by_cases hjk : j = k
      · subst hjk
        rw [hd] at hx; cases hx; simpa using h2
      · exact hk.2 j (by omega) x hx
  · have h : ¬ k < [nmsV vs, ms, cs].length := by
      have : ¬ k < 3 := by simp at h; omega
      exact this
    refine ⟨hp4, by simpa [nmsF] using hp4, rfl, ?_⟩
    rw [cn_ok fun j x hx => hk.2 j (by have := (List.getElem?_eq_some_iff.1 hx).1; omega) x hx]
set_option maxHeartbeats 2000000 in
set_option maxRecDepth 100000 in
theorem f50_met : Go.Eng.Met Tryd.prog cx0.gd 50 ctCN :=
  met_of (cx := cx0) (n := 41) (cl := cl50) (by kernel_rfl) tis_ok ⟨f61_met, f62_met, f63_met, trivial⟩ Tryd.func50 (by kernel_rfl) (by kernel_rfl) rfl (by kernel_rfl) (by kernel_rfl) fun d hd => by
    obtain ⟨⟨vs, ms, cs, fs, ts, ⟨⟩⟩, ⟨⟩⟩ := d
    exact ⟨ann50 vs ms cs fs ts, cast (by kernel_rfl) (f50_vc vs ms cs fs ts hd)⟩
def coS (vs : List VD) (ms cs : List ByteArray) (fs : List FD) : Int := if 8 < vs.length ∨ 4 < ms.length ∨ 4 < cs.length ∨ 8 < fs.length then 4 else if vs.all fun v => valS v.2.1 then 0 else 2
@[reducible] def ctCO : CT := { ps := [shP], pre := fun d => True, res := fun d => ([], .tup [.c (.v (.int .i64 (coS d.1.1 d.1.2.1 d.1.2.2.1 d.1.2.2.2.1))), .agg [.v (.int .i64 (-1)), .v (.int .i64 (-1))]]) }
@[reducible] def cl51 : List (Nat × CT) := [(64, ctVal)]
@[reducible] def ann51 (vs : List VD) (ms : List ByteArray) (cs : List ByteArray) (fs : List FD) (ts : List SD) : Nat → Option (St → Ann) := fun k => match k with
  | 5 => some fun _ => .inv { α := Nat, slots := fun k => [(34, .c (.v (.int .i64 k)))], res := fun k => [], inv := fun k => k ≤ (vs).length ∧ ∀ j < k, ∀ v, vs[j]? = some v → valS v.2.1 = true, meas := fun k => (vs).length - k }
  | _ => none
set_option maxRecDepth 100000 in
theorem f51_vc (vs : List VD) (ms : List ByteArray) (cs : List ByteArray) (fs : List FD) (ts : List SD) :
    br (decide ((8 : Int) < (↑vs.length : Int)) || decide ((4 : Int) < (↑ms.length : Int)) || decide ((4 : Int) < (↑cs.length : Int)) || decide ((8 : Int) < (↑fs.length : Int))) (([] : List Go.Eng.Res) = [] ∧ Ent.tup [SV.c (SC.v (Value.int IntKind.i64 (coS vs ms cs fs))), SV.agg [SC.v (Value.int IntKind.i64 (-1 : Int)), SC.v (Value.int IntKind.i64 (-1 : Int))]] = Ent.tup [SV.c (SC.v (Value.int IntKind.i64 (4 : Int))), SV.agg [SC.v (Value.int IntKind.i64 (-1 : Int)), SC.v (Value.int IntKind.i64 (-1 : Int))]]) ((∃ x, (x ≤ vs.length ∧ ∀ (j : Nat), j < x → ∀ (v : ByteArray × Int × Unit), vs[j]? = some v → valS v.snd.fst = true) ∧ (SV.c (SC.v (Value.int IntKind.i64 (0 : Int))) = SV.c (SC.v (Value.int IntKind.i64 (↑x : Int))) ∧ True) ∧ [(([] : Go.Eng.Gd), Res.blk (43 : Nat) [SC.sl (Sh.str.pair (I6.pair Sh.unit)) vs, SC.sl Sh.str ms, SC.sl Sh.str cs, SC.sl (Sh.str.pair (shI.sl.pair Sh.unit)) fs, SC.sl (I6.pair (I6.pair Sh.unit)) ts]), (([] : Go.Eng.Gd), Res.blk (97 : Nat) [SC.v (Value.int IntKind.i64 (0 : Int)), SC.v (Value.int IntKind.i64 (0 : Int))]), (([] : Go.Eng.Gd), Res.blk (97 : Nat) [SC.v (Value.int IntKind.i64 (-1 : Int)), SC.v (Value.int IntKind.i64 (-1 : Int))])] = [(([] : Go.Eng.Gd), Res.blk (43 : Nat) [SC.sl (Sh.str.pair (I6.pair Sh.unit)) vs, SC.sl Sh.str ms, SC.sl Sh.str cs, SC.sl (Sh.str.pair (shI.sl.pair Sh.unit)) fs, SC.sl (I6.pair (I6.pair Sh.unit)) ts]), (([] : Go.Eng.Gd), Res.blk (97 : Nat) [SC.v (Value.int IntKind.i64 (0 : Int)), SC.v (Value.int IntKind.i64 (0 : Int))]), (([] : Go.Eng.Gd), Res.blk (97 : Nat) [SC.v (Value.int IntKind.i64 (-1 : Int)), SC.v (Value.int IntKind.i64 (-1 : Int))])]) ∧ ∀ (x : Nat), (x ≤ vs.length ∧ ∀ (j : Nat), j < x → ∀ (v : ByteArray × Int × Unit), vs[j]? = some v → valS v.snd.fst = true) → br (decide ((↑x : Int) < (↑vs.length : Int))) (((0 : Int) ≤ (↑x : Int) ∧ (↑x : Int) < (↑vs.length : Int)) ∧ ∀ (d : Sh.str.den × (I6.pair Sh.unit).den), vs[(↑x : Int).toNat]? = some d → True ∧ br (!valS (d.snd.fst, ()).fst) (([] : List Go.Eng.Res) = [] ∧ Ent.tup [SV.c (SC.v (Value.int IntKind.i64 (coS vs ms cs fs))), SV.agg [SC.v (Value.int IntKind.i64 (-1 : Int)), SC.v (Value.int IntKind.i64 (-1 : Int))]] = Ent.tup [SV.c (SC.v (Value.int IntKind.i64 (2 : Int))), SV.agg [SC.v (Value.int IntKind.i64 (-1 : Int)), SC.v (Value.int IntKind.i64 (-1 : Int))]]) (InR IntKind.i64 ((↑x : Int) + (1 : Int)) ∧ ∃ x', (x' ≤ vs.length ∧ ∀ (j : Nat), j < x' → ∀ (v : ByteArray × Int × Unit), vs[j]? = some v → valS v.snd.fst = true) ∧ (SV.c (SC.v (Value.int IntKind.i64 ((↑x : Int) + (1 : Int)))) = SV.c (SC.v (Value.int IntKind.i64 (↑x' : Int))) ∧ True) ∧ [(([] : Go.Eng.Gd), Res.blk (43 : Nat) [SC.sl (Sh.str.pair (I6.pair Sh.unit)) vs, SC.sl Sh.str ms, SC.sl Sh.str cs, SC.sl (Sh.str.pair (shI.sl.pair Sh.unit)) fs, SC.sl (I6.pair (I6.pair Sh.unit)) ts]), (([] : Go.Eng.Gd), Res.blk (97 : Nat) [SC.v (Value.int IntKind.i64 (0 : Int)), SC.v (Value.int IntKind.i64 (0 : Int))]), (([] : Go.Eng.Gd), Res.blk (97 : Nat) [SC.v (Value.int IntKind.i64 (-1 : Int)), SC.v (Value.int IntKind.i64 (-1 : Int))])] = [(([] : Go.Eng.Gd), Res.blk (43 : Nat) [SC.sl (Sh.str.pair (I6.pair Sh.unit)) vs, SC.sl Sh.str ms, SC.sl Sh.str cs, SC.sl (Sh.str.pair (shI.sl.pair Sh.unit)) fs, SC.sl (I6.pair (I6.pair Sh.unit)) ts]), (([] : Go.Eng.Gd), Res.blk (97 : Nat) [SC.v (Value.int IntKind.i64 (0 : Int)), SC.v (Value.int IntKind.i64 (0 : Int))]), (([] : Go.Eng.Gd), Res.blk (97 : Nat) [SC.v (Value.int IntKind.i64 (-1 : Int)), SC.v (Value.int IntKind.i64 (-1 : Int))])] ∧ vs.length - x' < vs.length - x)) (([] : List Go.Eng.Res) = [] ∧ Ent.tup [SV.c (SC.v (Value.int IntKind.i64 (coS vs ms cs fs))), SV.agg [SC.v (Value.int IntKind.i64 (-1 : Int)), SC.v (Value.int IntKind.i64 (-1 : Int))]] = Ent.tup [SV.c (SC.v (Value.int IntKind.i64 (0 : Int))), SV.agg [SC.v (Value.int IntKind.i64 (-1 : Int)), SC.v (Value.int IntKind.i64 (-1 : Int))]])) := by
  by_cases hc : 8 < vs.length ∨ 4 < ms.length ∨ 4 < cs.length ∨ 8 < fs.length
  · have e : coS vs ms cs fs = 4 := by unfold coS; rw [if_pos hc]
    rw [e]
    refine br_iff.2 ⟨fun _ => ⟨rfl, rfl⟩, fun h => ?_⟩
    simp only [Bool.or_eq_false_iff, decide_eq_false_iff_not] at h
    omega
  refine br_iff.2 ⟨fun h => ?_, fun h => ⟨⟨0, ⟨by omega, fun j hj => by omega⟩, ⟨rfl, trivial⟩, rfl⟩, fun k hk => br_iff.2 ⟨fun h2 => ?_, fun h2 => ?_⟩⟩⟩
  · simp only [Bool.or_eq_true, decide_eq_true_eq] at h
    omega
  · simp only [decide_eq_true_eq] at h2
    have hN : (↑k : Int).toNat = k := by omega
    rw [hN]
    refine ⟨by omega, fun d hd => ⟨trivial, br_iff.2 ⟨fun h3 => ⟨rfl, ?_⟩, fun h3 => ⟨InR_i64.2 (by omega), k + 1, ⟨by omega, fun j hj v hv => ?_⟩, ⟨rfl, trivial⟩, rfl, by omega⟩⟩⟩⟩
    · have h3 : valS d.2.1 = false := by simpa using h3
      have e : coS vs ms cs fs = 2 := by
        unfold coS
        rw [if_neg hc, if_neg]
        intro hh
        rw [List.all_eq_true] at hh
        have := hh d (List.mem_of_getElem? hd)
        rw [h3] at this; cases this
      rw [e]
    · have h3 : valS d.2.1 = true := by simpa using h3
      by_cases hjk : j = k
      · subst hjk
        rw [hd] at hv; cases hv; exact h3
      · exact hk.2 j (by omega) v hv
  · simp only [decide_eq_false_iff_not] at h2
    have e : coS vs ms cs fs = 0 := by
      unfold coS
      rw [if_neg hc, if_pos]
      rw [List.all_eq_true]
      intro v hv
      obtain ⟨j, hj⟩ := List.getElem?_of_mem hv
      exact hk.2 j (by have := (List.getElem?_eq_some_iff.1 hj).1; omega) v hj
    rw [e]; exact ⟨rfl, rfl⟩
set_option maxHeartbeats 2000000 in
set_option maxRecDepth 100000 in
theorem f51_met : Go.Eng.Met Tryd.prog cx0.gd 51 ctCO :=
  met_of (cx := cx0) (n := 45) (cl := cl51) (by kernel_rfl) tis_ok ⟨f64_met, trivial⟩ Tryd.func51 (by kernel_rfl) (by kernel_rfl) rfl (by kernel_rfl) (by kernel_rfl) fun d hd => by
    obtain ⟨⟨vs, ms, cs, fs, ts, ⟨⟩⟩, ⟨⟩⟩ := d
    exact ⟨ann51 vs ms cs fs ts, cast (by kernel_rfl) (f51_vc vs ms cs fs ts)⟩
def thE (n : Nat) (t : SD) : Int := if t.1 < 0 ∨ (n : Int) ≤ t.1 then 11 else if valS t.2.1 then 0 else 2
def thS (fs : List FD) (ts : List SD) : Int := if ts.length < 1 ∨ 8 < ts.length then 4 else match ts.find? (fun t => decide (thE fs.length t ≠ 0)) with | some t => thE fs.length t | none => 0
theorem find_first {α : Type} {l : List α} {p : α → Bool} {k : Nat} {d : α} (hd : l[k]? = some d) (hp : p d = true) (hn : ∀ j < k, ∀ t, l[j]? = some t → p t = false) : l.find? p = some d := by
  induction l generalizing k with
  | nil => simp at hd
  | cons x l ih =>
    cases k with
    | zero => simp at hd; subst hd; simp [hp]
    | succ k =>
      have h0 := hn 0 (by omega) x (by simp)
      rw [List.find?_cons, h0]
      exact ih (by simpa using hd) fun j hj t ht => hn (j + 1) (by omega) t (by simpa using ht)
theorem find_no {α : Type} {l : List α} {p : α → Bool} (hn : ∀ (j : Nat) t, l[j]? = some t → p t = false) : l.find? p = none := by
  rw [List.find?_eq_none]
  intro x hx
  obtain ⟨j, hj⟩ := List.getElem?_of_mem hx
  rw [hn j x hj]; simp
theorem th_found {fs : List FD} {ts : List SD} {k : Nat} {d : SD} (hc : ¬ (ts.length < 1 ∨ 8 < ts.length)) (hd : ts[k]? = some d) (h : thE fs.length d ≠ 0) (hn : ∀ j < k, ∀ t, ts[j]? = some t → thE fs.length t = 0) : thS fs ts = thE fs.length d := by
  unfold thS
  rw [if_neg hc, find_first hd (by simpa using h) fun j hj t ht => by simpa using hn j hj t ht]
theorem th_none {fs : List FD} {ts : List SD} (hc : ¬ (ts.length < 1 ∨ 8 < ts.length)) (hn : ∀ (j : Nat) t, ts[j]? = some t → thE fs.length t = 0) : thS fs ts = 0 := by
  unfold thS
  rw [if_neg hc, find_no fun j t ht => by simpa using hn j t ht]
@[reducible] def ctCT : CT := { ps := [shP], pre := fun d => True, res := fun d => ([], .tup [.c (.v (.int .i64 (thS d.1.2.2.2.1 d.1.2.2.2.2.1))), .agg [.v (.int .i64 (-1)), .v (.int .i64 (-1))]]) }
@[reducible] def cl53 : List (Nat × CT) := [(64, ctVal)]
@[reducible] def ann53 (vs : List VD) (ms : List ByteArray) (cs : List ByteArray) (fs : List FD) (ts : List SD) : Nat → Option (St → Ann) := fun k => match k with
  | 5 => some fun _ => .inv { α := Nat, slots := fun k => [(22, .c (.v (.int .i64 k)))], res := fun k => [], inv := fun k => k ≤ (ts).length ∧ ∀ j < k, ∀ t, ts[j]? = some t → thE fs.length t = 0, meas := fun k => (ts).length - k }
  | _ => none
set_option maxRecDepth 100000 in
theorem f53_vc (vs : List VD) (ms : List ByteArray) (cs : List ByteArray) (fs : List FD) (ts : List SD) :
    br (decide ((↑ts.length : Int) < (1 : Int)) || decide ((8 : Int) < (↑ts.length : Int))) (([] : List Go.Eng.Res) = [] ∧ Ent.tup [SV.c (SC.v (Value.int IntKind.i64 (thS fs ts))), SV.agg [SC.v (Value.int IntKind.i64 (-1 : Int)), SC.v (Value.int IntKind.i64 (-1 : Int))]] = Ent.tup [SV.c (SC.v (Value.int IntKind.i64 (4 : Int))), SV.agg [SC.v (Value.int IntKind.i64 (-1 : Int)), SC.v (Value.int IntKind.i64 (-1 : Int))]]) ((∃ x, (x ≤ ts.length ∧ ∀ (j : Nat), j < x → ∀ (t : Int × Int × Unit), ts[j]? = some t → thE fs.length t = (0 : Int)) ∧ (SV.c (SC.v (Value.int IntKind.i64 (0 : Int))) = SV.c (SC.v (Value.int IntKind.i64 (↑x : Int))) ∧ True) ∧ [(([] : Go.Eng.Gd), Res.blk (43 : Nat) [SC.sl (Sh.str.pair (I6.pair Sh.unit)) vs, SC.sl Sh.str ms, SC.sl Sh.str cs, SC.sl (Sh.str.pair (shI.sl.pair Sh.unit)) fs, SC.sl (I6.pair (I6.pair Sh.unit)) ts]), (([] : Go.Eng.Gd), Res.blk (97 : Nat) [SC.v (Value.int IntKind.i64 (0 : Int)), SC.v (Value.int IntKind.i64 (0 : Int))]), (([] : Go.Eng.Gd), Res.blk (97 : Nat) [SC.v (Value.int IntKind.i64 (-1 : Int)), SC.v (Value.int IntKind.i64 (-1 : Int))])] = [(([] : Go.Eng.Gd), Res.blk (43 : Nat) [SC.sl (Sh.str.pair (I6.pair Sh.unit)) vs, SC.sl Sh.str ms, SC.sl Sh.str cs, SC.sl (Sh.str.pair (shI.sl.pair Sh.unit)) fs, SC.sl (I6.pair (I6.pair Sh.unit)) ts]), (([] : Go.Eng.Gd), Res.blk (97 : Nat) [SC.v (Value.int IntKind.i64 (0 : Int)), SC.v (Value.int IntKind.i64 (0 : Int))]), (([] : Go.Eng.Gd), Res.blk (97 : Nat) [SC.v (Value.int IntKind.i64 (-1 : Int)), SC.v (Value.int IntKind.i64 (-1 : Int))])]) ∧ ∀ (x : Nat), (x ≤ ts.length ∧ ∀ (j : Nat), j < x → ∀ (t : Int × Int × Unit), ts[j]? = some t → thE fs.length t = (0 : Int)) → br (decide ((↑x : Int) < (↑ts.length : Int))) (((0 : Int) ≤ (↑x : Int) ∧ (↑x : Int) < (↑ts.length : Int)) ∧ ∀ (d : I6.den × (I6.pair Sh.unit).den), ts[(↑x : Int).toNat]? = some d → br (decide (d.fst < (0 : Int)) || decide ((↑fs.length : Int) ≤ d.fst)) (([] : List Go.Eng.Res) = [] ∧ Ent.tup [SV.c (SC.v (Value.int IntKind.i64 (thS fs ts))), SV.agg [SC.v (Value.int IntKind.i64 (-1 : Int)), SC.v (Value.int IntKind.i64 (-1 : Int))]] = Ent.tup [SV.c (SC.v (Value.int IntKind.i64 (11 : Int))), SV.agg [SC.v (Value.int IntKind.i64 (-1 : Int)), SC.v (Value.int IntKind.i64 (-1 : Int))]]) (True ∧ br (!valS (d.snd.fst, ()).fst) (([] : List Go.Eng.Res) = [] ∧ Ent.tup [SV.c (SC.v (Value.int IntKind.i64 (thS fs ts))), SV.agg [SC.v (Value.int IntKind.i64 (-1 : Int)), SC.v (Value.int IntKind.i64 (-1 : Int))]] = Ent.tup [SV.c (SC.v (Value.int IntKind.i64 (2 : Int))), SV.agg [SC.v (Value.int IntKind.i64 (-1 : Int)), SC.v (Value.int IntKind.i64 (-1 : Int))]]) (InR IntKind.i64 ((↑x : Int) + (1 : Int)) ∧ ∃ x', (x' ≤ ts.length ∧ ∀ (j : Nat), j < x' → ∀ (t : Int × Int × Unit), ts[j]? = some t → thE fs.length t = (0 : Int)) ∧ (SV.c (SC.v (Value.int IntKind.i64 ((↑x : Int) + (1 : Int)))) = SV.c (SC.v (Value.int IntKind.i64 (↑x' : Int))) ∧ True) ∧ [(([] : Go.Eng.Gd), Res.blk (43 : Nat) [SC.sl (Sh.str.pair (I6.pair Sh.unit)) vs, SC.sl Sh.str ms, SC.sl Sh.str cs, SC.sl (Sh.str.pair (shI.sl.pair Sh.unit)) fs, SC.sl (I6.pair (I6.pair Sh.unit)) ts]), (([] : Go.Eng.Gd), Res.blk (97 : Nat) [SC.v (Value.int IntKind.i64 (0 : Int)), SC.v (Value.int IntKind.i64 (0 : Int))]), (([] : Go.Eng.Gd), Res.blk (97 : Nat) [SC.v (Value.int IntKind.i64 (-1 : Int)), SC.v (Value.int IntKind.i64 (-1 : Int))])] = [(([] : Go.Eng.Gd), Res.blk (43 : Nat) [SC.sl (Sh.str.pair (I6.pair Sh.unit)) vs, SC.sl Sh.str ms, SC.sl Sh.str cs, SC.sl (Sh.str.pair (shI.sl.pair Sh.unit)) fs, SC.sl (I6.pair (I6.pair Sh.unit)) ts]), (([] : Go.Eng.Gd), Res.blk (97 : Nat) [SC.v (Value.int IntKind.i64 (0 : Int)), SC.v (Value.int IntKind.i64 (0 : Int))]), (([] : Go.Eng.Gd), Res.blk (97 : Nat) [SC.v (Value.int IntKind.i64 (-1 : Int)), SC.v (Value.int IntKind.i64 (-1 : Int))])] ∧ ts.length - x' < ts.length - x))) (([] : List Go.Eng.Res) = [] ∧ Ent.tup [SV.c (SC.v (Value.int IntKind.i64 (thS fs ts))), SV.agg [SC.v (Value.int IntKind.i64 (-1 : Int)), SC.v (Value.int IntKind.i64 (-1 : Int))]] = Ent.tup [SV.c (SC.v (Value.int IntKind.i64 (0 : Int))), SV.agg [SC.v (Value.int IntKind.i64 (-1 : Int)), SC.v (Value.int IntKind.i64 (-1 : Int))]])) := by
  by_cases hc : ts.length < 1 ∨ 8 < ts.length
  · have e : thS fs ts = 4 := by unfold thS; rw [if_pos hc]
    rw [e]
    refine br_iff.2 ⟨fun _ => ⟨rfl, rfl⟩, fun h => ?_⟩
    simp only [Bool.or_eq_false_iff, decide_eq_false_iff_not] at h
    omega
  refine br_iff.2 ⟨fun h => ?_, fun h => ⟨⟨0, ⟨by omega, fun j hj => by omega⟩, ⟨rfl, trivial⟩, rfl⟩, fun k hk => br_iff.2 ⟨fun h2 => ?_, fun h2 => ?_⟩⟩⟩
  · simp only [Bool.or_eq_true, decide_eq_true_eq] at h
    omega
  · simp only [decide_eq_true_eq] at h2
    have hN : (↑k : Int).toNat = k := by omega
    rw [hN]
    refine ⟨by omega, fun d hd => br_iff.2 ⟨fun h3 => ⟨rfl, ?_⟩, fun h3 => ⟨trivial, br_iff.2 ⟨fun h4 => ⟨rfl, ?_⟩, fun h4 => ⟨InR_i64.2 (by omega), k + 1, ⟨by omega, fun j hj v hv => ?_⟩, ⟨rfl, trivial⟩, rfl, by omega⟩⟩⟩⟩⟩
    · have h3 : d.1 < 0 ∨ (fs.length : Int) ≤ d.1 := by simpa using h3
      have e : thE fs.length d = 11 := by unfold thE; rw [if_pos h3]
      rw [th_found hc hd (by rw [e]; simp) hk.2, e]
    · have h3 : ¬ (d.1 < 0 ∨ (fs.length : Int) ≤ d.1) := by simpa using h3
      have h4 : valS d.2.1 = false := by simpa using h4
      have e : thE fs.length d = 2 := by unfold thE; rw [if_neg h3, if_neg (by rw [h4]; simp)]
      rw [th_found hc hd (by rw [e]; simp) hk.2, e]
    · have h3 : ¬ (d.1 < 0 ∨ (fs.length : Int) ≤ d.1) := by simpa using h3
      have h4 : valS d.2.1 = true := by simpa using h4
      by_cases hjk : j = k
      · subst hjk
        rw [hd] at hv; cases hv
        unfold thE; rw [if_neg h3, if_pos h4]
      · exact hk.2 j (by omega) v hv
  · simp only [decide_eq_false_iff_not] at h2
    rw [th_none hc fun j t hj => hk.2 j (by have := (List.getElem?_eq_some_iff.1 hj).1; omega) t hj]; exact ⟨rfl, rfl⟩
set_option maxHeartbeats 2000000 in
set_option maxRecDepth 100000 in
theorem f53_met : Go.Eng.Met Tryd.prog cx0.gd 53 ctCT :=
  met_of (cx := cx0) (n := 45) (cl := cl53) (by kernel_rfl) tis_ok ⟨f64_met, trivial⟩ Tryd.func53 (by kernel_rfl) (by kernel_rfl) rfl (by kernel_rfl) (by kernel_rfl) fun d hd => by
    obtain ⟨⟨vs, ms, cs, fs, ts, ⟨⟩⟩, ⟨⟩⟩ := d
    exact ⟨ann53 vs ms cs fs ts, cast (by kernel_rfl) (f53_vc vs ms cs fs ts)⟩
@[reducible] def ctLong : CT := { ps := [shF], pre := fun d => True, res := fun d => ([], vB (decide (64 < d.1.2.1.length))) }
@[reducible] def cl66 : List (Nat × CT) := []
@[reducible] def ann66 (nm : ByteArray) (l : List ID) : Nat → Option (St → Ann) := fun _ => none
set_option maxRecDepth 100000 in
theorem f66_vc (nm : ByteArray) (l : List ID) :
    ([] : List Go.Eng.Res) = [] ∧ Ent.one (SV.c (SC.v (Value.bool (decide ((64 : Nat) < l.length))))) = Ent.one (SV.c (SC.v (Value.bool (decide ((64 : Int) < (↑l.length : Int)))))) := by
  refine ⟨rfl, ?_⟩
  congr 4
  rw [Bool.eq_iff_iff]; simp only [decide_eq_true_eq]; omega
set_option maxHeartbeats 2000000 in
set_option maxRecDepth 100000 in
theorem f66_met : Go.Eng.Met Tryd.prog cx0.gd 66 ctLong :=
  met_of (cx := cx0) (n := 7) (cl := cl66) (by kernel_rfl) tis_ok trivial Tryd.func66 (by kernel_rfl) (by kernel_rfl) rfl (by kernel_rfl) (by kernel_rfl) fun d hd => by
    obtain ⟨⟨nm, l, ⟨⟩⟩, ⟨⟩⟩ := d
    exact ⟨ann66 nm l, cast (by kernel_rfl) (f66_vc nm l)⟩
def longS (fs : List FD) : Int := match fs.findIdx? (fun f => decide (64 < f.2.1.length)) with | some k => (k : Int) | none => -1
theorem long_found {fs : List FD} {k : Nat} {d : FD} (hd : fs[k]? = some d) (h2 : 64 < d.2.1.length) (hn : ∀ j < k, ∀ f, fs[j]? = some f → f.2.1.length ≤ 64) : longS fs = k := by
  have hlt : k < fs.length := (List.getElem?_eq_some_iff.1 hd).1
  have : fs.findIdx? (fun f => decide (64 < f.2.1.length)) = some k := by
    rw [List.findIdx?_eq_some_iff_getElem]
    refine ⟨hlt, by rw [(List.getElem?_eq_some_iff.1 hd).2]; simpa using h2, fun j hj => ?_⟩
    have := hn j hj fs[j] (List.getElem?_eq_getElem (by omega))
    simpa using this
  simp [longS, this]
theorem long_none {fs : List FD} (hn : ∀ (j : Nat) f, fs[j]? = some f → f.2.1.length ≤ 64) : longS fs = -1 := by
  have : fs.findIdx? (fun f => decide (64 < f.2.1.length)) = none := by
    rw [List.findIdx?_eq_none_iff]
    intro y hy
    obtain ⟨j, hj⟩ := List.getElem?_of_mem hy
    simpa using hn j y hj
  simp [longS, this]
@[reducible] def ctLongs : CT := { ps := [.sl shF], pre := fun d => d.1.length ≤ 1000000, res := fun d => ([], .one (.c (.v (.int .i64 (longS d.1))))) }
@[reducible] def cl65 : List (Nat × CT) := [(66, ctLong)]
@[reducible] def ann65 (fs : List FD) : Nat → Option (St → Ann) := fun k => match k with
  | 2 => some fun _ => .inv { α := Nat, slots := fun k => [(8, .c (.v (.int .i64 k)))], res := fun k => [], inv := fun k => k ≤ (fs).length ∧ ∀ j < k, ∀ f, fs[j]? = some f → f.2.1.length ≤ 64, meas := fun k => (fs).length - k }
  | _ => none
@[reducible] def il65 : List (Nat × IP) := []
@[reducible] def hl65 : List (Nat × Nat × CT) := []
@[reducible] def ml65 : List (Nat × MK) := []
set_option maxRecDepth 100000 in
theorem f65_vc (fs : List FD) (hpre : ctLongs.pre (fs, ())) :
    (∃ x, (x ≤ fs.length ∧ ∀ (j : Nat), j < x → ∀ (f : ByteArray × List ID × Unit), fs[j]? = some f → f.snd.fst.length ≤ (64 : Nat)) ∧ (SV.c (SC.v (Value.int IntKind.i64 (0 : Int))) = SV.c (SC.v (Value.int IntKind.i64 (↑x : Int))) ∧ True) ∧ ([] : List (Go.Eng.Gd × Go.Eng.Res)) = []) ∧ ∀ (x : Nat), (x ≤ fs.length ∧ ∀ (j : Nat), j < x → ∀ (f : ByteArray × List ID × Unit), fs[j]? = some f → f.snd.fst.length ≤ (64 : Nat)) → br (decide ((↑x : Int) < (↑fs.length : Int))) (((0 : Int) ≤ (↑x : Int) ∧ (↑x : Int) < (↑fs.length : Int)) ∧ ∀ (d : Sh.str.den × (shI.sl.pair Sh.unit).den), fs[(↑x : Int).toNat]? = some d → True ∧ br (decide ((64 : Nat) < List.length (d.snd.fst, ()).fst)) (([] : List Go.Eng.Res) = [] ∧ Ent.one (SV.c (SC.v (Value.int IntKind.i64 (longS fs)))) = Ent.one (SV.c (SC.v (Value.int IntKind.i64 (↑x : Int))))) (InR IntKind.i64 ((↑x : Int) + (1 : Int)) ∧ ∃ x', (x' ≤ fs.length ∧ ∀ (j : Nat), j < x' → ∀ (f : ByteArray × List ID × Unit), fs[j]? = some f → f.snd.fst.length ≤ (64 : Nat)) ∧ (SV.c (SC.v (Value.int IntKind.i64 ((↑x : Int) + (1 : Int)))) = SV.c (SC.v (Value.int IntKind.i64 (↑x' : Int))) ∧ True) ∧ ([] : List (Go.Eng.Gd × Go.Eng.Res)) = [] ∧ fs.length - x' < fs.length - x)) (([] : List Go.Eng.Res) = [] ∧ Ent.one (SV.c (SC.v (Value.int IntKind.i64 (longS fs)))) = Ent.one (SV.c (SC.v (Value.int IntKind.i64 (-1 : Int))))) := by
  have hp : fs.length ≤ 1000000 := hpre
  refine ⟨⟨0, ⟨by omega, fun j hj => by omega⟩, ⟨rfl, trivial⟩, rfl⟩, fun k hk => br_iff.2 ⟨fun h => ?_, fun h => ?_⟩⟩
  · simp only [decide_eq_true_eq] at h
    have hN : (↑k : Int).toNat = k := by omega
    rw [hN]
    refine ⟨by omega, fun d hd => ⟨trivial, br_iff.2 ⟨fun h2 => ⟨rfl, ?_⟩, fun h2 => ⟨InR_i64.2 (by omega), k + 1, ⟨by omega, fun j hj f hf => ?_⟩, ⟨rfl, trivial⟩, rfl, by omega⟩⟩⟩⟩
    · have h2 : 64 < d.2.1.length := by simpa using h2
      rw [long_found hd h2 hk.2]
    · have h2 : ¬ 64 < d.2.1.length := by simpa using h2
      by_cases hjk : j = k
      · subst hjk
        rw [hd] at hf; cases hf; omega
      · exact hk.2 j (by omega) f hf
  · simp only [decide_eq_false_iff_not] at h
    rw [long_none fun j f hf => hk.2 j (by have := (List.getElem?_eq_some_iff.1 hf).1; omega) f hf]; exact ⟨rfl, rfl⟩
set_option maxHeartbeats 2000000 in
set_option maxRecDepth 100000 in
theorem f65_metx : MetX Tryd.prog cx0.gd 65 [.func (.func 66) #[] #[]] ctLongs :=
  (met_all (cx := cx0) (n := 19) (cl := cl65) (il := il65) (hl := hl65) (ml := ml65) (rc := []) (lits := []) (suf := [.func (.func 66) #[] #[]]) (by kernel_rfl) tis_ok ⟨f66_met, trivial⟩ trivial trivial trivial Tryd.func65 (by kernel_rfl) (by kernel_rfl) rfl (by kernel_rfl) (by kernel_rfl) (by simp) fun d hd => by
    obtain ⟨fs, ⟨⟩⟩ := d
    exact ⟨ann65 fs, cast (by kernel_rfl) (f65_vc fs hd)⟩)
/-- The error of an instruction at its place. -/
def ceI (vs : List VD) (ms cs : List ByteArray) (fs : List FD) (d : dens [shS, shI]) : Int := ciI vs ms cs fs d.2.1 (((fs.getD d.1.1.toNat (⟨#[]⟩, [], ())).2.1.length : Nat) : Int)
def ccS (vs : List VD) (ms cs : List ByteArray) (fs : List FD) : Int × Int × Int := match (instL fs).find? (fun d => decide (d.1.1 = longS fs) || decide (ceI vs ms cs fs d ≠ 0)) with
  | some d => if d.1.1 = longS fs then (4, longS fs, -1) else (ceI vs ms cs fs d, d.1.1, d.1.2.1)
  | none => if 0 ≤ longS fs then (4, longS fs, -1) else (0, -1, -1)
theorem ce_of {vs : List VD} {ms cs : List ByteArray} {fs : List FD} {d : dens [shS, shI]} {e : FD} (he : fs[d.1.1.toNat]? = some e) : ceI vs ms cs fs d = ciI vs ms cs fs d.2.1 (e.2.1.length : Int) := by
  unfold ceI
  rw [List.getD_eq_getElem?_getD, he]; rfl
theorem instG_mem : ∀ (l : List FD) (n : Nat) {d : dens [shS, shI]}, d ∈ instG n l → ∃ (k : Nat) (x : FD) (j : Nat) (e : ID), l[k]? = some x ∧ x.2.1[j]? = some e ∧ d = ((((n + k : Nat) : Int), (j : Int), ()), e, ())
  | [], n, d, h => by simp [instG] at h
  | x :: l, n, d, h => by
    simp only [instG, List.mem_append] at h
    rcases h with h | h
    · unfold instF at h
      obtain ⟨p, hp, rfl⟩ := List.mem_map.1 h
      have := List.mk_mem_zipIdx_iff_getElem?.1 (show (p.1, p.2) ∈ x.2.1.zipIdx from hp)
      exact ⟨0, x, p.2, p.1, rfl, this, rfl⟩
    · obtain ⟨k, y, j, e, h1, h2, rfl⟩ := instG_mem l (n + 1) h
      exact ⟨k + 1, y, j, e, by simpa using h1, h2, by rw [show n + 1 + k = n + (k + 1) by omega]⟩
theorem inst_bnd {fs : List FD} {i : Nat} {d : dens [shS, shI]} (hd : (instL fs)[i]? = some d) : 0 ≤ d.1.1 ∧ d.1.1 < fs.length := by
  obtain ⟨k, x, j, e, h1, h2, rfl⟩ := instG_mem fs 0 (List.mem_of_getElem? hd)
  have := (List.getElem?_eq_some_iff.1 h1).1
  show 0 ≤ ((0 + k : Nat) : Int) ∧ ((0 + k : Nat) : Int) < _
  omega
theorem cc_find {vs : List VD} {ms cs : List ByteArray} {fs : List FD} {i : Nat} {d : dens [shS, shI]} (hd : (instL fs)[i]? = some d) (hb : d.1.1 = longS fs ∨ ceI vs ms cs fs d ≠ 0)
    (hn : ∀ j < i, ∀ d, (instL fs)[j]? = some d → d.1.1 ≠ longS fs ∧ ceI vs ms cs fs d = 0) : ccS vs ms cs fs = if d.1.1 = longS fs then (4, longS fs, -1) else (ceI vs ms cs fs d, d.1.1, d.1.2.1) := by
  unfold ccS
  rw [find_first hd (by simpa using hb) fun j hj t ht => by obtain ⟨a, b⟩ := hn j hj t ht; simp [a, b]]
theorem cc_end {vs : List VD} {ms cs : List ByteArray} {fs : List FD} (hn : ∀ (j : Nat) d, (instL fs)[j]? = some d → d.1.1 ≠ longS fs ∧ ceI vs ms cs fs d = 0) : ccS vs ms cs fs = if 0 ≤ longS fs then (4, longS fs, -1) else (0, -1, -1) := by
  unfold ccS
  rw [find_no fun j t ht => by obtain ⟨a, b⟩ := hn j t ht; simp [a, b]]
@[reducible] def ctCC : CT := { ps := [shP], pre := fun d => d.1.2.2.2.1.length ≤ 1000000 ∧ ∀ x ∈ d.1.2.2.2.1, x.2.1.length ≤ 1000000, res := fun d => ([], .tup [.c (.v (.int .i64 ((ccS d.1.1 d.1.2.1 d.1.2.2.1 d.1.2.2.2.1).1))), .agg [.v (.int .i64 ((ccS d.1.1 d.1.2.1 d.1.2.2.1 d.1.2.2.2.1).2.1)), .v (.int .i64 ((ccS d.1.1 d.1.2.1 d.1.2.2.1 d.1.2.2.2.1).2.2))]]) }
@[reducible] noncomputable def cl52 : List (Nat × CT) := [(67, ctInsts), (68, ctCI)]
@[reducible] def ann52 (vs : List VD) (ms : List ByteArray) (cs : List ByteArray) (fs : List FD) (ts : List SD) : Nat → Option (St → Ann) := fun k => match k with
  | 5 => some fun _ => .rng { α := Nat, res := fun _ => [], inv := fun i n => n = i ∧ ∀ j < n, ∀ d, (instL fs)[j]? = some d → d.1.1 ≠ longS fs ∧ ceI vs ms cs fs d = 0 }
  | _ => none
@[reducible] def il52 : List (Nat × IP) := []
@[reducible] def hl52 : List (Nat × Nat × CT) := [(65, 66, ctLongs)]
@[reducible] noncomputable def ml52 : List (Nat × MK) := []
set_option maxRecDepth 100000 in
theorem f52_vc (vs : List VD) (ms : List ByteArray) (cs : List ByteArray) (fs : List FD) (ts : List SD) (hpre : ctCC.pre ((vs, ms, cs, fs, ts, ()), ())) :
    fs.length ≤ (1000000 : Nat) ∧ (fs.length ≤ (1000000 : Nat) ∧ ∀ (x : Sh.str.den × (shI.sl.pair Sh.unit).den), x ∈ fs → List.length x.snd.fst ≤ (1000000 : Nat)) ∧ some Tryd.prog = some Tryd.prog ∧ (∃ x, (x = (0 : Nat) ∧ ∀ (j : Nat), j < x → ∀ (d : (I6.pair (I6.pair Sh.unit)).den × dens [I6.pair (I6.pair (I6.pair (I6.pair (I6.pair (I6.pair (I6.pair (I6.pair Sh.unit)))))))]), (instL fs)[j]? = some d → d.fst.fst ≠ longS fs ∧ ceI vs ms cs fs d = (0 : Int)) ∧ [(([] : Go.Eng.Gd), Res.blk (43 : Nat) [SC.sl (Sh.str.pair (I6.pair Sh.unit)) vs, SC.sl Sh.str ms, SC.sl Sh.str cs, SC.sl (Sh.str.pair (shI.sl.pair Sh.unit)) fs, SC.sl (I6.pair (I6.pair Sh.unit)) ts]), (([] : Go.Eng.Gd), Res.blk (25 : Nat) [SC.v (Value.int IntKind.i64 (0 : Int))]), (([] : Go.Eng.Gd), Res.blk (97 : Nat) [SC.v (Value.int IntKind.i64 (0 : Int)), SC.v (Value.int IntKind.i64 (0 : Int))]), (([] : Go.Eng.Gd), Res.blk (3 : Nat) [SC.v (Value.int IntKind.i64 (longS fs))])] = [(([] : Go.Eng.Gd), Res.blk (43 : Nat) [SC.sl (Sh.str.pair (I6.pair Sh.unit)) vs, SC.sl Sh.str ms, SC.sl Sh.str cs, SC.sl (Sh.str.pair (shI.sl.pair Sh.unit)) fs, SC.sl (I6.pair (I6.pair Sh.unit)) ts]), (([] : Go.Eng.Gd), Res.blk (25 : Nat) [SC.v (Value.int IntKind.i64 (0 : Int))]), (([] : Go.Eng.Gd), Res.blk (97 : Nat) [SC.v (Value.int IntKind.i64 (0 : Int)), SC.v (Value.int IntKind.i64 (0 : Int))]), (([] : Go.Eng.Gd), Res.blk (3 : Nat) [SC.v (Value.int IntKind.i64 (longS fs))])]) ∧ (∀ (i x : Nat) (d : (I6.pair (I6.pair Sh.unit)).den × dens [I6.pair (I6.pair (I6.pair (I6.pair (I6.pair (I6.pair (I6.pair (I6.pair Sh.unit)))))))]), (x = i ∧ ∀ (j : Nat), j < x → ∀ (d : (I6.pair (I6.pair Sh.unit)).den × dens [I6.pair (I6.pair (I6.pair (I6.pair (I6.pair (I6.pair (I6.pair (I6.pair Sh.unit)))))))]), (instL fs)[j]? = some d → d.fst.fst ≠ longS fs ∧ ceI vs ms cs fs d = (0 : Int)) → (instL fs)[i]? = some d → br (decide (d.fst.fst = longS fs)) (br (decide ((0 : Int) ≤ longS fs)) (((([] : List Go.Eng.Res) = [] ∧ Ent.tup [SV.c (SC.v (Value.int IntKind.i64 (ccS vs ms cs fs).fst)), SV.agg [SC.v (Value.int IntKind.i64 (ccS vs ms cs fs).snd.fst), SC.v (Value.int IntKind.i64 (ccS vs ms cs fs).snd.snd)]] = Ent.tup [SV.c (SC.v (Value.int IntKind.i64 (4 : Int))), SV.agg [SC.v (Value.int IntKind.i64 (longS fs)), SC.v (Value.int IntKind.i64 (-1 : Int))]]) ∧ ([] : List Go.Eng.Res) = [] ∧ Ent.tup [SV.c (SC.v (Value.int IntKind.i64 (ccS vs ms cs fs).fst)), SV.agg [SC.v (Value.int IntKind.i64 (ccS vs ms cs fs).snd.fst), SC.v (Value.int IntKind.i64 (ccS vs ms cs fs).snd.snd)]] = Ent.tup [SV.c (SC.v (Value.int IntKind.i64 (4 : Int))), SV.agg [SC.v (Value.int IntKind.i64 (longS fs)), SC.v (Value.int IntKind.i64 (-1 : Int))]]) ∧ ([] : List Go.Eng.Res) = [] ∧ Ent.tup [SV.c (SC.v (Value.int IntKind.i64 (ccS vs ms cs fs).fst)), SV.agg [SC.v (Value.int IntKind.i64 (ccS vs ms cs fs).snd.fst), SC.v (Value.int IntKind.i64 (ccS vs ms cs fs).snd.snd)]] = Ent.tup [SV.c (SC.v (Value.int IntKind.i64 (4 : Int))), SV.agg [SC.v (Value.int IntKind.i64 (longS fs)), SC.v (Value.int IntKind.i64 (-1 : Int))]]) (([] : List Go.Eng.Res) = [] ∧ Ent.tup [SV.c (SC.v (Value.int IntKind.i64 (ccS vs ms cs fs).fst)), SV.agg [SC.v (Value.int IntKind.i64 (ccS vs ms cs fs).snd.fst), SC.v (Value.int IntKind.i64 (ccS vs ms cs fs).snd.snd)]] = Ent.tup [SV.c (SC.v (Value.int IntKind.i64 (0 : Int))), SV.agg [SC.v (Value.int IntKind.i64 (-1 : Int)), SC.v (Value.int IntKind.i64 (-1 : Int))]])) (((0 : Int) ≤ d.fst.fst ∧ d.fst.fst < (↑fs.length : Int)) ∧ ∀ (d_1 : Sh.str.den × (shI.sl.pair Sh.unit).den), fs[Int.toNat d.fst.fst]? = some d_1 → True ∧ br (!decide (ciS vs ms cs fs (chkS (d.snd.fst.fst, d.snd.fst.snd.fst, d.snd.fst.snd.snd.fst, d.snd.fst.snd.snd.snd.fst, d.snd.fst.snd.snd.snd.snd.fst, d.snd.fst.snd.snd.snd.snd.snd.fst, d.snd.fst.snd.snd.snd.snd.snd.snd.fst, d.snd.fst.snd.snd.snd.snd.snd.snd.snd.fst, ()).fst (d.snd.fst.snd.fst, d.snd.fst.snd.snd.fst, d.snd.fst.snd.snd.snd.fst, d.snd.fst.snd.snd.snd.snd.fst, d.snd.fst.snd.snd.snd.snd.snd.fst, d.snd.fst.snd.snd.snd.snd.snd.snd.fst, d.snd.fst.snd.snd.snd.snd.snd.snd.snd.fst, ()).fst (d.snd.fst.snd.snd.fst, d.snd.fst.snd.snd.snd.fst, d.snd.fst.snd.snd.snd.snd.fst, d.snd.fst.snd.snd.snd.snd.snd.fst, d.snd.fst.snd.snd.snd.snd.snd.snd.fst, d.snd.fst.snd.snd.snd.snd.snd.snd.snd.fst, ()).fst (d.snd.fst.snd.snd.snd.fst, d.snd.fst.snd.snd.snd.snd.fst, d.snd.fst.snd.snd.snd.snd.snd.fst, d.snd.fst.snd.snd.snd.snd.snd.snd.fst, d.snd.fst.snd.snd.snd.snd.snd.snd.snd.fst, ()).fst (d.snd.fst.snd.snd.snd.snd.fst, d.snd.fst.snd.snd.snd.snd.snd.fst, d.snd.fst.snd.snd.snd.snd.snd.snd.fst, d.snd.fst.snd.snd.snd.snd.snd.snd.snd.fst, ()).fst (d.snd.fst.snd.snd.snd.snd.snd.fst, d.snd.fst.snd.snd.snd.snd.snd.snd.fst, d.snd.fst.snd.snd.snd.snd.snd.snd.snd.fst, ()).fst (d.snd.fst.snd.snd.snd.snd.snd.snd.fst, d.snd.fst.snd.snd.snd.snd.snd.snd.snd.fst, ()).fst (d.snd.fst.snd.snd.snd.snd.snd.snd.snd.fst, ()).fst) (d.snd.fst.fst, d.snd.fst.snd.fst, d.snd.fst.snd.snd.fst, d.snd.fst.snd.snd.snd.fst, d.snd.fst.snd.snd.snd.snd.fst, d.snd.fst.snd.snd.snd.snd.snd.fst, d.snd.fst.snd.snd.snd.snd.snd.snd.fst, d.snd.fst.snd.snd.snd.snd.snd.snd.snd.fst, ()).fst (d.snd.fst.snd.snd.snd.snd.fst, d.snd.fst.snd.snd.snd.snd.snd.fst, d.snd.fst.snd.snd.snd.snd.snd.snd.fst, d.snd.fst.snd.snd.snd.snd.snd.snd.snd.fst, ()).fst (d.snd.fst.snd.snd.snd.snd.snd.fst, d.snd.fst.snd.snd.snd.snd.snd.snd.fst, d.snd.fst.snd.snd.snd.snd.snd.snd.snd.fst, ()).fst (↑(List.length d_1.snd.fst) : Int) = (0 : Int))) ((([] : List Go.Eng.Res) = [] ∧ Ent.tup [SV.c (SC.v (Value.int IntKind.i64 (ccS vs ms cs fs).fst)), SV.agg [SC.v (Value.int IntKind.i64 (ccS vs ms cs fs).snd.fst), SC.v (Value.int IntKind.i64 (ccS vs ms cs fs).snd.snd)]] = Ent.tup [SV.c (SC.v (Value.int IntKind.i64 (ciS vs ms cs fs (chkS (d.snd.fst.fst, d.snd.fst.snd.fst, d.snd.fst.snd.snd.fst, d.snd.fst.snd.snd.snd.fst, d.snd.fst.snd.snd.snd.snd.fst, d.snd.fst.snd.snd.snd.snd.snd.fst, d.snd.fst.snd.snd.snd.snd.snd.snd.fst, d.snd.fst.snd.snd.snd.snd.snd.snd.snd.fst, ()).fst (d.snd.fst.snd.fst, d.snd.fst.snd.snd.fst, d.snd.fst.snd.snd.snd.fst, d.snd.fst.snd.snd.snd.snd.fst, d.snd.fst.snd.snd.snd.snd.snd.fst, d.snd.fst.snd.snd.snd.snd.snd.snd.fst, d.snd.fst.snd.snd.snd.snd.snd.snd.snd.fst, ()).fst (d.snd.fst.snd.snd.fst, d.snd.fst.snd.snd.snd.fst, d.snd.fst.snd.snd.snd.snd.fst, d.snd.fst.snd.snd.snd.snd.snd.fst, d.snd.fst.snd.snd.snd.snd.snd.snd.fst, d.snd.fst.snd.snd.snd.snd.snd.snd.snd.fst, ()).fst (d.snd.fst.snd.snd.snd.fst, d.snd.fst.snd.snd.snd.snd.fst, d.snd.fst.snd.snd.snd.snd.snd.fst, d.snd.fst.snd.snd.snd.snd.snd.snd.fst, d.snd.fst.snd.snd.snd.snd.snd.snd.snd.fst, ()).fst (d.snd.fst.snd.snd.snd.snd.fst, d.snd.fst.snd.snd.snd.snd.snd.fst, d.snd.fst.snd.snd.snd.snd.snd.snd.fst, d.snd.fst.snd.snd.snd.snd.snd.snd.snd.fst, ()).fst (d.snd.fst.snd.snd.snd.snd.snd.fst, d.snd.fst.snd.snd.snd.snd.snd.snd.fst, d.snd.fst.snd.snd.snd.snd.snd.snd.snd.fst, ()).fst (d.snd.fst.snd.snd.snd.snd.snd.snd.fst, d.snd.fst.snd.snd.snd.snd.snd.snd.snd.fst, ()).fst (d.snd.fst.snd.snd.snd.snd.snd.snd.snd.fst, ()).fst) (d.snd.fst.fst, d.snd.fst.snd.fst, d.snd.fst.snd.snd.fst, d.snd.fst.snd.snd.snd.fst, d.snd.fst.snd.snd.snd.snd.fst, d.snd.fst.snd.snd.snd.snd.snd.fst, d.snd.fst.snd.snd.snd.snd.snd.snd.fst, d.snd.fst.snd.snd.snd.snd.snd.snd.snd.fst, ()).fst (d.snd.fst.snd.snd.snd.snd.fst, d.snd.fst.snd.snd.snd.snd.snd.fst, d.snd.fst.snd.snd.snd.snd.snd.snd.fst, d.snd.fst.snd.snd.snd.snd.snd.snd.snd.fst, ()).fst (d.snd.fst.snd.snd.snd.snd.snd.fst, d.snd.fst.snd.snd.snd.snd.snd.snd.fst, d.snd.fst.snd.snd.snd.snd.snd.snd.snd.fst, ()).fst (↑(List.length d_1.snd.fst) : Int)))), SV.agg [SC.v (Value.int IntKind.i64 d.fst.fst), SC.v (Value.int IntKind.i64 d.fst.snd.fst)]]) ∧ ([] : List Go.Eng.Res) = [] ∧ Ent.tup [SV.c (SC.v (Value.int IntKind.i64 (ccS vs ms cs fs).fst)), SV.agg [SC.v (Value.int IntKind.i64 (ccS vs ms cs fs).snd.fst), SC.v (Value.int IntKind.i64 (ccS vs ms cs fs).snd.snd)]] = Ent.tup [SV.c (SC.v (Value.int IntKind.i64 (ciS vs ms cs fs (chkS (d.snd.fst.fst, d.snd.fst.snd.fst, d.snd.fst.snd.snd.fst, d.snd.fst.snd.snd.snd.fst, d.snd.fst.snd.snd.snd.snd.fst, d.snd.fst.snd.snd.snd.snd.snd.fst, d.snd.fst.snd.snd.snd.snd.snd.snd.fst, d.snd.fst.snd.snd.snd.snd.snd.snd.snd.fst, ()).fst (d.snd.fst.snd.fst, d.snd.fst.snd.snd.fst, d.snd.fst.snd.snd.snd.fst, d.snd.fst.snd.snd.snd.snd.fst, d.snd.fst.snd.snd.snd.snd.snd.fst, d.snd.fst.snd.snd.snd.snd.snd.snd.fst, d.snd.fst.snd.snd.snd.snd.snd.snd.snd.fst, ()).fst (d.snd.fst.snd.snd.fst, d.snd.fst.snd.snd.snd.fst, d.snd.fst.snd.snd.snd.snd.fst, d.snd.fst.snd.snd.snd.snd.snd.fst, d.snd.fst.snd.snd.snd.snd.snd.snd.fst, d.snd.fst.snd.snd.snd.snd.snd.snd.snd.fst, ()).fst (d.snd.fst.snd.snd.snd.fst, d.snd.fst.snd.snd.snd.snd.fst, d.snd.fst.snd.snd.snd.snd.snd.fst, d.snd.fst.snd.snd.snd.snd.snd.snd.fst, d.snd.fst.snd.snd.snd.snd.snd.snd.snd.fst, ()).fst (d.snd.fst.snd.snd.snd.snd.fst, d.snd.fst.snd.snd.snd.snd.snd.fst, d.snd.fst.snd.snd.snd.snd.snd.snd.fst, d.snd.fst.snd.snd.snd.snd.snd.snd.snd.fst, ()).fst (d.snd.fst.snd.snd.snd.snd.snd.fst, d.snd.fst.snd.snd.snd.snd.snd.snd.fst, d.snd.fst.snd.snd.snd.snd.snd.snd.snd.fst, ()).fst (d.snd.fst.snd.snd.snd.snd.snd.snd.fst, d.snd.fst.snd.snd.snd.snd.snd.snd.snd.fst, ()).fst (d.snd.fst.snd.snd.snd.snd.snd.snd.snd.fst, ()).fst) (d.snd.fst.fst, d.snd.fst.snd.fst, d.snd.fst.snd.snd.fst, d.snd.fst.snd.snd.snd.fst, d.snd.fst.snd.snd.snd.snd.fst, d.snd.fst.snd.snd.snd.snd.snd.fst, d.snd.fst.snd.snd.snd.snd.snd.snd.fst, d.snd.fst.snd.snd.snd.snd.snd.snd.snd.fst, ()).fst (d.snd.fst.snd.snd.snd.snd.fst, d.snd.fst.snd.snd.snd.snd.snd.fst, d.snd.fst.snd.snd.snd.snd.snd.snd.fst, d.snd.fst.snd.snd.snd.snd.snd.snd.snd.fst, ()).fst (d.snd.fst.snd.snd.snd.snd.snd.fst, d.snd.fst.snd.snd.snd.snd.snd.snd.fst, d.snd.fst.snd.snd.snd.snd.snd.snd.snd.fst, ()).fst (↑(List.length d_1.snd.fst) : Int)))), SV.agg [SC.v (Value.int IntKind.i64 d.fst.fst), SC.v (Value.int IntKind.i64 d.fst.snd.fst)]]) (∃ x', (x' = i + (1 : Nat) ∧ ∀ (j : Nat), j < x' → ∀ (d : (I6.pair (I6.pair Sh.unit)).den × dens [I6.pair (I6.pair (I6.pair (I6.pair (I6.pair (I6.pair (I6.pair (I6.pair Sh.unit)))))))]), (instL fs)[j]? = some d → d.fst.fst ≠ longS fs ∧ ceI vs ms cs fs d = (0 : Int)) ∧ [(([] : Go.Eng.Gd), Res.blk (43 : Nat) [SC.sl (Sh.str.pair (I6.pair Sh.unit)) vs, SC.sl Sh.str ms, SC.sl Sh.str cs, SC.sl (Sh.str.pair (shI.sl.pair Sh.unit)) fs, SC.sl (I6.pair (I6.pair Sh.unit)) ts]), (([] : Go.Eng.Gd), Res.blk (25 : Nat) [SC.v (Value.int IntKind.i64 (0 : Int))]), (([] : Go.Eng.Gd), Res.blk (97 : Nat) [SC.v (Value.int IntKind.i64 (0 : Int)), SC.v (Value.int IntKind.i64 (0 : Int))]), (([] : Go.Eng.Gd), Res.blk (3 : Nat) [SC.v (Value.int IntKind.i64 (longS fs))])] = [(([] : Go.Eng.Gd), Res.blk (43 : Nat) [SC.sl (Sh.str.pair (I6.pair Sh.unit)) vs, SC.sl Sh.str ms, SC.sl Sh.str cs, SC.sl (Sh.str.pair (shI.sl.pair Sh.unit)) fs, SC.sl (I6.pair (I6.pair Sh.unit)) ts]), (([] : Go.Eng.Gd), Res.blk (25 : Nat) [SC.v (Value.int IntKind.i64 (0 : Int))]), (([] : Go.Eng.Gd), Res.blk (97 : Nat) [SC.v (Value.int IntKind.i64 (0 : Int)), SC.v (Value.int IntKind.i64 (0 : Int))]), (([] : Go.Eng.Gd), Res.blk (3 : Nat) [SC.v (Value.int IntKind.i64 (longS fs))])]))) ∧ ∀ (x : Nat), (x = lenL (instL fs) ∧ ∀ (j : Nat), j < x → ∀ (d : (I6.pair (I6.pair Sh.unit)).den × dens [I6.pair (I6.pair (I6.pair (I6.pair (I6.pair (I6.pair (I6.pair (I6.pair Sh.unit)))))))]), (instL fs)[j]? = some d → d.fst.fst ≠ longS fs ∧ ceI vs ms cs fs d = (0 : Int)) → br (decide ((0 : Int) ≤ longS fs)) (((([] : List Go.Eng.Res) = [] ∧ Ent.tup [SV.c (SC.v (Value.int IntKind.i64 (ccS vs ms cs fs).fst)), SV.agg [SC.v (Value.int IntKind.i64 (ccS vs ms cs fs).snd.fst), SC.v (Value.int IntKind.i64 (ccS vs ms cs fs).snd.snd)]] = Ent.tup [SV.c (SC.v (Value.int IntKind.i64 (4 : Int))), SV.agg [SC.v (Value.int IntKind.i64 (longS fs)), SC.v (Value.int IntKind.i64 (-1 : Int))]]) ∧ ([] : List Go.Eng.Res) = [] ∧ Ent.tup [SV.c (SC.v (Value.int IntKind.i64 (ccS vs ms cs fs).fst)), SV.agg [SC.v (Value.int IntKind.i64 (ccS vs ms cs fs).snd.fst), SC.v (Value.int IntKind.i64 (ccS vs ms cs fs).snd.snd)]] = Ent.tup [SV.c (SC.v (Value.int IntKind.i64 (4 : Int))), SV.agg [SC.v (Value.int IntKind.i64 (longS fs)), SC.v (Value.int IntKind.i64 (-1 : Int))]]) ∧ ([] : List Go.Eng.Res) = [] ∧ Ent.tup [SV.c (SC.v (Value.int IntKind.i64 (ccS vs ms cs fs).fst)), SV.agg [SC.v (Value.int IntKind.i64 (ccS vs ms cs fs).snd.fst), SC.v (Value.int IntKind.i64 (ccS vs ms cs fs).snd.snd)]] = Ent.tup [SV.c (SC.v (Value.int IntKind.i64 (4 : Int))), SV.agg [SC.v (Value.int IntKind.i64 (longS fs)), SC.v (Value.int IntKind.i64 (-1 : Int))]]) (([] : List Go.Eng.Res) = [] ∧ Ent.tup [SV.c (SC.v (Value.int IntKind.i64 (ccS vs ms cs fs).fst)), SV.agg [SC.v (Value.int IntKind.i64 (ccS vs ms cs fs).snd.fst), SC.v (Value.int IntKind.i64 (ccS vs ms cs fs).snd.snd)]] = Ent.tup [SV.c (SC.v (Value.int IntKind.i64 (0 : Int))), SV.agg [SC.v (Value.int IntKind.i64 (-1 : Int)), SC.v (Value.int IntKind.i64 (-1 : Int))]]) := by
  refine ⟨hpre.1, hpre, rfl, ⟨0, ⟨rfl, fun j hj => by omega⟩, rfl⟩, fun i x d hi hd => ?_, fun x hx => ?_⟩
  · obtain ⟨rfl, hi⟩ := hi
    refine br_iff.2 ⟨fun h => ?_, fun h => ?_⟩
    · have h : d.1.1 = longS fs := by simpa using h
      obtain ⟨hb1, hb2⟩ := inst_bnd hd
      have hl : (0 : Int) ≤ longS fs := by rw [← h]; exact hb1
      rw [cc_find hd (.inl h) hi, if_pos h]
      exact br_iff.2 ⟨fun _ => ⟨⟨⟨rfl, rfl⟩, rfl, rfl⟩, rfl, rfl⟩, fun hh => absurd hl (of_decide_eq_false hh)⟩
    · have h : ¬ d.1.1 = longS fs := by simpa using h
      obtain ⟨hb1, hb2⟩ := inst_bnd hd
      refine ⟨⟨hb1, hb2⟩, fun e he => ⟨trivial, br_iff.2 ⟨fun h2 => ?_, fun h2 => ⟨x + 1, ⟨rfl, fun j hj d' hd' => ?_⟩, rfl⟩⟩⟩⟩
      · have h2 : ceI vs ms cs fs d ≠ 0 := by rw [ce_of he]; simpa using h2
        rw [cc_find hd (.inr h2) hi, if_neg h, ce_of he]
        exact ⟨⟨rfl, rfl⟩, rfl, rfl⟩
      · by_cases hji : j = x
        · subst hji
          rw [hd] at hd'; cases hd'
          exact ⟨h, by rw [ce_of he]; simpa using h2⟩
        · exact hi j (by omega) d' hd'
  · obtain ⟨rfl, hx⟩ := hx
    refine br_iff.2 ⟨fun h => ?_, fun h => ?_⟩
    · have h : (0 : Int) ≤ longS fs := by simpa using h
      rw [cc_end fun j d hd => hx j (by rw [lenL_eq]; exact (List.getElem?_eq_some_iff.1 hd).1) d hd, if_pos h]
      exact ⟨⟨⟨rfl, rfl⟩, rfl, rfl⟩, rfl, rfl⟩
    · have h : ¬ (0 : Int) ≤ longS fs := by simpa using h
      rw [cc_end fun j d hd => hx j (by rw [lenL_eq]; exact (List.getElem?_eq_some_iff.1 hd).1) d hd, if_neg h]
      exact ⟨rfl, rfl⟩
set_option maxHeartbeats 2000000 in
set_option maxRecDepth 100000 in
theorem f52_met : Go.Eng.Met Tryd.prog cx0.gd 52 ctCC :=
  (met_all (cx := cx0) (n := 39) (cl := cl52) (il := il52) (hl := hl52) (ml := ml52) (rc := []) (lits := []) (suf := []) (by kernel_rfl) tis_ok ⟨f67_met, f68_met, trivial⟩ trivial ⟨f65_metx, trivial⟩ trivial Tryd.func52 (by kernel_rfl) (by kernel_rfl) rfl (by kernel_rfl) (by kernel_rfl) (by simp) fun d hd => by
    obtain ⟨⟨vs, ms, cs, fs, ts, ⟨⟩⟩, ⟨⟩⟩ := d
    exact ⟨ann52 vs ms cs fs ts, cast (by kernel_rfl) (f52_vc vs ms cs fs ts hd)⟩).met
end Go.Proofs.YtklnffdjhoacoaaDoor
set_option linter.unusedSimpArgs false
set_option linter.unusedVariables false
set_option maxRecDepth 100000
namespace Go.Proofs.YtklnffdjhoacoaaDoor
open Go Go.Eng

@[reducible] def bnd (d : dens [shP]) : Prop := d.1.1.length ≤ 1000000 ∧ d.1.2.1.length ≤ 1000000 ∧ d.1.2.2.1.length ≤ 1000000 ∧ d.1.2.2.2.1.length ≤ 1000000 ∧ d.1.2.2.2.2.1.length ≤ 1000000 ∧ (∀ x ∈ d.1.2.2.2.1, x.2.1.length ≤ 1000000) ∧ (instL d.1.2.2.2.1).length ≤ 1000000
def chkP (vs : List VD) (ms cs : List ByteArray) (fs : List FD) (ts : List SD) : Int × Int × Int :=
  if (cnS vs ms cs fs).1 ≠ 0 then cnS vs ms cs fs else if coS vs ms cs fs ≠ 0 then (coS vs ms cs fs, -1, -1) else if (ccS vs ms cs fs).1 ≠ 0 then ccS vs ms cs fs else if thS fs ts ≠ 0 then (thS fs ts, -1, -1) else (0, -1, -1)
@[reducible] def ctChk : CT := { ps := [shP], pre := fun d => bnd d, res := fun d => ([], .tup [.c (.v (.int .i64 (chkP d.1.1 d.1.2.1 d.1.2.2.1 d.1.2.2.2.1 d.1.2.2.2.2.1).1)), .c (.v (.int .i64 (chkP d.1.1 d.1.2.1 d.1.2.2.1 d.1.2.2.2.1 d.1.2.2.2.2.1).2.1)), .c (.v (.int .i64 (chkP d.1.1 d.1.2.1 d.1.2.2.1 d.1.2.2.2.1 d.1.2.2.2.2.1).2.2))]) }
@[reducible] noncomputable def cl39 : List (Nat × CT) := [(50, ctCN), (51, ctCO), (52, ctCC), (53, ctCT)]
@[reducible] def ann39 (vs : List VD) (ms : List ByteArray) (cs : List ByteArray) (fs : List FD) (ts : List SD) : Nat → Option (St → Ann) := fun _ => none
set_option maxRecDepth 100000 in
theorem f39_vc (vs : List VD) (ms : List ByteArray) (cs : List ByteArray) (fs : List FD) (ts : List SD) (hpre : ctChk.pre ((vs, ms, cs, fs, ts, ()), ())) :
    (vs.length ≤ (1000000 : Nat) ∧ ms.length ≤ (1000000 : Nat) ∧ cs.length ≤ (1000000 : Nat) ∧ fs.length ≤ (1000000 : Nat)) ∧ br (decide ((cnS vs ms cs fs).fst = (0 : Int))) (True ∧ br (decide (coS vs ms cs fs = (0 : Int))) ((fs.length ≤ (1000000 : Nat) ∧ ∀ (x : Sh.str.den × (shI.sl.pair Sh.unit).den), x ∈ fs → List.length x.snd.fst ≤ (1000000 : Nat)) ∧ br (decide ((ccS vs ms cs fs).fst = (0 : Int))) (True ∧ br (!decide (thS fs ts = (0 : Int))) (([] : List Go.Eng.Res) = [] ∧ Ent.tup [SV.c (SC.v (Value.int IntKind.i64 (chkP vs ms cs fs ts).fst)), SV.c (SC.v (Value.int IntKind.i64 (chkP vs ms cs fs ts).snd.fst)), SV.c (SC.v (Value.int IntKind.i64 (chkP vs ms cs fs ts).snd.snd))] = Ent.tup [SV.c (SC.v (Value.int IntKind.i64 (thS fs ts))), SV.c (SC.v (Value.int IntKind.i64 (-1 : Int))), SV.c (SC.v (Value.int IntKind.i64 (-1 : Int)))]) (([] : List Go.Eng.Res) = [] ∧ Ent.tup [SV.c (SC.v (Value.int IntKind.i64 (chkP vs ms cs fs ts).fst)), SV.c (SC.v (Value.int IntKind.i64 (chkP vs ms cs fs ts).snd.fst)), SV.c (SC.v (Value.int IntKind.i64 (chkP vs ms cs fs ts).snd.snd))] = Ent.tup [SV.c (SC.v (Value.int IntKind.i64 (0 : Int))), SV.c (SC.v (Value.int IntKind.i64 (-1 : Int))), SV.c (SC.v (Value.int IntKind.i64 (-1 : Int)))])) (br (!decide ((ccS vs ms cs fs).fst = (0 : Int))) (([] : List Go.Eng.Res) = [] ∧ Ent.tup [SV.c (SC.v (Value.int IntKind.i64 (chkP vs ms cs fs ts).fst)), SV.c (SC.v (Value.int IntKind.i64 (chkP vs ms cs fs ts).snd.fst)), SV.c (SC.v (Value.int IntKind.i64 (chkP vs ms cs fs ts).snd.snd))] = Ent.tup [SV.c (SC.v (Value.int IntKind.i64 (ccS vs ms cs fs).fst)), SV.c (SC.v (Value.int IntKind.i64 (ccS vs ms cs fs).snd.fst)), SV.c (SC.v (Value.int IntKind.i64 (ccS vs ms cs fs).snd.snd))]) (([] : List Go.Eng.Res) = [] ∧ Ent.tup [SV.c (SC.v (Value.int IntKind.i64 (chkP vs ms cs fs ts).fst)), SV.c (SC.v (Value.int IntKind.i64 (chkP vs ms cs fs ts).snd.fst)), SV.c (SC.v (Value.int IntKind.i64 (chkP vs ms cs fs ts).snd.snd))] = Ent.tup [SV.c (SC.v (Value.int IntKind.i64 (0 : Int))), SV.c (SC.v (Value.int IntKind.i64 (-1 : Int))), SV.c (SC.v (Value.int IntKind.i64 (-1 : Int)))]))) (br (decide (coS vs ms cs fs = (0 : Int))) (True ∧ br (!decide (thS fs ts = (0 : Int))) (([] : List Go.Eng.Res) = [] ∧ Ent.tup [SV.c (SC.v (Value.int IntKind.i64 (chkP vs ms cs fs ts).fst)), SV.c (SC.v (Value.int IntKind.i64 (chkP vs ms cs fs ts).snd.fst)), SV.c (SC.v (Value.int IntKind.i64 (chkP vs ms cs fs ts).snd.snd))] = Ent.tup [SV.c (SC.v (Value.int IntKind.i64 (thS fs ts))), SV.c (SC.v (Value.int IntKind.i64 (-1 : Int))), SV.c (SC.v (Value.int IntKind.i64 (-1 : Int)))]) (([] : List Go.Eng.Res) = [] ∧ Ent.tup [SV.c (SC.v (Value.int IntKind.i64 (chkP vs ms cs fs ts).fst)), SV.c (SC.v (Value.int IntKind.i64 (chkP vs ms cs fs ts).snd.fst)), SV.c (SC.v (Value.int IntKind.i64 (chkP vs ms cs fs ts).snd.snd))] = Ent.tup [SV.c (SC.v (Value.int IntKind.i64 (0 : Int))), SV.c (SC.v (Value.int IntKind.i64 (-1 : Int))), SV.c (SC.v (Value.int IntKind.i64 (-1 : Int)))])) (br (!decide (coS vs ms cs fs = (0 : Int))) (([] : List Go.Eng.Res) = [] ∧ Ent.tup [SV.c (SC.v (Value.int IntKind.i64 (chkP vs ms cs fs ts).fst)), SV.c (SC.v (Value.int IntKind.i64 (chkP vs ms cs fs ts).snd.fst)), SV.c (SC.v (Value.int IntKind.i64 (chkP vs ms cs fs ts).snd.snd))] = Ent.tup [SV.c (SC.v (Value.int IntKind.i64 (coS vs ms cs fs))), SV.c (SC.v (Value.int IntKind.i64 (-1 : Int))), SV.c (SC.v (Value.int IntKind.i64 (-1 : Int)))]) (([] : List Go.Eng.Res) = [] ∧ Ent.tup [SV.c (SC.v (Value.int IntKind.i64 (chkP vs ms cs fs ts).fst)), SV.c (SC.v (Value.int IntKind.i64 (chkP vs ms cs fs ts).snd.fst)), SV.c (SC.v (Value.int IntKind.i64 (chkP vs ms cs fs ts).snd.snd))] = Ent.tup [SV.c (SC.v (Value.int IntKind.i64 (0 : Int))), SV.c (SC.v (Value.int IntKind.i64 (-1 : Int))), SV.c (SC.v (Value.int IntKind.i64 (-1 : Int)))])))) (br (decide ((cnS vs ms cs fs).fst = (0 : Int))) ((fs.length ≤ (1000000 : Nat) ∧ ∀ (x : Sh.str.den × (shI.sl.pair Sh.unit).den), x ∈ fs → List.length x.snd.fst ≤ (1000000 : Nat)) ∧ br (decide ((ccS vs ms cs fs).fst = (0 : Int))) (True ∧ br (!decide (thS fs ts = (0 : Int))) (([] : List Go.Eng.Res) = [] ∧ Ent.tup [SV.c (SC.v (Value.int IntKind.i64 (chkP vs ms cs fs ts).fst)), SV.c (SC.v (Value.int IntKind.i64 (chkP vs ms cs fs ts).snd.fst)), SV.c (SC.v (Value.int IntKind.i64 (chkP vs ms cs fs ts).snd.snd))] = Ent.tup [SV.c (SC.v (Value.int IntKind.i64 (thS fs ts))), SV.c (SC.v (Value.int IntKind.i64 (-1 : Int))), SV.c (SC.v (Value.int IntKind.i64 (-1 : Int)))]) (([] : List Go.Eng.Res) = [] ∧ Ent.tup [SV.c (SC.v (Value.int IntKind.i64 (chkP vs ms cs fs ts).fst)), SV.c (SC.v (Value.int IntKind.i64 (chkP vs ms cs fs ts).snd.fst)), SV.c (SC.v (Value.int IntKind.i64 (chkP vs ms cs fs ts).snd.snd))] = Ent.tup [SV.c (SC.v (Value.int IntKind.i64 (0 : Int))), SV.c (SC.v (Value.int IntKind.i64 (-1 : Int))), SV.c (SC.v (Value.int IntKind.i64 (-1 : Int)))])) (br (!decide ((ccS vs ms cs fs).fst = (0 : Int))) (([] : List Go.Eng.Res) = [] ∧ Ent.tup [SV.c (SC.v (Value.int IntKind.i64 (chkP vs ms cs fs ts).fst)), SV.c (SC.v (Value.int IntKind.i64 (chkP vs ms cs fs ts).snd.fst)), SV.c (SC.v (Value.int IntKind.i64 (chkP vs ms cs fs ts).snd.snd))] = Ent.tup [SV.c (SC.v (Value.int IntKind.i64 (ccS vs ms cs fs).fst)), SV.c (SC.v (Value.int IntKind.i64 (ccS vs ms cs fs).snd.fst)), SV.c (SC.v (Value.int IntKind.i64 (ccS vs ms cs fs).snd.snd))]) (([] : List Go.Eng.Res) = [] ∧ Ent.tup [SV.c (SC.v (Value.int IntKind.i64 (chkP vs ms cs fs ts).fst)), SV.c (SC.v (Value.int IntKind.i64 (chkP vs ms cs fs ts).snd.fst)), SV.c (SC.v (Value.int IntKind.i64 (chkP vs ms cs fs ts).snd.snd))] = Ent.tup [SV.c (SC.v (Value.int IntKind.i64 (0 : Int))), SV.c (SC.v (Value.int IntKind.i64 (-1 : Int))), SV.c (SC.v (Value.int IntKind.i64 (-1 : Int)))]))) (br (decide ((cnS vs ms cs fs).fst = (0 : Int))) (True ∧ br (!decide (thS fs ts = (0 : Int))) (([] : List Go.Eng.Res) = [] ∧ Ent.tup [SV.c (SC.v (Value.int IntKind.i64 (chkP vs ms cs fs ts).fst)), SV.c (SC.v (Value.int IntKind.i64 (chkP vs ms cs fs ts).snd.fst)), SV.c (SC.v (Value.int IntKind.i64 (chkP vs ms cs fs ts).snd.snd))] = Ent.tup [SV.c (SC.v (Value.int IntKind.i64 (thS fs ts))), SV.c (SC.v (Value.int IntKind.i64 (-1 : Int))), SV.c (SC.v (Value.int IntKind.i64 (-1 : Int)))]) (([] : List Go.Eng.Res) = [] ∧ Ent.tup [SV.c (SC.v (Value.int IntKind.i64 (chkP vs ms cs fs ts).fst)), SV.c (SC.v (Value.int IntKind.i64 (chkP vs ms cs fs ts).snd.fst)), SV.c (SC.v (Value.int IntKind.i64 (chkP vs ms cs fs ts).snd.snd))] = Ent.tup [SV.c (SC.v (Value.int IntKind.i64 (0 : Int))), SV.c (SC.v (Value.int IntKind.i64 (-1 : Int))), SV.c (SC.v (Value.int IntKind.i64 (-1 : Int)))])) (br (!decide ((cnS vs ms cs fs).fst = (0 : Int))) (([] : List Go.Eng.Res) = [] ∧ Ent.tup [SV.c (SC.v (Value.int IntKind.i64 (chkP vs ms cs fs ts).fst)), SV.c (SC.v (Value.int IntKind.i64 (chkP vs ms cs fs ts).snd.fst)), SV.c (SC.v (Value.int IntKind.i64 (chkP vs ms cs fs ts).snd.snd))] = Ent.tup [SV.c (SC.v (Value.int IntKind.i64 (cnS vs ms cs fs).fst)), SV.c (SC.v (Value.int IntKind.i64 (cnS vs ms cs fs).snd.fst)), SV.c (SC.v (Value.int IntKind.i64 (cnS vs ms cs fs).snd.snd))]) (([] : List Go.Eng.Res) = [] ∧ Ent.tup [SV.c (SC.v (Value.int IntKind.i64 (chkP vs ms cs fs ts).fst)), SV.c (SC.v (Value.int IntKind.i64 (chkP vs ms cs fs ts).snd.fst)), SV.c (SC.v (Value.int IntKind.i64 (chkP vs ms cs fs ts).snd.snd))] = Ent.tup [SV.c (SC.v (Value.int IntKind.i64 (0 : Int))), SV.c (SC.v (Value.int IntKind.i64 (-1 : Int))), SV.c (SC.v (Value.int IntKind.i64 (-1 : Int)))])))) := by
  obtain ⟨h1, h2, h3, h4, h5, h6, h7⟩ : bnd ((vs, ms, cs, fs, ts, ()), ()) := hpre
  have hA : ∀ x ∈ fs, x.2.1.length ≤ 1000000 := h6
  have hB : fs.length ≤ 1000000 ∧ ∀ x ∈ fs, x.2.1.length ≤ 1000000 := ⟨h4, h6⟩
  have hC : vs.length ≤ 1000000 ∧ ms.length ≤ 1000000 ∧ cs.length ≤ 1000000 ∧ fs.length ≤ 1000000 := ⟨h1, h2, h3, h4⟩
  clear h1 h2 h3 h4 h5 h6 h7 hA
  unfold chkP
  simp only [br_iff]
  repeat' (first | exact hB | exact hC | (refine And.intro ?_ ?_) | (intro _))
  all_goals first | trivial | rfl | (clear hB hC; simp_all; done)
set_option maxHeartbeats 2000000 in
set_option maxRecDepth 100000 in
theorem f39_met : Go.Eng.Met Tryd.prog cx0.gd 39 ctChk :=
  met_of (cx := cx0) (n := 40) (cl := cl39) (by kernel_rfl) tis_ok ⟨f50_met, f51_met, f52_met, f53_met, trivial⟩ Tryd.func39 (by kernel_rfl) (by kernel_rfl) rfl (by kernel_rfl) (by kernel_rfl) fun d hd => by
    obtain ⟨⟨vs, ms, cs, fs, ts, ⟨⟩⟩, ⟨⟩⟩ := d
    exact ⟨ann39 vs ms cs fs ts, cast (by kernel_rfl) (f39_vc vs ms cs fs ts hd)⟩
theorem ss_len {hi : Int} : ∀ (l : List Int) (lo : Int), SS l → (∀ x ∈ l, lo ≤ x ∧ x < hi) → lo ≤ hi → (l.length : Int) ≤ hi - lo
  | [], lo, _, _, h => by simp; omega
  | x :: l, lo, hs, hb, h => by
    obtain ⟨h1, h2⟩ := List.pairwise_cons.1 hs
    obtain ⟨b1, b2⟩ := hb x (by simp)
    have := ss_len l (x + 1) h2 (fun y hy => ⟨by have := h1 y hy; omega, (hb y (by simp [hy])).2⟩) (by omega)
    simp only [List.length_cons]; omega
theorem ss_short {l : List Int} {n : Nat} (hs : SS l) (hb : ∀ x ∈ l, 0 ≤ x ∧ x < (n : Int)) : l.length ≤ n := by
  have := ss_len l 0 hs hb (by omega)
  omega
theorem chk_zero {vs : List VD} {ms cs : List ByteArray} {fs : List FD} {ts : List SD} (h : (chkP vs ms cs fs ts).1 = 0) : coS vs ms cs fs = 0 ∧ (ccS vs ms cs fs).1 = 0 ∧ thS fs ts = 0 := by
  unfold chkP at h
  split at h
  · rename_i h1; exact absurd h h1
  · split at h
    · rename_i h1; exact absurd h h1
    · split at h
      · rename_i h1; exact absurd h h1
      · split at h
        · rename_i h1; exact absurd h h1
        · rename_i h1 h2 h3 h4
          exact ⟨by omega, by omega, by omega⟩
theorem cc_all {vs : List VD} {ms cs : List ByteArray} {fs : List FD} (h : (ccS vs ms cs fs).1 = 0) : ∀ d ∈ instL fs, ceI vs ms cs fs d = 0 := by
  unfold ccS at h
  split at h
  · rename_i d hd
    have hp := List.find?_some hd
    split at h
    · cases h
    · rename_i h1
      simp only [Bool.or_eq_true, decide_eq_true_eq] at hp
      rcases hp with hp | hp
      · exact absurd hp h1
      · exact absurd h hp
  · rename_i hd
    intro d hm
    have := List.find?_eq_none.1 hd d hm
    simp only [Bool.or_eq_true, decide_eq_true_eq, not_or] at this
    omega
end Go.Proofs.YtklnffdjhoacoaaDoor
namespace Go.Proofs.YtklnffdjhoacoaaDoor
open Go Go.Eng
theorem ex_of {α : Type 1} {Q : α → Prop} {V : Prop} (a : α) (v : V) (h : V = Q a) : ∃ a, Q a := ⟨a, cast h v⟩
end Go.Proofs.YtklnffdjhoacoaaDoor
set_option linter.unusedSimpArgs false
set_option linter.unusedVariables false
set_option maxRecDepth 100000
namespace Go.Proofs.YtklnffdjhoacoaaDoor
open Go Go.Eng

end Go.Proofs.YtklnffdjhoacoaaDoor
set_option linter.unusedSimpArgs false
set_option linter.unusedVariables false
set_option maxRecDepth 100000
namespace Go.Proofs.YtklnffdjhoacoaaDoor
open Go Go.Eng

end Go.Proofs.YtklnffdjhoacoaaDoor
