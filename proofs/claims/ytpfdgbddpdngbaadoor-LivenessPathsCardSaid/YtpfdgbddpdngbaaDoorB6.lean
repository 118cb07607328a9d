/- Texts of this claim, part 6: T1, C1, V1, K1, K2, V2, R1, K3, R2, SH, V3, V4, K4, V5, K5. Conditions: those of the given rows. -/
import Derived.Test.YtpfdgbddpdngbaaDoorB5
import Derived.Test.YtpfdgbddpdngbaaDoorProg
import Derived.Shelf.Sort.Plain
import Derived.Ground.Names2Prog
import Derived.Shelf.Slices.CompactI
set_option linter.unusedSimpArgs false
set_option linter.unusedVariables false
set_option maxRecDepth 100000
namespace Go.Proofs.YtpfdgbddpdngbaaDoor
open Go Go.Eng
@[reducible] def I6 : Sh := .int .i64
@[reducible] def vI6 (n : Int) : Value := .int .i64 n
@[reducible] def v6 (n : Int) : SC := .v (.int .i64 n)
@[reducible] def ti3 : TI := { desc := .int .i64, size := 1, bytes := 8, zero := [.int .i64 0], shp := some (.int .i64) }
theorem ti3_ok : TIOK Tryd.prog 3 ti3 := TIOK.of_eq (by kernel_rfl) (by kernel_rfl) rfl rfl (zshp_of (i := ti3) (s0 := (.int .i64)) rfl rfl rfl rfl)
@[reducible] def ti4 : TI := { desc := .bool, size := 1, bytes := 1, zero := [.bool false], shp := some .bool }
theorem ti4_ok : TIOK Tryd.prog 4 ti4 := TIOK.of_eq (by kernel_rfl) (by kernel_rfl) rfl rfl (zshp_of (i := ti4) (s0 := .bool) rfl rfl rfl rfl)
@[reducible] def ti5 : TI := { desc := .int .u8, size := 1, bytes := 1, zero := [.int .u8 0], shp := some (.int .u8) }
theorem ti5_ok : TIOK Tryd.prog 5 ti5 := TIOK.of_eq (by kernel_rfl) (by kernel_rfl) rfl rfl (zshp_of (i := ti5) (s0 := (.int .u8)) rfl rfl rfl rfl)
@[reducible] def ti9 : TI := { desc := .string, size := 1, bytes := 16, zero := [.string ⟨#[]⟩], shp := some .str }
theorem ti9_ok : TIOK Tryd.prog 9 ti9 := TIOK.of_eq (by kernel_rfl) (by kernel_rfl) rfl rfl (zshp_of (i := ti9) (s0 := .str) rfl rfl rfl rfl)
@[reducible] def ti22 : TI := { desc := .slice 48, size := 1, bytes := 24, zero := [.slice none 0 0], shp := some (.sl (.pair (.int .i64) (.pair (.int .i64) (.pair (.int .i64) (.pair (.int .i64) (.pair (.int .i64) (.pair (.int .i64) (.pair (.int .i64) (.pair (.int .i64) .unit))))))))) }
theorem ti22_ok : TIOK Tryd.prog 22 ti22 := TIOK.of_eq (by kernel_rfl) (by kernel_rfl) rfl rfl (zshp_of (i := ti22) (s0 := (.sl (.pair (.int .i64) (.pair (.int .i64) (.pair (.int .i64) (.pair (.int .i64) (.pair (.int .i64) (.pair (.int .i64) (.pair (.int .i64) (.pair (.int .i64) .unit)))))))))) rfl rfl rfl rfl)
@[reducible] def ti23 : TI := { desc := .struct #[fld 9 0, fld 22 1], size := 2, bytes := 40, zero := [.string ⟨#[]⟩, .slice none 0 0], shp := some (.pair .str (.pair (.sl (.pair (.int .i64) (.pair (.int .i64) (.pair (.int .i64) (.pair (.int .i64) (.pair (.int .i64) (.pair (.int .i64) (.pair (.int .i64) (.pair (.int .i64) .unit))))))))) .unit)) }
theorem ti23_ok : TIOK Tryd.prog 23 ti23 := TIOK.of_eq (by kernel_rfl) (by kernel_rfl) rfl rfl (zshp_of (i := ti23) (s0 := (.pair .str (.pair (.sl (.pair (.int .i64) (.pair (.int .i64) (.pair (.int .i64) (.pair (.int .i64) (.pair (.int .i64) (.pair (.int .i64) (.pair (.int .i64) (.pair (.int .i64) .unit))))))))) .unit))) rfl rfl rfl rfl)
@[reducible] def ti24 : TI := { desc := .struct #[fld 9 0, fld 22 1], size := 2, bytes := 40, zero := [.string ⟨#[]⟩, .slice none 0 0], shp := some (.pair .str (.pair (.sl (.pair (.int .i64) (.pair (.int .i64) (.pair (.int .i64) (.pair (.int .i64) (.pair (.int .i64) (.pair (.int .i64) (.pair (.int .i64) (.pair (.int .i64) .unit))))))))) .unit)) }
theorem ti24_ok : TIOK Tryd.prog 24 ti24 := TIOK.of_eq (by kernel_rfl) (by kernel_rfl) rfl rfl (zshp_of (i := ti24) (s0 := (.pair .str (.pair (.sl (.pair (.int .i64) (.pair (.int .i64) (.pair (.int .i64) (.pair (.int .i64) (.pair (.int .i64) (.pair (.int .i64) (.pair (.int .i64) (.pair (.int .i64) .unit))))))))) .unit))) rfl rfl rfl rfl)
@[reducible] def ti26 : TI := { desc := .slice 34, size := 1, bytes := 24, zero := [.slice none 0 0], shp := some (.sl (.sl (.int .i64))) }
theorem ti26_ok : TIOK Tryd.prog 26 ti26 := TIOK.of_eq (by kernel_rfl) (by kernel_rfl) rfl rfl (zshp_of (i := ti26) (s0 := (.sl (.sl (.int .i64)))) rfl rfl rfl rfl)
@[reducible] def ti27 : TI := { desc := .int .i64, size := 1, bytes := 8, zero := [.int .i64 0], shp := some (.int .i64) }
theorem ti27_ok : TIOK Tryd.prog 27 ti27 := TIOK.of_eq (by kernel_rfl) (by kernel_rfl) rfl rfl (zshp_of (i := ti27) (s0 := (.int .i64)) rfl rfl rfl rfl)
@[reducible] def ti34 : TI := { desc := .slice 3, size := 1, bytes := 24, zero := [.slice none 0 0], shp := some (.sl (.int .i64)) }
theorem ti34_ok : TIOK Tryd.prog 34 ti34 := TIOK.of_eq (by kernel_rfl) (by kernel_rfl) rfl rfl (zshp_of (i := ti34) (s0 := (.sl (.int .i64))) rfl rfl rfl rfl)
@[reducible] def ti44 : TI := { desc := .int .i64, size := 1, bytes := 8, zero := [.int .i64 0], shp := some (.int .i64) }
theorem ti44_ok : TIOK Tryd.prog 44 ti44 := TIOK.of_eq (by kernel_rfl) (by kernel_rfl) rfl rfl (zshp_of (i := ti44) (s0 := (.int .i64)) rfl rfl rfl rfl)
@[reducible] def ti45 : TI := { desc := .int .i64, size := 1, bytes := 8, zero := [.int .i64 0], shp := some (.int .i64) }
theorem ti45_ok : TIOK Tryd.prog 45 ti45 := TIOK.of_eq (by kernel_rfl) (by kernel_rfl) rfl rfl (zshp_of (i := ti45) (s0 := (.int .i64)) rfl rfl rfl rfl)
@[reducible] def ti46 : TI := { desc := .int .i64, size := 1, bytes := 8, zero := [.int .i64 0], shp := some (.int .i64) }
theorem ti46_ok : TIOK Tryd.prog 46 ti46 := TIOK.of_eq (by kernel_rfl) (by kernel_rfl) rfl rfl (zshp_of (i := ti46) (s0 := (.int .i64)) rfl rfl rfl rfl)
@[reducible] def ti47 : TI := { desc := .struct #[fld 44 0, fld 3 1, fld 3 2, fld 3 3, fld 3 4, fld 3 5, fld 45 6, fld 46 7], size := 8, bytes := 64, zero := [.int .i64 0, .int .i64 0, .int .i64 0, .int .i64 0, .int .i64 0, .int .i64 0, .int .i64 0, .int .i64 0], shp := some (.pair (.int .i64) (.pair (.int .i64) (.pair (.int .i64) (.pair (.int .i64) (.pair (.int .i64) (.pair (.int .i64) (.pair (.int .i64) (.pair (.int .i64) .unit)))))))), eqf := [.i, .i, .i, .i, .i, .i, .i, .i] }
theorem ti47_ok : TIOK Tryd.prog 47 ti47 := TIOK.of_eq (by kernel_rfl) (by kernel_rfl) rfl rfl (zshp_of (i := ti47) (s0 := (.pair (.int .i64) (.pair (.int .i64) (.pair (.int .i64) (.pair (.int .i64) (.pair (.int .i64) (.pair (.int .i64) (.pair (.int .i64) (.pair (.int .i64) .unit))))))))) rfl rfl rfl rfl) (fun _ => by kernel_rfl)
@[reducible] def ti48 : TI := { desc := .struct #[fld 44 0, fld 3 1, fld 3 2, fld 3 3, fld 3 4, fld 3 5, fld 45 6, fld 46 7], size := 8, bytes := 64, zero := [.int .i64 0, .int .i64 0, .int .i64 0, .int .i64 0, .int .i64 0, .int .i64 0, .int .i64 0, .int .i64 0], shp := some (.pair (.int .i64) (.pair (.int .i64) (.pair (.int .i64) (.pair (.int .i64) (.pair (.int .i64) (.pair (.int .i64) (.pair (.int .i64) (.pair (.int .i64) .unit)))))))), eqf := [.i, .i, .i, .i, .i, .i, .i, .i] }
theorem ti48_ok : TIOK Tryd.prog 48 ti48 := TIOK.of_eq (by kernel_rfl) (by kernel_rfl) rfl rfl (zshp_of (i := ti48) (s0 := (.pair (.int .i64) (.pair (.int .i64) (.pair (.int .i64) (.pair (.int .i64) (.pair (.int .i64) (.pair (.int .i64) (.pair (.int .i64) (.pair (.int .i64) .unit))))))))) rfl rfl rfl rfl) (fun _ => by kernel_rfl)
@[reducible] def ti57 : TI := { desc := .slice 60, size := 1, bytes := 24, zero := [.slice none 0 0], shp := some (.sl (.mp .i64 .bool)) }
theorem ti57_ok : TIOK Tryd.prog 57 ti57 := TIOK.of_eq (by kernel_rfl) (by kernel_rfl) rfl rfl (zshp_of (i := ti57) (s0 := (.sl (.mp .i64 .bool))) rfl rfl rfl rfl)
@[reducible] def ti59 : TI := { desc := .map 3 4, size := 1, bytes := 8, zero := [.map none], shp := some (.mp .i64 .bool) }
theorem ti59_ok : TIOK Tryd.prog 59 ti59 := TIOK.of_eq (by kernel_rfl) (by kernel_rfl) rfl rfl (zshp_of (i := ti59) (s0 := (.mp .i64 .bool)) rfl rfl rfl rfl)
@[reducible] def ti60 : TI := { desc := .map 3 4, size := 1, bytes := 8, zero := [.map none], shp := some (.mp .i64 .bool) }
theorem ti60_ok : TIOK Tryd.prog 60 ti60 := TIOK.of_eq (by kernel_rfl) (by kernel_rfl) rfl rfl (zshp_of (i := ti60) (s0 := (.mp .i64 .bool)) rfl rfl rfl rfl)
@[reducible] def ti68 : TI := { desc := .slice 4, size := 1, bytes := 24, zero := [.slice none 0 0], shp := some (.sl .bool) }
theorem ti68_ok : TIOK Tryd.prog 68 ti68 := TIOK.of_eq (by kernel_rfl) (by kernel_rfl) rfl rfl (zshp_of (i := ti68) (s0 := (.sl .bool)) rfl rfl rfl rfl)
@[reducible] def ti78 : TI := { desc := .array 7 4, size := 7, bytes := 7, zero := [.bool false, .bool false, .bool false, .bool false, .bool false, .bool false, .bool false], shp := some (.arr 7 .bool) }
theorem ti78_ok : TIOK Tryd.prog 78 ti78 := TIOK.of_eq (by kernel_rfl) (by kernel_rfl) rfl rfl (zshp_of (i := ti78) (s0 := (.arr 7 .bool)) rfl rfl rfl rfl)
@[reducible] def ti79 : TI := { desc := .struct #[fld 9 0, fld 78 1], size := 8, bytes := 24, zero := [.string ⟨#[]⟩, .bool false, .bool false, .bool false, .bool false, .bool false, .bool false, .bool false], shp := some (.pair .str (.pair (.arr 7 .bool) .unit)) }
theorem ti79_ok : TIOK Tryd.prog 79 ti79 := TIOK.of_eq (by kernel_rfl) (by kernel_rfl) rfl rfl (zshp_of (i := ti79) (s0 := (.pair .str (.pair (.arr 7 .bool) .unit))) rfl rfl rfl rfl)
@[reducible] def ti80 : TI := { desc := .struct #[fld 9 0, fld 78 1], size := 8, bytes := 24, zero := [.string ⟨#[]⟩, .bool false, .bool false, .bool false, .bool false, .bool false, .bool false, .bool false], shp := some (.pair .str (.pair (.arr 7 .bool) .unit)) }
theorem ti80_ok : TIOK Tryd.prog 80 ti80 := TIOK.of_eq (by kernel_rfl) (by kernel_rfl) rfl rfl (zshp_of (i := ti80) (s0 := (.pair .str (.pair (.arr 7 .bool) .unit))) rfl rfl rfl rfl)
@[reducible] def ti81 : TI := { desc := .array 22 80, size := 176, bytes := 528, zero := [.string ⟨#[]⟩, .bool false, .bool false, .bool false, .bool false, .bool false, .bool false, .bool false, .string ⟨#[]⟩, .bool false, .bool false, .bool false, .bool false, .bool false, .bool false, .bool false, .string ⟨#[]⟩, .bool false, .bool false, .bool false, .bool false, .bool false, .bool false, .bool false, .string ⟨#[]⟩, .bool false, .bool false, .bool false, .bool false, .bool false, .bool false, .bool false, .string ⟨#[]⟩, .bool false, .bool false, .bool false, .bool false, .bool false, .bool false, .bool false, .string ⟨#[]⟩, .bool false, .bool false, .bool false, .bool false, .bool false, .bool false, .bool false, .string ⟨#[]⟩, .bool false, .bool false, .bool false, .bool false, .bool false, .bool false, .bool false, .string ⟨#[]⟩, .bool false, .bool false, .bool false, .bool false, .bool false, .bool false, .bool false, .string ⟨#[]⟩, .bool false, .bool false, .bool false, .bool false, .bool false, .bool false, .bool false, .string ⟨#[]⟩, .bool false, .bool false, .bool false, .bool false, .bool false, .bool false, .bool false, .string ⟨#[]⟩, .bool false, .bool false, .bool false, .bool false, .bool false, .bool false, .bool false, .string ⟨#[]⟩, .bool false, .bool false, .bool false, .bool false, .bool false, .bool false, .bool false, .string ⟨#[]⟩, .bool false, .bool false, .bool false, .bool false, .bool false, .bool false, .bool false, .string ⟨#[]⟩, .bool false, .bool false, .bool false, .bool false, .bool false, .bool false, .bool false, .string ⟨#[]⟩, .bool false, .bool false, .bool false, .bool false, .bool false, .bool false, .bool false, .string ⟨#[]⟩, .bool false, .bool false, .bool false, .bool false, .bool false, .bool false, .bool false, .string ⟨#[]⟩, .bool false, .bool false, .bool false, .bool false, .bool false, .bool false, .bool false, .string ⟨#[]⟩, .bool false, .bool false, .bool false, .bool false, .bool false, .bool false, .bool false, .string ⟨#[]⟩, .bool false, .bool false, .bool false, .bool false, .bool false, .bool false, .bool false, .string ⟨#[]⟩, .bool false, .bool false, .bool false, .bool false, .bool false, .bool false, .bool false, .string ⟨#[]⟩, .bool false, .bool false, .bool false, .bool false, .bool false, .bool false, .bool false, .string ⟨#[]⟩, .bool false, .bool false, .bool false, .bool false, .bool false, .bool false, .bool false], shp := some (.arr 22 (.pair .str (.pair (.arr 7 .bool) .unit))) }
theorem ti81_ok : TIOK Tryd.prog 81 ti81 := TIOK.of_eq (by kernel_rfl) (by kernel_rfl) rfl rfl (zshp_of (i := ti81) (s0 := (.arr 22 (.pair .str (.pair (.arr 7 .bool) .unit)))) rfl rfl rfl rfl)
@[reducible] def ti83 : TI := { desc := .slice 9, size := 1, bytes := 24, zero := [.slice none 0 0], shp := some (.sl .str) }
theorem ti83_ok : TIOK Tryd.prog 83 ti83 := TIOK.of_eq (by kernel_rfl) (by kernel_rfl) rfl rfl (zshp_of (i := ti83) (s0 := (.sl .str)) rfl rfl rfl rfl)
@[reducible] def ti87 : TI := { desc := .array 7 3, size := 7, bytes := 56, zero := [.int .i64 0, .int .i64 0, .int .i64 0, .int .i64 0, .int .i64 0, .int .i64 0, .int .i64 0], shp := some (.arr 7 (.int .i64)), eqf := [.i] }
theorem ti87_ok : TIOK Tryd.prog 87 ti87 := TIOK.of_eq (by kernel_rfl) (by kernel_rfl) rfl rfl (zshp_of (i := ti87) (s0 := (.arr 7 (.int .i64))) rfl rfl rfl rfl) (fun _ => by kernel_rfl)
@[reducible] def ti89 : TI := { desc := .array 3 3, size := 3, bytes := 24, zero := [.int .i64 0, .int .i64 0, .int .i64 0], shp := some (.arr 3 (.int .i64)), eqf := [.i] }
theorem ti89_ok : TIOK Tryd.prog 89 ti89 := TIOK.of_eq (by kernel_rfl) (by kernel_rfl) rfl rfl (zshp_of (i := ti89) (s0 := (.arr 3 (.int .i64))) rfl rfl rfl rfl) (fun _ => by kernel_rfl)
@[reducible] def ti92 : TI := { desc := .int .u64, size := 1, bytes := 8, zero := [.int .u64 0], shp := some (.int .u64) }
theorem ti92_ok : TIOK Tryd.prog 92 ti92 := TIOK.of_eq (by kernel_rfl) (by kernel_rfl) rfl rfl (zshp_of (i := ti92) (s0 := (.int .u64)) rfl rfl rfl rfl)
@[reducible] def ti93 : TI := { desc := .array 10 9, size := 10, bytes := 160, zero := [.string ⟨#[]⟩, .string ⟨#[]⟩, .string ⟨#[]⟩, .string ⟨#[]⟩, .string ⟨#[]⟩, .string ⟨#[]⟩, .string ⟨#[]⟩, .string ⟨#[]⟩, .string ⟨#[]⟩, .string ⟨#[]⟩], shp := some (.arr 10 .str) }
theorem ti93_ok : TIOK Tryd.prog 93 ti93 := TIOK.of_eq (by kernel_rfl) (by kernel_rfl) rfl rfl (zshp_of (i := ti93) (s0 := (.arr 10 .str)) rfl rfl rfl rfl)
@[reducible] def ti104 : TI := { desc := .int .u32, size := 1, bytes := 4, zero := [.int .u32 0], shp := some (.int .u32) }
theorem ti104_ok : TIOK Tryd.prog 104 ti104 := TIOK.of_eq (by kernel_rfl) (by kernel_rfl) rfl rfl (zshp_of (i := ti104) (s0 := (.int .u32)) rfl rfl rfl rfl)
@[reducible] def ti106 : TI := { desc := .int .u64, size := 1, bytes := 8, zero := [.int .u64 0], shp := some (.int .u64) }
theorem ti106_ok : TIOK Tryd.prog 106 ti106 := TIOK.of_eq (by kernel_rfl) (by kernel_rfl) rfl rfl (zshp_of (i := ti106) (s0 := (.int .u64)) rfl rfl rfl rfl)
@[reducible] def tis : List (Nat × TI) := [(3, ti3), (4, ti4), (5, ti5), (9, ti9), (22, ti22), (23, ti23), (24, ti24), (26, ti26), (27, ti27), (34, ti34), (44, ti44), (45, ti45), (46, ti46), (47, ti47), (48, ti48), (57, ti57), (59, ti59), (60, ti60), (68, ti68), (78, ti78), (79, ti79), (80, ti80), (81, ti81), (83, ti83), (87, ti87), (89, ti89), (92, ti92), (93, ti93), (104, ti104), (106, ti106)]
theorem tis_ok : TisOK Tryd.prog tis := ⟨ti3_ok, ti4_ok, ti5_ok, ti9_ok, ti22_ok, ti23_ok, ti24_ok, ti26_ok, ti27_ok, ti34_ok, ti44_ok, ti45_ok, ti46_ok, ti47_ok, ti48_ok, ti57_ok, ti59_ok, ti60_ok, ti68_ok, ti78_ok, ti79_ok, ti80_ok, ti81_ok, ti83_ok, ti87_ok, ti89_ok, ti92_ok, ti93_ok, ti104_ok, ti106_ok, trivial⟩
end Go.Proofs.YtpfdgbddpdngbaaDoor
set_option linter.unusedSimpArgs false
set_option linter.unusedVariables false
set_option maxRecDepth 100000
namespace Go.Proofs.YtpfdgbddpdngbaaDoor
open Go Go.Eng

theorem ex_of {α : Type 1} {Q : α → Prop} {V : Prop} (a : α) (v : V) (h : V = Q a) : ∃ a, Q a := ⟨a, cast h v⟩
theorem br_dt {p : Prop} [Decidable p] {X Y : Prop} (h : p) : br (decide p) X Y = X := by simp [br, h]
theorem br_df {p : Prop} [Decidable p] {X Y : Prop} (h : ¬ p) : br (decide p) X Y = Y := by simp [br, h]
def mnsD : List ByteArray := [⟨#[99, 111, 110, 115, 116]⟩, ⟨#[99, 111, 112, 121]⟩, ⟨#[99, 97, 108, 99]⟩, ⟨#[106, 117, 109, 112]⟩, ⟨#[98, 114, 97, 110, 99, 104]⟩, ⟨#[97, 115, 115, 101, 114, 116]⟩, ⟨#[115, 116, 111, 112]⟩, ⟨#[108, 111, 97, 100]⟩, ⟨#[115, 116, 111, 114, 101]⟩, ⟨#[115, 119, 97, 112]⟩, ⟨#[102, 101, 116, 99, 104, 97, 100, 100]⟩, ⟨#[99, 97, 115]⟩, ⟨#[102, 101, 110, 99, 101]⟩, ⟨#[97, 119, 97, 105, 116]⟩, ⟨#[108, 111, 99, 107]⟩, ⟨#[117, 110, 108, 111, 99, 107]⟩, ⟨#[116, 114, 121, 108, 111, 99, 107]⟩, ⟨#[119, 97, 105, 116]⟩, ⟨#[115, 105, 103, 110, 97, 108]⟩, ⟨#[98, 114, 111, 97, 100, 99, 97, 115, 116]⟩, ⟨#[115, 112, 97, 119, 110]⟩, ⟨#[106, 111, 105, 110]⟩]
def useT : List (List Bool) := [[true, false, false, false, true, false, false], [true, true, false, false, false, false, false], [true, true, true, false, false, true, false], [false, false, false, false, true, false, false], [false, true, false, false, true, false, false], [false, true, false, false, false, false, false], [false, false, false, false, false, false, false], [true, false, false, true, false, false, true], [false, true, false, true, false, false, true], [true, true, false, true, false, false, true], [true, true, false, true, false, false, true], [true, true, true, true, false, false, true], [false, false, false, false, false, false, false], [true, true, false, true, false, true, true], [false, false, false, true, false, false, false], [false, false, false, true, false, false, false], [true, false, false, true, false, false, false], [false, false, false, true, true, false, false], [false, false, false, true, false, false, false], [false, false, false, true, false, false, false], [true, true, false, true, false, false, false], [false, true, false, false, false, false, false]]
def fieldsD : List ByteArray := [⟨#[65, 78]⟩, ⟨#[65, 66]⟩, ⟨#[70, 65, 66, 67]⟩, ⟨#[78]⟩, ⟨#[66, 78]⟩, ⟨#[66]⟩, ⟨#[]⟩, ⟨#[65, 79, 82]⟩, ⟨#[79, 66, 82]⟩, ⟨#[65, 79, 66, 82]⟩, ⟨#[65, 79, 66, 82]⟩, ⟨#[65, 79, 66, 67, 82]⟩, ⟨#[]⟩, ⟨#[65, 79, 70, 66, 82]⟩, ⟨#[79]⟩, ⟨#[79]⟩, ⟨#[65, 79]⟩, ⟨#[79, 78]⟩, ⟨#[79]⟩, ⟨#[79]⟩, ⟨#[65, 79, 66]⟩, ⟨#[66]⟩]
def ordersD : List ByteArray := [⟨#[112, 108, 97, 105, 110]⟩, ⟨#[114, 101, 108, 97, 120, 101, 100]⟩, ⟨#[114, 101, 108, 97, 99, 113]⟩]
def namesD : List ByteArray := [⟨#[97, 100, 100]⟩, ⟨#[115, 117, 98]⟩, ⟨#[109, 117, 108]⟩, ⟨#[97, 110, 100]⟩, ⟨#[111, 114]⟩, ⟨#[120, 111, 114]⟩, ⟨#[101, 113]⟩, ⟨#[110, 101]⟩, ⟨#[108, 116]⟩, ⟨#[108, 101]⟩]
def rowsD : List (ByteArray × List Bool × Unit) := [(⟨#[99, 111, 110, 115, 116]⟩, [true, false, false, false, true, false, false], ()), (⟨#[99, 111, 112, 121]⟩, [true, true, false, false, false, false, false], ()), (⟨#[99, 97, 108, 99]⟩, [true, true, true, false, false, true, false], ()), (⟨#[106, 117, 109, 112]⟩, [false, false, false, false, true, false, false], ()), (⟨#[98, 114, 97, 110, 99, 104]⟩, [false, true, false, false, true, false, false], ()), (⟨#[97, 115, 115, 101, 114, 116]⟩, [false, true, false, false, false, false, false], ()), (⟨#[115, 116, 111, 112]⟩, [false, false, false, false, false, false, false], ()), (⟨#[108, 111, 97, 100]⟩, [true, false, false, true, false, false, true], ()), (⟨#[115, 116, 111, 114, 101]⟩, [false, true, false, true, false, false, true], ()), (⟨#[115, 119, 97, 112]⟩, [true, true, false, true, false, false, true], ()), (⟨#[102, 101, 116, 99, 104, 97, 100, 100]⟩, [true, true, false, true, false, false, true], ()), (⟨#[99, 97, 115]⟩, [true, true, true, true, false, false, true], ()), (⟨#[102, 101, 110, 99, 101]⟩, [false, false, false, false, false, false, false], ()), (⟨#[97, 119, 97, 105, 116]⟩, [true, true, false, true, false, true, true], ()), (⟨#[108, 111, 99, 107]⟩, [false, false, false, true, false, false, false], ()), (⟨#[117, 110, 108, 111, 99, 107]⟩, [false, false, false, true, false, false, false], ()), (⟨#[116, 114, 121, 108, 111, 99, 107]⟩, [true, false, false, true, false, false, false], ()), (⟨#[119, 97, 105, 116]⟩, [false, false, false, true, true, false, false], ()), (⟨#[115, 105, 103, 110, 97, 108]⟩, [false, false, false, true, false, false, false], ()), (⟨#[98, 114, 111, 97, 100, 99, 97, 115, 116]⟩, [false, false, false, true, false, false, false], ()), (⟨#[115, 112, 97, 119, 110]⟩, [true, true, false, true, false, false, false], ()), (⟨#[106, 111, 105, 110]⟩, [false, true, false, false, false, false, false], ())]
@[reducible] def gd0 : Nat → Option (Sigma Sh.den) := fun g => match g with
  | 0 => some ⟨.arr 22 (.pair .str (.pair (.arr 7 .bool) .unit)), rowsD⟩
  | 1 => some ⟨.arr 10 .str, namesD⟩
  | _ => none
@[reducible] def cx0 : Cx := { ti := tis, gd := gd0 }
@[reducible] def shI : Sh := .pair (.int .i64) (.pair (.int .i64) (.pair (.int .i64) (.pair (.int .i64) (.pair (.int .i64) (.pair (.int .i64) (.pair (.int .i64) (.pair (.int .i64) .unit)))))))
@[reducible] def aggI (op a b c obj n fn ord : Int) : SV := .agg [.v (.int .i64 op), .v (.int .i64 a), .v (.int .i64 b), .v (.int .i64 c), .v (.int .i64 obj), .v (.int .i64 n), .v (.int .i64 fn), .v (.int .i64 ord)]

/-- Whether an operation uses its field k. -/
def use (op : Int) (k : Nat) : Bool := decide (1 ≤ op) && decide (op ≤ 22) && (useT.getD (op - 1).toNat []).getD k false
def knownS (op : Int) : Bool := decide (1 ≤ op) && decide (op ≤ 22)
def nameS (f : Int) : ByteArray := if 1 ≤ f ∧ f ≤ 10 then namesD.getD (f - 1).toNat ByteArray.empty else ByteArray.empty
def mnS (op : Int) : ByteArray := if 1 ≤ op ∧ op ≤ 22 then mnsD.getD (op - 1).toNat ByteArray.empty else ByteArray.empty
def ordS (o : Int) : ByteArray := if 0 ≤ o ∧ o ≤ 2 then ordersD.getD o.toNat ByteArray.empty else ByteArray.empty
end Go.Proofs.YtpfdgbddpdngbaaDoor
set_option linter.unusedSimpArgs false
set_option linter.unusedVariables false
set_option maxRecDepth 100000
namespace Go.Proofs.YtpfdgbddpdngbaaDoor
open Go Go.Eng

@[reducible] def ct43 : CT := { ps := [], pre := fun d => True, res := fun d => ([.row 9 .str fieldsD], .one (.c (.row 0))) }
@[reducible] def cl58 : List (Nat × CT) := []
@[reducible] def ann58  : Nat → Option (St → Ann) := fun _ => none
set_option maxRecDepth 100000 in
theorem f58_vc  :
    [Res.row (9 : TypeId) Sh.str fieldsD] = [Res.row (9 : TypeId) Sh.str [{ data := #[(65 : UInt8), (78 : UInt8)] : ByteArray }, { data := #[(65 : UInt8), (66 : UInt8)] : ByteArray }, { data := #[(70 : UInt8), (65 : UInt8), (66 : UInt8), (67 : UInt8)] : ByteArray }, { data := #[(78 : UInt8)] : ByteArray }, { data := #[(66 : UInt8), (78 : UInt8)] : ByteArray }, { data := #[(66 : UInt8)] : ByteArray }, { data := #[] : ByteArray }, { data := #[(65 : UInt8), (79 : UInt8), (82 : UInt8)] : ByteArray }, { data := #[(79 : UInt8), (66 : UInt8), (82 : UInt8)] : ByteArray }, { data := #[(65 : UInt8), (79 : UInt8), (66 : UInt8), (82 : UInt8)] : ByteArray }, { data := #[(65 : UInt8), (79 : UInt8), (66 : UInt8), (82 : UInt8)] : ByteArray }, { data := #[(65 : UInt8), (79 : UInt8), (66 : UInt8), (67 : UInt8), (82 : UInt8)] : ByteArray }, { data := #[] : ByteArray }, { data := #[(65 : UInt8), (79 : UInt8), (70 : UInt8), (66 : UInt8), (82 : UInt8)] : ByteArray }, { data := #[(79 : UInt8)] : ByteArray }, { data := #[(79 : UInt8)] : ByteArray }, { data := #[(65 : UInt8), (79 : UInt8)] : ByteArray }, { data := #[(79 : UInt8), (78 : UInt8)] : ByteArray }, { data := #[(79 : UInt8)] : ByteArray }, { data := #[(79 : UInt8)] : ByteArray }, { data := #[(65 : UInt8), (79 : UInt8), (66 : UInt8)] : ByteArray }, { data := #[(66 : UInt8)] : ByteArray }]] ∧ Ent.one (SV.c (SC.row (0 : Nat))) = Ent.one (SV.c (SC.row (0 : Nat))) := by
  exact ⟨rfl, rfl⟩
set_option maxHeartbeats 2000000 in
set_option maxRecDepth 100000 in
theorem f58_met : Go.Eng.Met Tryd.prog cx0.gd 58 ct43 :=
  met_of (cx := cx0) (n := 2) (cl := cl58) (by kernel_rfl) tis_ok trivial Tryd.func58 (by kernel_rfl) (by kernel_rfl) rfl (by kernel_rfl) (by kernel_rfl) fun d hd => by
    obtain ⟨⟩ := d
    exact ex_of (ann58 ) (f58_vc ) (by kernel_rfl)
@[reducible] def ct34 : CT := { ps := [.int .i64], pre := fun d => True, res := fun d => ([], vB (knownS d.1)) }
@[reducible] def cl63 : List (Nat × CT) := []
@[reducible] def ann63 (op : Int) : Nat → Option (St → Ann) := fun _ => none
set_option maxRecDepth 100000 in
theorem f63_vc (op : Int) :
    ([] : List Go.Eng.Res) = [] ∧ Ent.one (SV.c (SC.v (Value.bool (knownS op)))) = Ent.one (SV.c (SC.v (Value.bool (decide ((1 : Int) ≤ op) && decide (op ≤ (22 : Int)))))) := by
  exact ⟨rfl, rfl⟩
set_option maxHeartbeats 2000000 in
set_option maxRecDepth 100000 in
theorem f63_met : Go.Eng.Met Tryd.prog cx0.gd 63 ct34 :=
  met_of (cx := cx0) (n := 9) (cl := cl63) (by kernel_rfl) tis_ok trivial Tryd.func63 (by kernel_rfl) (by kernel_rfl) rfl (by kernel_rfl) (by kernel_rfl) fun d hd => by
    obtain ⟨op, ⟨⟩⟩ := d
    exact ex_of (ann63 op) (f63_vc op) (by kernel_rfl)
@[reducible] def ct37 : CT := { ps := [.int .i64], pre := fun d => True, res := fun d => ([], vB (decide (0 ≤ d.1) && decide (d.1 < 8))) }
@[reducible] def cl48 : List (Nat × CT) := []
@[reducible] def ann48 (r : Int) : Nat → Option (St → Ann) := fun _ => none
set_option maxRecDepth 100000 in
theorem f48_vc (r : Int) :
    ([] : List Go.Eng.Res) = [] ∧ Ent.one (SV.c (SC.v (Value.bool (decide ((0 : I6.den) ≤ r) && decide (r < (8 : I6.den)))))) = Ent.one (SV.c (SC.v (Value.bool (decide ((0 : Int) ≤ r) && decide (r < (8 : Int)))))) := by
  exact ⟨rfl, rfl⟩
set_option maxHeartbeats 2000000 in
set_option maxRecDepth 100000 in
theorem f48_met : Go.Eng.Met Tryd.prog cx0.gd 48 ct37 :=
  met_of (cx := cx0) (n := 9) (cl := cl48) (by kernel_rfl) tis_ok trivial Tryd.func48 (by kernel_rfl) (by kernel_rfl) rfl (by kernel_rfl) (by kernel_rfl) fun d hd => by
    obtain ⟨r, ⟨⟩⟩ := d
    exact ex_of (ann48 r) (f48_vc r) (by kernel_rfl)
@[reducible] def ct35 : CT := { ps := [shI], pre := fun d => True, res := fun d => ([], .one (.dat (.arr 7 (.int .i64)) [d.1.2.1, d.1.2.2.1, d.1.2.2.2.1, d.1.2.2.2.2.1, d.1.2.2.2.2.2.1, d.1.2.2.2.2.2.2.1, d.1.2.2.2.2.2.2.2.1])) }
@[reducible] def cl64 : List (Nat × CT) := []
@[reducible] def ann64 (op : Int) (a : Int) (b : Int) (c : Int) (obj : Int) (n : Int) (fn : Int) (ord : Int) : Nat → Option (St → Ann) := fun _ => none
set_option maxRecDepth 100000 in
theorem f64_vc (op : Int) (a : Int) (b : Int) (c : Int) (obj : Int) (n : Int) (fn : Int) (ord : Int) :
    ([] : List Go.Eng.Res) = [] ∧ Ent.one (SV.dat (Sh.arr (7 : Nat) I6) [a, b, c, obj, n, fn, ord]) = Ent.one (SV.dat (Sh.arr (7 : Nat) I6) [a, b, c, obj, n, fn, ord]) := by
  exact ⟨rfl, rfl⟩
set_option maxHeartbeats 2000000 in
set_option maxRecDepth 100000 in
theorem f64_met : Go.Eng.Met Tryd.prog cx0.gd 64 ct35 :=
  met_of (cx := cx0) (n := 18) (cl := cl64) (by kernel_rfl) tis_ok trivial Tryd.func64 (by kernel_rfl) (by kernel_rfl) rfl (by kernel_rfl) (by kernel_rfl) fun d hd => by
    obtain ⟨⟨op, a, b, c, obj, n, fn, ord, ⟨⟩⟩, ⟨⟩⟩ := d
    exact ex_of (ann64 op a b c obj n fn ord) (f64_vc op a b c obj n fn ord) (by kernel_rfl)
@[reducible] def ct36 : CT := { ps := [.int .i64], pre := fun d => True, res := fun d => ([], .one (.c (.v (.string (nameS d.1))))) }
@[reducible] def cl65 : List (Nat × CT) := []
@[reducible] def ann65 (f : Int) : Nat → Option (St → Ann) := fun _ => none
set_option maxRecDepth 100000 in
theorem f65_vc (f : Int) :
    br (decide (f < (1 : Int)) || decide ((10 : Int) < f)) (([] : List Go.Eng.Res) = [] ∧ Ent.one (SV.c (SC.v (Value.string (nameS f)))) = Ent.one (SV.c (SC.v (Value.string { data := #[] : ByteArray })))) (InR IntKind.i64 (f - (1 : Int)) ∧ ((0 : Int) ≤ f - (1 : Int) ∧ f - (1 : Int) < (10 : Int)) ∧ ∀ (d : ByteArray), namesD[(f - (1 : Int)).toNat]? = some d → ([] : List Go.Eng.Res) = [] ∧ Ent.one (SV.c (SC.v (Value.string (nameS f)))) = Ent.one (SV.c (SC.v (Value.string d)))) := by
  refine br_iff.2 ⟨fun h => ?_, fun h => ?_⟩
  · simp only [Bool.or_eq_true, decide_eq_true_eq] at h
    rw [show nameS f = ByteArray.empty from if_neg (by omega)]
    exact ⟨rfl, rfl⟩
  · simp only [Bool.or_eq_false_iff, decide_eq_false_iff_not] at h
    refine ⟨InR_i64.2 (by omega), by omega, fun d hd => ⟨rfl, ?_⟩⟩
    rw [show nameS f = namesD.getD (f - 1).toNat ByteArray.empty from if_pos (by omega), List.getD, hd]; rfl
set_option maxHeartbeats 2000000 in
set_option maxRecDepth 100000 in
theorem f65_met : Go.Eng.Met Tryd.prog cx0.gd 65 ct36 :=
  met_of (cx := cx0) (n := 13) (cl := cl65) (by kernel_rfl) tis_ok trivial Tryd.func65 (by kernel_rfl) (by kernel_rfl) rfl (by kernel_rfl) (by kernel_rfl) fun d hd => by
    obtain ⟨f, ⟨⟩⟩ := d
    exact ex_of (ann65 f) (f65_vc f) (by kernel_rfl)
@[reducible] def ct38 : CT := { ps := [.int .i64], pre := fun d => True, res := fun d => ([], .one (.c (.v (.string (nameS d.1))))) }
@[reducible] def cl57 : List (Nat × CT) := []
@[reducible] def ann57 (f : Int) : Nat → Option (St → Ann) := fun _ => none
set_option maxRecDepth 100000 in
theorem f57_vc (f : Int) :
    br (decide (f = (1 : Int))) (([] : List Go.Eng.Res) = [] ∧ Ent.one (SV.c (SC.v (Value.string (nameS f)))) = Ent.one (SV.c (SC.v (Value.string { data := #[(97 : UInt8), (100 : UInt8), (100 : UInt8)] : ByteArray })))) (br (decide (f = (2 : Int))) (([] : List Go.Eng.Res) = [] ∧ Ent.one (SV.c (SC.v (Value.string (nameS f)))) = Ent.one (SV.c (SC.v (Value.string { data := #[(115 : UInt8), (117 : UInt8), (98 : UInt8)] : ByteArray })))) (br (decide (f = (3 : Int))) (([] : List Go.Eng.Res) = [] ∧ Ent.one (SV.c (SC.v (Value.string (nameS f)))) = Ent.one (SV.c (SC.v (Value.string { data := #[(109 : UInt8), (117 : UInt8), (108 : UInt8)] : ByteArray })))) (br (decide (f = (4 : Int))) (([] : List Go.Eng.Res) = [] ∧ Ent.one (SV.c (SC.v (Value.string (nameS f)))) = Ent.one (SV.c (SC.v (Value.string { data := #[(97 : UInt8), (110 : UInt8), (100 : UInt8)] : ByteArray })))) (br (decide (f = (5 : Int))) (([] : List Go.Eng.Res) = [] ∧ Ent.one (SV.c (SC.v (Value.string (nameS f)))) = Ent.one (SV.c (SC.v (Value.string { data := #[(111 : UInt8), (114 : UInt8)] : ByteArray })))) (br (decide (f = (6 : Int))) (([] : List Go.Eng.Res) = [] ∧ Ent.one (SV.c (SC.v (Value.string (nameS f)))) = Ent.one (SV.c (SC.v (Value.string { data := #[(120 : UInt8), (111 : UInt8), (114 : UInt8)] : ByteArray })))) (br (decide (f = (7 : Int))) (([] : List Go.Eng.Res) = [] ∧ Ent.one (SV.c (SC.v (Value.string (nameS f)))) = Ent.one (SV.c (SC.v (Value.string { data := #[(101 : UInt8), (113 : UInt8)] : ByteArray })))) (br (decide (f = (8 : Int))) (([] : List Go.Eng.Res) = [] ∧ Ent.one (SV.c (SC.v (Value.string (nameS f)))) = Ent.one (SV.c (SC.v (Value.string { data := #[(110 : UInt8), (101 : UInt8)] : ByteArray })))) (br (decide (f = (9 : Int))) (([] : List Go.Eng.Res) = [] ∧ Ent.one (SV.c (SC.v (Value.string (nameS f)))) = Ent.one (SV.c (SC.v (Value.string { data := #[(108 : UInt8), (116 : UInt8)] : ByteArray })))) (br (decide (f = (10 : Int))) (([] : List Go.Eng.Res) = [] ∧ Ent.one (SV.c (SC.v (Value.string (nameS f)))) = Ent.one (SV.c (SC.v (Value.string { data := #[(108 : UInt8), (101 : UInt8)] : ByteArray })))) (([] : List Go.Eng.Res) = [] ∧ Ent.one (SV.c (SC.v (Value.string (nameS f)))) = Ent.one (SV.c (SC.v (Value.string { data := #[] : ByteArray }))))))))))))) := by
  by_cases h : 1 ≤ f ∧ f ≤ 10
  · have : f = 1 ∨ f = 2 ∨ f = 3 ∨ f = 4 ∨ f = 5 ∨ f = 6 ∨ f = 7 ∨ f = 8 ∨ f = 9 ∨ f = 10 := by omega
    rcases this with rfl | rfl | rfl | rfl | rfl | rfl | rfl | rfl | rfl | rfl <;> exact ⟨rfl, rfl⟩
  · have e : nameS f = ByteArray.empty := if_neg h
    rw [e]
    rw [show decide (f = 1) = false from decide_eq_false (by omega)]
    rw [show decide (f = 2) = false from decide_eq_false (by omega)]
    rw [show decide (f = 3) = false from decide_eq_false (by omega)]
    rw [show decide (f = 4) = false from decide_eq_false (by omega)]
    rw [show decide (f = 5) = false from decide_eq_false (by omega)]
    rw [show decide (f = 6) = false from decide_eq_false (by omega)]
    rw [show decide (f = 7) = false from decide_eq_false (by omega)]
    rw [show decide (f = 8) = false from decide_eq_false (by omega)]
    rw [show decide (f = 9) = false from decide_eq_false (by omega)]
    rw [show decide (f = 10) = false from decide_eq_false (by omega)]
    exact ⟨rfl, rfl⟩
set_option maxHeartbeats 2000000 in
set_option maxRecDepth 100000 in
theorem f57_met : Go.Eng.Met Tryd.prog cx0.gd 57 ct38 :=
  met_of (cx := cx0) (n := 24) (cl := cl57) (by kernel_rfl) tis_ok trivial Tryd.func57 (by kernel_rfl) (by kernel_rfl) rfl (by kernel_rfl) (by kernel_rfl) fun d hd => by
    obtain ⟨f, ⟨⟩⟩ := d
    exact ex_of (ann57 f) (f57_vc f) (by kernel_rfl)
def hasF (op c : Int) : Bool := decide (1 ≤ op) && decide (op ≤ 22) && ((fieldsD.getD (op - 1).toNat ByteArray.empty).data.toList.any fun b => decide ((b.toNat : Int) = c))
@[reducible] def ct33 : CT := { ps := [.int .i64, .int .u8], pre := fun d => True, res := fun d => ([], vB (hasF d.1 d.2.1)) }
@[reducible] def cl46 : List (Nat × CT) := [(58, ct43)]
@[reducible] def ann46 (op : Int) (c : Int) : Nat → Option (St → Ann) := fun k => match k with
  | 5 => some fun s => .inv { α := Nat, slots := fun k => [(6, .c (.v (.int .i64 k)))], res := fun _ => [], inv := fun k => k ≤ (slotS s 5).size ∧ ∀ j, j < k → ∀ b, (slotS s 5)[j]? = some b → ¬ ((b.toNat : Int) = c), meas := fun k => (slotS s 5).size - k }
  | _ => none
set_option maxRecDepth 100000 in
theorem f46_vc (op : Int) (c : Int) :
    br (decide (op < (1 : Int)) || decide ((22 : Int) < op)) (([] : List Go.Eng.Res) = [] ∧ Ent.one (SV.c (SC.v (Value.bool (hasF op c)))) = Ent.one (SV.c (SC.v (Value.bool false)))) (True ∧ InR IntKind.i64 (op - (1 : Int)) ∧ ((0 : Int) ≤ op - (1 : Int) ∧ op - (1 : Int) < (22 : Int)) ∧ (op - (1 : Int)).toNat < (22 : Nat) ∧ ∀ (d : ByteArray), fieldsD[(op - (1 : Int)).toNat]? = some d → (∃ x, (x ≤ d.size ∧ ∀ (j : Nat), j < x → ∀ (b : UInt8), d[j]? = some b → ¬(↑b.toNat : Int) = c) ∧ (SV.c (v6 ((0 : Int))) = SV.c (v6 ((↑x : Int))) ∧ True) ∧ [(([] : Go.Eng.Gd), Res.row (9 : TypeId) Sh.str fieldsD)] = [(([] : Go.Eng.Gd), Res.row (9 : TypeId) Sh.str fieldsD)]) ∧ ∀ (x : Nat), (x ≤ d.size ∧ ∀ (j : Nat), j < x → ∀ (b : UInt8), d[j]? = some b → ¬(↑b.toNat : Int) = c) → br (decide ((↑x : Int) < (↑d.size : Int))) (((0 : Int) ≤ (↑x : Int) ∧ (↑x : Int) < (↑d.size : Int)) ∧ ∀ (u : UInt8), d[(↑x : Int).toNat]? = some u → br (decide ((↑u.toNat : Int) = c)) (([] : List Go.Eng.Res) = [] ∧ Ent.one (SV.c (SC.v (Value.bool (hasF op c)))) = Ent.one (SV.c (SC.v (Value.bool true)))) (InR IntKind.i64 ((↑x : Int) + (1 : Int)) ∧ ∃ x', (x' ≤ d.size ∧ ∀ (j : Nat), j < x' → ∀ (b : UInt8), d[j]? = some b → ¬(↑b.toNat : Int) = c) ∧ (SV.c (v6 (((↑x : Int) + (1 : Int)))) = SV.c (v6 ((↑x' : Int))) ∧ True) ∧ [(([] : Go.Eng.Gd), Res.row (9 : TypeId) Sh.str fieldsD)] = [(([] : Go.Eng.Gd), Res.row (9 : TypeId) Sh.str fieldsD)] ∧ d.size - x' < d.size - x)) (([] : List Go.Eng.Res) = [] ∧ Ent.one (SV.c (SC.v (Value.bool (hasF op c)))) = Ent.one (SV.c (SC.v (Value.bool false))))) := by
  refine br_iff.2 ⟨fun h => ?_, fun h => ?_⟩
  · simp only [Bool.or_eq_true, decide_eq_true_eq] at h
    have : hasF op c = false := by
      unfold hasF
      by_cases h1 : 1 ≤ op <;> by_cases h2 : op ≤ 22 <;> simp [h1, h2]
      omega
    rw [this]; exact ⟨rfl, rfl⟩
  · simp only [Bool.or_eq_false_iff, decide_eq_false_iff_not] at h
    refine ⟨trivial, InR_i64.2 (by omega), by omega, by omega, fun d hd => ⟨⟨0, ⟨by omega, fun j hj => by omega⟩, ⟨rfl, trivial⟩, rfl⟩, fun x hx => ?_⟩⟩
    have e : hasF op c = d.data.toList.any fun b => decide ((b.toNat : Int) = c) := by
      unfold hasF
      rw [List.getD, hd]
      simp [show 1 ≤ op by omega, show op ≤ 22 by omega]
    have hs : d.size ≤ 9 := (show ∀ d ∈ fieldsD, d.size ≤ 9 by decide) d (List.mem_of_getElem? hd)
    have get : ∀ j : Nat, d[j]? = d.data.toList[j]? := ba_get d
    refine br_iff.2 ⟨fun hlt => ⟨by simp only [decide_eq_true_eq] at hlt; omega, fun u hu => br_iff.2 ⟨fun hc => ?_, fun hc => ?_⟩⟩, fun hge => ?_⟩
    · simp only [decide_eq_true_eq] at hc
      have hm : u ∈ d.data.toList := List.mem_of_getElem? (i := x) (by rw [← get]; simpa using hu)
      rw [e, List.any_eq_true.2 ⟨u, hm, by simpa using hc⟩]
      exact ⟨rfl, rfl⟩
    · simp only [decide_eq_false_iff_not] at hc
      simp only [decide_eq_true_eq] at hlt
      refine ⟨InR_i64.2 (by omega), x + 1, ⟨by omega, fun j hj b hb => ?_⟩, ⟨by simp, trivial⟩, rfl, by omega⟩
      by_cases hjx : j = x
      · subst hjx
        have : some u = some b := by rw [← hu, ← hb]; simp
        cases this; exact hc
      · exact hx.2 j (by omega) b hb
    · simp only [decide_eq_false_iff_not] at hge
      have : hasF op c = false := by
        rw [e, List.any_eq_false]
        intro b hb
        obtain ⟨j, hj⟩ := List.getElem?_of_mem hb
        have hj' : j < d.data.toList.length := (List.getElem?_eq_some_iff.1 hj).1
        have hsz : d.data.toList.length = d.size := by cases d; simp [ByteArray.size]
        simpa using hx.2 j (by omega) b (by rw [get]; exact hj)
      rw [this]
      exact ⟨rfl, rfl⟩
set_option maxHeartbeats 2000000 in
set_option maxRecDepth 100000 in
theorem f46_met : Go.Eng.Met Tryd.prog cx0.gd 46 ct33 :=
  met_of (cx := cx0) (n := 29) (cl := cl46) (by kernel_rfl) tis_ok ⟨f58_met, trivial⟩ Tryd.func46 (by kernel_rfl) (by kernel_rfl) rfl (by kernel_rfl) (by kernel_rfl) fun d hd => by
    obtain ⟨op, c, ⟨⟩⟩ := d
    exact ex_of (ann46 op c) (f46_vc op c) (by kernel_rfl)
def regS (r : Int) : Bool := decide (0 ≤ r) && decide (r < 8)
/-- The first error of an instruction. -/
def chkS (op a b c obj n fn ord : Int) : Int :=
  if knownS op = false then 8 else
  if (!use op 0 && a != 0 || !use op 1 && b != 0 || !use op 2 && c != 0 || !use op 3 && obj != 0 || !use op 4 && n != 0 || !use op 5 && fn != 0 || !use op 6 && ord != 0) = true then 9 else
  if (!regS a || !regS b || !regS c) = true then 10 else
  if (decide (ord < 0) || decide (2 < ord)) = true then 13 else
  if (use op 5 && decide (nameS fn = (⟨#[]⟩ : ByteArray))) = true then 8 else
  if (decide (op = 1) && (decide (n < -2147483648) || decide (2147483647 < n))) = true then 2 else 0
theorem rows_use {op : Int} {nm : ByteArray} {us : List Bool} {u : Unit} (hb : 1 ≤ op ∧ op ≤ 22) (hd : rowsD[(op - 1).toNat]? = some (nm, us, u)) :
    us = [use op 0, use op 1, use op 2, use op 3, use op 4, use op 5, use op 6] := by
  have key : ∀ k : Fin 22, (rowsD[k.1]?).map (fun r => r.2.1) = some ([0, 1, 2, 3, 4, 5, 6].map fun j => (useT.getD k.1 []).getD j false) := by decide
  have h1 := key ⟨(op - 1).toNat, by omega⟩
  simp only at h1
  rw [hd] at h1
  simp only [Option.map_some, Option.some.injEq] at h1
  rw [h1]
  simp [use, hb.1, hb.2]
@[reducible] def ct11 : CT := { ps := [shI], pre := fun d => True, res := fun d => ([], .one (.c (.v (.int .i64 (chkS d.1.1 d.1.2.1 d.1.2.2.1 d.1.2.2.2.1 d.1.2.2.2.2.1 d.1.2.2.2.2.2.1 d.1.2.2.2.2.2.2.1 d.1.2.2.2.2.2.2.2.1))))) }
@[reducible] def cl55 : List (Nat × CT) := [(63, ct34), (64, ct35), (65, ct36)]
@[reducible] def ann55 (op : Int) (a : Int) (b : Int) (c : Int) (obj : Int) (n : Int) (fn : Int) (ord : Int) : Nat → Option (St → Ann) := fun k => match k with
  | 5 => some fun _ => .unroll 8
  | 11 => some fun _ => .unroll 4
  | _ => none
set_option maxRecDepth 100000 in
theorem f55_vc (op : Int) (a : Int) (b : Int) (c : Int) (obj : Int) (n : Int) (fn : Int) (ord : Int) :
    True ∧ br (!knownS op) (([] : List Go.Eng.Res) = [] ∧ Ent.one (SV.c (v6 ((chkS op a b c obj n fn ord)))) = Ent.one (SV.c (v6 ((8 : Int))))) (InR IntKind.i64 (op - (1 : Int)) ∧ ((0 : Int) ≤ op - (1 : Int) ∧ op - (1 : Int) < (22 : Int)) ∧ ∀ (d : Sh.str.den × ((Sh.arr (7 : Nat) Sh.bool).pair Sh.unit).den), rowsD[(op - (1 : Int)).toNat]? = some d → True ∧ ((0 : Int) ≤ (0 : Int) ∧ (0 : Int) < (↑[a, b, c, obj, n, fn, ord].length : Int)) ∧ ∀ (d_1 : Int), [a, b, c, obj, n, fn, ord][(0 : Nat)]? = some d_1 → ((0 : Int) ≤ (0 : Int) ∧ (0 : Int) < (7 : Int)) ∧ (0 : Nat) < (7 : Nat) ∧ ∀ (d_2 : Bool), (d.snd.fst, (7 : Nat), (0 : Nat)).fst[(0 : Nat)]? = some d_2 → br (!d_2 && !decide (d_1 = (0 : Int))) (([] : List Go.Eng.Res) = [] ∧ Ent.one (SV.c (v6 ((chkS op a b c obj n fn ord)))) = Ent.one (SV.c (v6 ((9 : Int))))) (InR IntKind.i64 (1 : Int) ∧ ((0 : Int) ≤ (1 : Int) ∧ (1 : Int) < (↑[a, b, c, obj, n, fn, ord].length : Int)) ∧ ∀ (d_3 : Int), [a, b, c, obj, n, fn, ord][(1 : Nat)]? = some d_3 → ((0 : Int) ≤ (1 : Int) ∧ (1 : Int) < (7 : Int)) ∧ (1 : Nat) < (7 : Nat) ∧ ∀ (d_4 : Bool), (d.snd.fst, (7 : Nat), (0 : Nat)).fst[(1 : Nat)]? = some d_4 → br (!d_4 && !decide (d_3 = (0 : Int))) (([] : List Go.Eng.Res) = [] ∧ Ent.one (SV.c (v6 ((chkS op a b c obj n fn ord)))) = Ent.one (SV.c (v6 ((9 : Int))))) (InR IntKind.i64 (2 : Int) ∧ ((0 : Int) ≤ (2 : Int) ∧ (2 : Int) < (↑[a, b, c, obj, n, fn, ord].length : Int)) ∧ ∀ (d_5 : Int), [a, b, c, obj, n, fn, ord][(2 : Nat)]? = some d_5 → ((0 : Int) ≤ (2 : Int) ∧ (2 : Int) < (7 : Int)) ∧ (2 : Nat) < (7 : Nat) ∧ ∀ (d_6 : Bool), (d.snd.fst, (7 : Nat), (0 : Nat)).fst[(2 : Nat)]? = some d_6 → br (!d_6 && !decide (d_5 = (0 : Int))) (([] : List Go.Eng.Res) = [] ∧ Ent.one (SV.c (v6 ((chkS op a b c obj n fn ord)))) = Ent.one (SV.c (v6 ((9 : Int))))) (InR IntKind.i64 (3 : Int) ∧ ((0 : Int) ≤ (3 : Int) ∧ (3 : Int) < (↑[a, b, c, obj, n, fn, ord].length : Int)) ∧ ∀ (d_7 : Int), [a, b, c, obj, n, fn, ord][(3 : Nat)]? = some d_7 → ((0 : Int) ≤ (3 : Int) ∧ (3 : Int) < (7 : Int)) ∧ (3 : Nat) < (7 : Nat) ∧ ∀ (d_8 : Bool), (d.snd.fst, (7 : Nat), (0 : Nat)).fst[(3 : Nat)]? = some d_8 → br (!d_8 && !decide (d_7 = (0 : Int))) (([] : List Go.Eng.Res) = [] ∧ Ent.one (SV.c (v6 ((chkS op a b c obj n fn ord)))) = Ent.one (SV.c (v6 ((9 : Int))))) (InR IntKind.i64 (4 : Int) ∧ ((0 : Int) ≤ (4 : Int) ∧ (4 : Int) < (↑[a, b, c, obj, n, fn, ord].length : Int)) ∧ ∀ (d_9 : Int), [a, b, c, obj, n, fn, ord][(4 : Nat)]? = some d_9 → ((0 : Int) ≤ (4 : Int) ∧ (4 : Int) < (7 : Int)) ∧ (4 : Nat) < (7 : Nat) ∧ ∀ (d_10 : Bool), (d.snd.fst, (7 : Nat), (0 : Nat)).fst[(4 : Nat)]? = some d_10 → br (!d_10 && !decide (d_9 = (0 : Int))) (([] : List Go.Eng.Res) = [] ∧ Ent.one (SV.c (v6 ((chkS op a b c obj n fn ord)))) = Ent.one (SV.c (v6 ((9 : Int))))) (InR IntKind.i64 (5 : Int) ∧ ((0 : Int) ≤ (5 : Int) ∧ (5 : Int) < (↑[a, b, c, obj, n, fn, ord].length : Int)) ∧ ∀ (d_11 : Int), [a, b, c, obj, n, fn, ord][(5 : Nat)]? = some d_11 → ((0 : Int) ≤ (5 : Int) ∧ (5 : Int) < (7 : Int)) ∧ (5 : Nat) < (7 : Nat) ∧ ∀ (d_12 : Bool), (d.snd.fst, (7 : Nat), (0 : Nat)).fst[(5 : Nat)]? = some d_12 → br (!d_12 && !decide (d_11 = (0 : Int))) (([] : List Go.Eng.Res) = [] ∧ Ent.one (SV.c (v6 ((chkS op a b c obj n fn ord)))) = Ent.one (SV.c (v6 ((9 : Int))))) (InR IntKind.i64 (6 : Int) ∧ ((0 : Int) ≤ (6 : Int) ∧ (6 : Int) < (↑[a, b, c, obj, n, fn, ord].length : Int)) ∧ ∀ (d_13 : Int), [a, b, c, obj, n, fn, ord][(6 : Nat)]? = some d_13 → ((0 : Int) ≤ (6 : Int) ∧ (6 : Int) < (7 : Int)) ∧ (6 : Nat) < (7 : Nat) ∧ ∀ (d_14 : Bool), (d.snd.fst, (7 : Nat), (0 : Nat)).fst[(6 : Nat)]? = some d_14 → br (!d_14 && !decide (d_13 = (0 : Int))) (([] : List Go.Eng.Res) = [] ∧ Ent.one (SV.c (v6 ((chkS op a b c obj n fn ord)))) = Ent.one (SV.c (v6 ((9 : Int))))) (InR IntKind.i64 (7 : Int) ∧ ((0 : Int) ≤ (0 : Int) ∧ (0 : Int) < (↑[a, b, c].length : Int)) ∧ ∀ (d_15 : Int), [a, b, c][(0 : Nat)]? = some d_15 → ((0 : Int) ≤ (0 : Int) ∧ (0 : Int) < (7 : Int)) ∧ (0 : Nat) < (7 : Nat) ∧ ∀ (d_16 : Bool), (d.snd.fst, (7 : Nat), (0 : Nat)).fst[(0 : Nat)]? = some d_16 → br (d_16 && (decide (d_15 < (0 : Int)) || decide ((8 : Int) ≤ d_15))) (([] : List Go.Eng.Res) = [] ∧ Ent.one (SV.c (v6 ((chkS op a b c obj n fn ord)))) = Ent.one (SV.c (v6 ((10 : Int))))) (InR IntKind.i64 (1 : Int) ∧ ((0 : Int) ≤ (1 : Int) ∧ (1 : Int) < (↑[a, b, c].length : Int)) ∧ ∀ (d_17 : Int), [a, b, c][(1 : Nat)]? = some d_17 → ((0 : Int) ≤ (1 : Int) ∧ (1 : Int) < (7 : Int)) ∧ (1 : Nat) < (7 : Nat) ∧ ∀ (d_18 : Bool), (d.snd.fst, (7 : Nat), (0 : Nat)).fst[(1 : Nat)]? = some d_18 → br (d_18 && (decide (d_17 < (0 : Int)) || decide ((8 : Int) ≤ d_17))) (([] : List Go.Eng.Res) = [] ∧ Ent.one (SV.c (v6 ((chkS op a b c obj n fn ord)))) = Ent.one (SV.c (v6 ((10 : Int))))) (InR IntKind.i64 (2 : Int) ∧ ((0 : Int) ≤ (2 : Int) ∧ (2 : Int) < (↑[a, b, c].length : Int)) ∧ ∀ (d_19 : Int), [a, b, c][(2 : Nat)]? = some d_19 → ((0 : Int) ≤ (2 : Int) ∧ (2 : Int) < (7 : Int)) ∧ (2 : Nat) < (7 : Nat) ∧ ∀ (d_20 : Bool), (d.snd.fst, (7 : Nat), (0 : Nat)).fst[(2 : Nat)]? = some d_20 → br (d_20 && (decide (d_19 < (0 : Int)) || decide ((8 : Int) ≤ d_19))) (([] : List Go.Eng.Res) = [] ∧ Ent.one (SV.c (v6 ((chkS op a b c obj n fn ord)))) = Ent.one (SV.c (v6 ((10 : Int))))) (InR IntKind.i64 (3 : Int) ∧ ((0 : Int) ≤ (6 : Int) ∧ (6 : Int) < (7 : Int)) ∧ (6 : Nat) < (7 : Nat) ∧ ∀ (d_21 : Bool), (d.snd.fst, (7 : Nat), (0 : Nat)).fst[(6 : Nat)]? = some d_21 → br (d_21 && (decide (ord < (0 : Int)) || decide ((2 : Int) < ord))) (([] : List Go.Eng.Res) = [] ∧ Ent.one (SV.c (v6 ((chkS op a b c obj n fn ord)))) = Ent.one (SV.c (v6 ((13 : Int))))) (((0 : Int) ≤ (5 : Int) ∧ (5 : Int) < (7 : Int)) ∧ (5 : Nat) < (7 : Nat) ∧ ∀ (d_22 : Bool), (d.snd.fst, (7 : Nat), (0 : Nat)).fst[(5 : Nat)]? = some d_22 → (d_22 = true → True) ∧ br (d_22 && decide (nameS fn = { data := #[] : ByteArray })) (([] : List Go.Eng.Res) = [] ∧ Ent.one (SV.c (v6 ((chkS op a b c obj n fn ord)))) = Ent.one (SV.c (v6 ((8 : Int))))) (br (decide (op = (1 : Int)) && (decide (n < (-2147483648 : Int)) || decide ((2147483647 : Int) < n))) (([] : List Go.Eng.Res) = [] ∧ Ent.one (SV.c (v6 ((chkS op a b c obj n fn ord)))) = Ent.one (SV.c (v6 ((2 : Int))))) (([] : List Go.Eng.Res) = [] ∧ Ent.one (SV.c (v6 ((chkS op a b c obj n fn ord)))) = Ent.one (SV.c (v6 ((0 : Int)))))))))))))))))) := by
  refine ⟨trivial, br_iff.2 ⟨fun h => ?_, fun h => ?_⟩⟩
  · have hk : knownS op = false := by simpa using h
    rw [show chkS op a b c obj n fn ord = 8 by simp [chkS, hk]]
    exact ⟨rfl, rfl⟩
  · have hk : knownS op = true := by simpa using h
    have hb : 1 ≤ op ∧ op ≤ 22 := by simpa [knownS] using hk
    refine ⟨InR_i64.2 (by omega), by omega, fun d hd => ?_⟩
    obtain ⟨nm, us, ⟨⟩⟩ := d
    have hu := rows_use hb hd
    subst hu
    clear hd
    simp only [List.getElem?_cons_zero, List.getElem?_cons_succ, Option.some.injEq, forall_eq', br_iff, InR_i64, List.length_cons, List.length_nil, true_and, Ent.one.injEq, SV.c.injEq, SC.v.injEq, Value.int.injEq, chkS, hk, regS]
    generalize use op 0 = u0
    generalize use op 1 = u1
    generalize use op 2 = u2
    generalize use op 3 = u3
    generalize use op 4 = u4
    generalize use op 5 = u5
    generalize use op 6 = u6
    repeat' (first | apply And.intro | intro _)
    all_goals first | omega | decide | skip
    all_goals simp_all
    all_goals grind
set_option maxHeartbeats 2000000 in
set_option maxRecDepth 100000 in
theorem f55_met : Go.Eng.Met Tryd.prog cx0.gd 55 ct11 :=
  met_of (cx := cx0) (n := 89) (cl := cl55) (by kernel_rfl) tis_ok ⟨f63_met, f64_met, f65_met, trivial⟩ Tryd.func55 (by kernel_rfl) (by kernel_rfl) rfl (by kernel_rfl) (by kernel_rfl) fun d hd => by
    obtain ⟨⟨op, a, b, c, obj, n, fn, ord, ⟨⟩⟩, ⟨⟩⟩ := d
    exact ex_of (ann55 op a b c obj n fn ord) (f55_vc op a b c obj n fn ord) (by kernel_rfl)
theorem has_use (op : Int) : hasF op 65 = use op 0 ∧ hasF op 66 = use op 1 ∧ hasF op 67 = use op 2 ∧ hasF op 79 = use op 3 ∧ hasF op 78 = use op 4 ∧ hasF op 70 = use op 5 ∧ hasF op 82 = use op 6 := by
  by_cases hb : 1 ≤ op ∧ op ≤ 22
  · have key : ∀ k : Fin 22, ([65, 66, 67, 79, 78, 70, 82].map fun c : Int => (fieldsD.getD k.1 ByteArray.empty).data.toList.any fun b => decide ((b.toNat : Int) = c)) = [0, 1, 2, 3, 4, 5, 6].map fun j => (useT.getD k.1 []).getD j false := by decide
    have h1 := key ⟨(op - 1).toNat, by omega⟩
    simp only [List.map_cons, List.map_nil, List.cons.injEq, and_true] at h1
    obtain ⟨h1, h2, h3, h4, h5, h6, h7⟩ := h1
    simp only [hasF, use, hb.1, hb.2, decide_true, Bool.true_and, h1, h2, h3, h4, h5, h6, h7, and_self]
  · have : (decide (1 ≤ op) && decide (op ≤ 22)) = false := by simp only [Bool.and_eq_false_iff, decide_eq_false_iff_not]; omega
    simp only [hasF, use, this, Bool.false_and, and_self]
@[reducible] def ct12 : CT := { ps := [shI], pre := fun d => True, res := fun d => ([], .one (.c (.v (.int .i64 (chkS d.1.1 d.1.2.1 d.1.2.2.1 d.1.2.2.2.1 d.1.2.2.2.2.1 d.1.2.2.2.2.2.1 d.1.2.2.2.2.2.2.1 d.1.2.2.2.2.2.2.2.1))))) }
@[reducible] def cl45 : List (Nat × CT) := [(46, ct33), (48, ct37), (57, ct38)]
@[reducible] def ann45 (op : Int) (a : Int) (b : Int) (c : Int) (obj : Int) (n : Int) (fn : Int) (ord : Int) : Nat → Option (St → Ann) := fun _ => none
set_option maxRecDepth 100000 in
theorem f45_vc (op : Int) (a : Int) (b : Int) (c : Int) (obj : Int) (n : Int) (fn : Int) (ord : Int) :
    br (decide (op < (1 : Int)) || decide ((22 : Int) < op)) (([] : List Go.Eng.Res) = [] ∧ Ent.one (SV.c (v6 ((chkS op a b c obj n fn ord)))) = Ent.one (SV.c (v6 ((8 : Int))))) (True ∧ ((!(!hasF op (65 : Int) && !decide (a = (0 : Int)))) = true → True) ∧ ((!(!hasF op (65 : Int) && !decide (a = (0 : Int)) || !hasF op (66 : Int) && !decide (b = (0 : Int)))) = true → True) ∧ ((!(!hasF op (65 : Int) && !decide (a = (0 : Int)) || !hasF op (66 : Int) && !decide (b = (0 : Int)) || !hasF op (67 : Int) && !decide (c = (0 : Int)))) = true → True) ∧ ((!(!hasF op (65 : Int) && !decide (a = (0 : Int)) || !hasF op (66 : Int) && !decide (b = (0 : Int)) || !hasF op (67 : Int) && !decide (c = (0 : Int)) || !hasF op (79 : Int) && !decide (obj = (0 : Int)))) = true → True) ∧ ((!(!hasF op (65 : Int) && !decide (a = (0 : Int)) || !hasF op (66 : Int) && !decide (b = (0 : Int)) || !hasF op (67 : Int) && !decide (c = (0 : Int)) || !hasF op (79 : Int) && !decide (obj = (0 : Int)) || !hasF op (78 : Int) && !decide (n = (0 : Int)))) = true → True) ∧ ((!(!hasF op (65 : Int) && !decide (a = (0 : Int)) || !hasF op (66 : Int) && !decide (b = (0 : Int)) || !hasF op (67 : Int) && !decide (c = (0 : Int)) || !hasF op (79 : Int) && !decide (obj = (0 : Int)) || !hasF op (78 : Int) && !decide (n = (0 : Int)) || !hasF op (70 : Int) && !decide (fn = (0 : Int)))) = true → True) ∧ br (!hasF op (65 : Int) && !decide (a = (0 : Int)) || !hasF op (66 : Int) && !decide (b = (0 : Int)) || !hasF op (67 : Int) && !decide (c = (0 : Int)) || !hasF op (79 : Int) && !decide (obj = (0 : Int)) || !hasF op (78 : Int) && !decide (n = (0 : Int)) || !hasF op (70 : Int) && !decide (fn = (0 : Int)) || !hasF op (82 : Int) && !decide (ord = (0 : Int))) (([] : List Go.Eng.Res) = [] ∧ Ent.one (SV.c (v6 ((chkS op a b c obj n fn ord)))) = Ent.one (SV.c (v6 ((9 : Int))))) (True ∧ ((!!(decide ((0 : I6.den) ≤ a) && decide (a < (8 : I6.den)))) = true → True) ∧ ((!(!(decide ((0 : I6.den) ≤ a) && decide (a < (8 : I6.den))) || !(decide ((0 : I6.den) ≤ b) && decide (b < (8 : I6.den))))) = true → True) ∧ br (!(decide ((0 : I6.den) ≤ a) && decide (a < (8 : I6.den))) || !(decide ((0 : I6.den) ≤ b) && decide (b < (8 : I6.den))) || !(decide ((0 : I6.den) ≤ c) && decide (c < (8 : I6.den)))) (([] : List Go.Eng.Res) = [] ∧ Ent.one (SV.c (v6 ((chkS op a b c obj n fn ord)))) = Ent.one (SV.c (v6 ((10 : Int))))) (br (decide (ord < (0 : Int)) || decide ((2 : Int) < ord)) (([] : List Go.Eng.Res) = [] ∧ Ent.one (SV.c (v6 ((chkS op a b c obj n fn ord)))) = Ent.one (SV.c (v6 ((13 : Int))))) (True ∧ (hasF op (70 : Int) = true → True) ∧ br (hasF op (70 : Int) && decide (nameS fn = { data := #[] : ByteArray })) (([] : List Go.Eng.Res) = [] ∧ Ent.one (SV.c (v6 ((chkS op a b c obj n fn ord)))) = Ent.one (SV.c (v6 ((8 : Int))))) (br (decide (op = (1 : Int)) && (decide (n < (-2147483648 : Int)) || decide ((2147483647 : Int) < n))) (([] : List Go.Eng.Res) = [] ∧ Ent.one (SV.c (v6 ((chkS op a b c obj n fn ord)))) = Ent.one (SV.c (v6 ((2 : Int))))) (([] : List Go.Eng.Res) = [] ∧ Ent.one (SV.c (v6 ((chkS op a b c obj n fn ord)))) = Ent.one (SV.c (v6 ((0 : Int)))))))))) := by
  obtain ⟨e0, e1, e2, e3, e4, e5, e6⟩ := has_use op
  rw [e0, e1, e2, e3, e4, e5, e6]
  simp only [br_iff, InR_i64, true_and, Ent.one.injEq, SV.c.injEq, SC.v.injEq, Value.int.injEq, chkS, knownS, regS]
  generalize use op 0 = u0
  generalize use op 1 = u1
  generalize use op 2 = u2
  generalize use op 3 = u3
  generalize use op 4 = u4
  generalize use op 5 = u5
  generalize use op 6 = u6
  repeat' (first | apply And.intro | intro _)
  all_goals first | trivial | omega | skip
  all_goals first | grind | (simp_all <;> grind)
set_option maxHeartbeats 2000000 in
set_option maxRecDepth 100000 in
theorem f45_met : Go.Eng.Met Tryd.prog cx0.gd 45 ct12 :=
  met_of (cx := cx0) (n := 132) (cl := cl45) (by kernel_rfl) tis_ok ⟨f46_met, f48_met, f57_met, trivial⟩ Tryd.func45 (by kernel_rfl) (by kernel_rfl) rfl (by kernel_rfl) (by kernel_rfl) fun d hd => by
    obtain ⟨⟨op, a, b, c, obj, n, fn, ord, ⟨⟩⟩, ⟨⟩⟩ := d
    exact ex_of (ann45 op a b c obj n fn ord) (f45_vc op a b c obj n fn ord) (by kernel_rfl)
end Go.Proofs.YtpfdgbddpdngbaaDoor
set_option linter.unusedSimpArgs false
set_option linter.unusedVariables false
namespace Go.Proofs.YtpfdgbddpdngbaaDoor
open Go Go.Eng
def hasI (l : List Int) (x : Int) : Bool := l.any fun y => decide (y = x)
def posI (l : List Int) (x : Int) : Nat := (l.takeWhile fun y => decide (y < x)).length
def insI (l : List Int) (x : Int) : List Int := l.take (posI l x) ++ [x] ++ l.drop (posI l x)
def makeI (l : List Int) : List Int := l.foldl (fun o x => if hasI o x then o else insI o x) []
theorem insI_len (l : List Int) (x : Int) : (insI l x).length = l.length + 1 := by
  simp only [insI, List.length_append, List.length_take, List.length_drop, List.length_cons, List.length_nil]; omega
theorem makeI_len (l : List Int) : (makeI l).length ≤ l.length := by
  have : ∀ (l o : List Int), (l.foldl (fun o x => if hasI o x then o else insI o x) o).length ≤ o.length + l.length := by
    intro l
    induction l with
    | nil => intro o; simp
    | cons x l ih =>
      intro o
      simp only [List.foldl_cons, List.length_cons]
      refine Nat.le_trans (ih _) ?_
      split
      · omega
      · rw [insI_len]; omega
  have h := this l []
  rw [List.length_nil, Nat.zero_add] at h
  exact h
theorem makeI_take {l : List Int} {k : Nat} {d : Int} (hd : l[k]? = some d) : makeI (l.take (k + 1)) = if hasI (makeI (l.take k)) d then makeI (l.take k) else insI (makeI (l.take k)) d := by
  rw [List.take_add_one, hd]
  unfold makeI
  rw [Option.toList_some, List.foldl_append]
  rfl


/-- Increasing. -/
def SS (l : List Int) : Prop := l.Pairwise (· < ·)
theorem ss_ext : ∀ {l m : List Int}, SS l → SS m → (∀ x, x ∈ l ↔ x ∈ m) → l = m
  | [], [], _, _, _ => rfl
  | [], y :: m, _, _, h => by have := (h y).2 (by simp); simp at this
  | x :: l, [], _, _, h => by have := (h x).1 (by simp); simp at this
  | x :: l, y :: m, hl, hm, h => by
    obtain ⟨h1, h2⟩ := List.pairwise_cons.1 hl
    obtain ⟨h3, h4⟩ := List.pairwise_cons.1 hm
    have hxy : x = y := by
      have a := (h x).1 (by simp)
      have b := (h y).2 (by simp)
      rcases List.mem_cons.1 a with a | a
      · exact a
      · rcases List.mem_cons.1 b with b | b
        · exact b.symm
        · have := h3 x a; have := h1 y b; omega
    subst hxy
    congr 1
    refine ss_ext h2 h4 fun z => ?_
    have hz := h z
    simp only [List.mem_cons] at hz
    constructor
    · intro hh
      rcases hz.1 (.inr hh) with rfl | h5
      · have := h1 z hh; omega
      · exact h5
    · intro hh
      rcases hz.2 (.inr hh) with rfl | h5
      · have := h3 z hh; omega
      · exact h5

theorem hasI_iff {l : List Int} {x : Int} : hasI l x = true ↔ x ∈ l := by
  unfold hasI
  rw [List.any_eq_true]
  constructor
  · rintro ⟨y, h1, h2⟩; simp only [decide_eq_true_eq] at h2; subst h2; exact h1
  · intro h; exact ⟨x, h, by simp⟩
theorem hasI_false {l : List Int} {x : Int} : hasI l x = false ↔ x ∉ l := by
  rw [← hasI_iff]; simp

theorem tk_pos (l : List Int) (x : Int) : l.take (posI l x) = l.takeWhile fun y => decide (y < x) := by
  unfold posI
  induction l with
  | nil => rfl
  | cons a l ih =>
    simp only [List.takeWhile_cons]
    split
    · simp [ih]
    · simp
theorem dr_pos (l : List Int) (x : Int) : l.drop (posI l x) = l.dropWhile fun y => decide (y < x) := by
  unfold posI
  induction l with
  | nil => rfl
  | cons a l ih =>
    simp only [List.takeWhile_cons, List.dropWhile_cons]
    split
    · simp [ih]
    · simp
theorem ss_drop : ∀ {l : List Int} {x : Int}, SS l → ∀ y ∈ l.dropWhile (fun y => decide (y < x)), x ≤ y
  | [], _, _, y, h => by simp at h
  | a :: l, x, hl, y, h => by
    obtain ⟨h1, h2⟩ := List.pairwise_cons.1 hl
    simp only [List.dropWhile_cons] at h
    split at h
    · exact ss_drop h2 y h
    · rename_i hn
      simp only [decide_eq_true_eq] at hn
      rcases List.mem_cons.1 h with rfl | h
      · omega
      · have := h1 y h; omega
theorem tk_lt : ∀ {l : List Int} {x : Int}, ∀ y ∈ l.takeWhile (fun y => decide (y < x)), y < x
  | [], _, y, h => by simp at h
  | a :: l, x, y, h => by
    simp only [List.takeWhile_cons] at h
    split at h
    · rename_i hn
      simp only [decide_eq_true_eq] at hn
      rcases List.mem_cons.1 h with rfl | h
      · exact hn
      · exact tk_lt y h
    · simp at h
theorem ins_ss {l : List Int} {x : Int} (hl : SS l) (hx : x ∉ l) : SS (insI l x) := by
  unfold insI SS
  rw [tk_pos, dr_pos]
  have hp : SS (l.takeWhile (fun y => decide (y < x)) ++ l.dropWhile (fun y => decide (y < x))) := by rw [List.takeWhile_append_dropWhile]; exact hl
  obtain ⟨p1, p2, p3⟩ := List.pairwise_append.1 hp
  rw [List.append_assoc, List.pairwise_append]
  refine ⟨p1, ?_, ?_⟩
  · rw [List.singleton_append, List.pairwise_cons]
    refine ⟨fun y hy => ?_, p2⟩
    have h1 := ss_drop hl y hy
    have h2 : y ≠ x := fun e => hx (by rw [← e]; rw [← List.takeWhile_append_dropWhile (p := fun y => decide (y < x)) (l := l)]; exact List.mem_append_right _ hy)
    omega
  · intro a ha b hb
    rw [List.singleton_append] at hb
    rcases List.mem_cons.1 hb with rfl | hb
    · exact tk_lt a ha
    · exact p3 a ha b hb
theorem ins_mem {l : List Int} {x y : Int} : y ∈ insI l x ↔ y = x ∨ y ∈ l := by
  unfold insI
  rw [List.mem_append, List.mem_append, List.mem_singleton]
  conv => rhs; rw [← List.take_append_drop (posI l x) l, List.mem_append]
  constructor
  · rintro ((h | h) | h)
    · exact .inr (.inl h)
    · exact .inl h
    · exact .inr (.inr h)
  · rintro (h | h | h)
    · exact .inl (.inr h)
    · exact .inl (.inl h)
    · exact .inr h
theorem fold_ss : ∀ (l o : List Int), SS o → SS (l.foldl (fun o x => if hasI o x then o else insI o x) o) ∧ ∀ y, y ∈ l.foldl (fun o x => if hasI o x then o else insI o x) o ↔ y ∈ o ∨ y ∈ l
  | [], o, h => ⟨h, fun y => by simp⟩
  | x :: l, o, h => by
    simp only [List.foldl_cons]
    cases hx : hasI o x with
    | true =>
      simp only [if_true]
      obtain ⟨h1, h2⟩ := fold_ss l o h
      refine ⟨h1, fun y => ?_⟩
      rw [h2, List.mem_cons]
      have := hasI_iff.1 hx
      constructor
      · rintro (h | h)
        · exact .inl h
        · exact .inr (.inr h)
      · rintro (h | rfl | h)
        · exact .inl h
        · exact .inl this
        · exact .inr h
    | false =>
      simp only [Bool.false_eq_true, if_false]
      obtain ⟨h1, h2⟩ := fold_ss l (insI o x) (ins_ss h (hasI_false.1 hx))
      refine ⟨h1, fun y => ?_⟩
      rw [h2, List.mem_cons, ins_mem]
      constructor
      · rintro ((h | h) | h)
        · exact .inr (.inl h)
        · exact .inl h
        · exact .inr (.inr h)
      · rintro (h | h | h)
        · exact .inl (.inr h)
        · exact .inl (.inl h)
        · exact .inr h
theorem make_ss (l : List Int) : SS (makeI l) := (fold_ss l [] List.Pairwise.nil).1
theorem make_mem {l : List Int} {x : Int} : x ∈ makeI l ↔ x ∈ l := by
  have := (fold_ss l [] List.Pairwise.nil).2 x
  simpa [makeI] using this

theorem cu_props {d : Array Int} (hs : ∀ i j, i < j → j < d.size → d[i]! ≤ d[j]!) : ∀ m, m ≤ d.size →
    SS (Lib.compactUpTo d m) ∧ (∀ x, x ∈ Lib.compactUpTo d m ↔ ∃ j < m, d[j]! = x)
  | 0, _ => ⟨by simp [Lib.compactUpTo, SS], fun x => by simp [Lib.compactUpTo]⟩
  | m + 1, hm => by
    obtain ⟨h1, h2⟩ := cu_props hs m (by omega)
    rw [Lib.compactUpTo_succ]
    have le : ∀ x ∈ Lib.compactUpTo d m, ∃ j < m, d[j]! = x := fun x hx => (h2 x).1 hx
    cases hk : Lib.keeps d m with
    | true =>
      simp only [if_true]
      constructor
      · refine List.pairwise_append.2 ⟨h1, by simp, fun a ha b hb => ?_⟩
        simp only [List.mem_singleton] at hb
        subst hb
        obtain ⟨j, hj, rfl⟩ := le a ha
        have h3 : m ≠ 0 := by omega
        simp only [Lib.keeps, decide_eq_true_eq, h3, false_or] at hk
        have h4 := hs (m - 1) m (by omega) (by omega)
        by_cases hj2 : j = m - 1
        · subst hj2; omega
        · have := hs j (m - 1) (by omega) (by omega); omega
      · intro x
        rw [List.mem_append, h2, List.mem_singleton]
        constructor
        · rintro (⟨j, hj, e⟩ | e)
          · exact ⟨j, by omega, e⟩
          · exact ⟨m, by omega, e.symm⟩
        · rintro ⟨j, hj, e⟩
          by_cases hj2 : j = m
          · subst hj2; exact .inr e.symm
          · exact .inl ⟨j, by omega, e⟩
    | false =>
      simp only [Bool.false_eq_true, if_false, List.append_nil]
      refine ⟨h1, fun x => ?_⟩
      rw [h2]
      have h3 : m ≠ 0 ∧ d[m]! = d[m - 1]! := by simpa [Lib.keeps] using hk
      constructor
      · rintro ⟨j, hj, e⟩; exact ⟨j, by omega, e⟩
      · rintro ⟨j, hj, e⟩
        by_cases hj2 : j = m
        · subst hj2; exact ⟨j - 1, by omega, by rw [← h3.2]; exact e⟩
        · exact ⟨j, by omega, e⟩

theorem sort_sorted (l : List Int) : (sortI l).Pairwise (· ≤ ·) := by
  have h : (sortI l).Pairwise (fun x y => decide (x ≤ y) = true) := List.pairwise_mergeSort (fun a b c h1 h2 => by simp at *; omega) (fun a b => by simp; omega) l
  exact h.imp fun h => by simpa using h
theorem sort_mem {l : List Int} {x : Int} : x ∈ sortI l ↔ x ∈ l := (List.mergeSort_perm l _).mem_iff
theorem dd_props (l : List Int) : SS (Lib.compact (sortI l)) ∧ ∀ x, x ∈ Lib.compact (sortI l) ↔ x ∈ l := by
  have hs : ∀ i j, i < j → j < (sortI l).toArray.size → (sortI l).toArray[i]! ≤ (sortI l).toArray[j]! := by
    intro i j hij hj
    have hj' : j < (sortI l).length := by simpa using hj
    have := List.pairwise_iff_getElem.1 (sort_sorted l) i j (by omega) hj' hij
    rw [getElem!_pos _ i (by simp; omega), getElem!_pos _ j (by simpa using hj)]
    simpa using this
  obtain ⟨h1, h2⟩ := cu_props hs (sortI l).length (by simp)
  refine ⟨h1, fun x => ?_⟩
  show x ∈ Lib.compactUpTo (sortI l).toArray (sortI l).length ↔ _
  rw [h2, ← sort_mem, List.mem_iff_getElem]
  constructor
  · rintro ⟨j, hj, e⟩; exact ⟨j, hj, by rw [getElem!_pos _ j (by simpa using hj)] at e; simpa using e⟩
  · rintro ⟨j, hj, e⟩; exact ⟨j, hj, by rw [getElem!_pos _ j (by simpa using hj)]; simpa using e⟩
theorem dd_make (l : List Int) : Lib.compact (sortI l) = makeI l :=
  ss_ext (dd_props l).1 (make_ss l) fun x => by rw [(dd_props l).2, make_mem]
end Go.Proofs.YtpfdgbddpdngbaaDoor
set_option linter.unusedSimpArgs false
set_option linter.unusedVariables false
namespace Go.Proofs.YtpfdgbddpdngbaaDoor
open Go Go.Eng

/-! Sets as maps of true. -/
def mpS (s : List Int) : List (Int × Bool) := s.map fun x => (x, true)
def keysM (m : List (Int × Bool)) : List Int := m.map (·.1)
theorem keys_mpS (s : List Int) : keysM (mpS s) = s := by
  unfold keysM mpS
  rw [List.map_map]
  exact List.map_id s
theorem mpS_len (s : List Int) : (mpS s).length = s.length := by simp [mpS]
theorem mpS_mem {s : List Int} {x : Int × Bool} : x ∈ mpS s ↔ x.1 ∈ s ∧ x.2 = true := by
  obtain ⟨n, b⟩ := x
  simp only [mpS, List.mem_map, Prod.mk.injEq]
  constructor
  · rintro ⟨a, h, rfl, rfl⟩; exact ⟨h, rfl⟩
  · rintro ⟨h, e⟩
    have e : b = true := e
    subst e; exact ⟨n, h, rfl, rfl⟩
theorem mpS_up {s : List Int} (h : SS s) : keysUp (mpS s) := by
  unfold keysUp mpS
  rw [List.pairwise_map]
  exact h
theorem up_ss {α : Type} {l : List (Int × α)} (h : keysUp l) : SS (l.map (·.1)) := by
  unfold SS
  rw [List.pairwise_map]
  exact h
theorem up_ext {α : Type} : ∀ {l m : List (Int × α)}, keysUp l → keysUp m → (∀ x, x ∈ l ↔ x ∈ m) → l = m
  | [], [], _, _, _ => rfl
  | [], y :: m, _, _, h => by have := (h y).2 (by simp); simp at this
  | x :: l, [], _, _, h => by have := (h x).1 (by simp); simp at this
  | x :: l, y :: m, hl, hm, h => by
    obtain ⟨h1, h2⟩ := up_cons.1 hl
    obtain ⟨h3, h4⟩ := up_cons.1 hm
    have hxy : x = y := by
      have a := (h x).1 (by simp)
      have b := (h y).2 (by simp)
      rcases List.mem_cons.1 a with a | a
      · exact a
      · rcases List.mem_cons.1 b with b | b
        · exact b.symm
        · have := h3 x a; have := h1 y b; omega
    subst hxy
    congr 1
    refine up_ext h2 h4 fun z => ?_
    have hz := h z
    simp only [List.mem_cons] at hz
    constructor
    · intro hh
      rcases hz.1 (.inr hh) with rfl | h5
      · have := h1 z hh; omega
      · exact h5
    · intro hh
      rcases hz.2 (.inr hh) with rfl | h5
      · have := h3 z hh; omega
      · exact h5
theorem mpS_ext {l : List (Int × Bool)} {s : List Int} (hl : keysUp l) (hs : SS s) (h : ∀ x, x ∈ l ↔ x.1 ∈ s ∧ x.2 = true) : l = mpS s :=
  up_ext hl (mpS_up hs) fun x => (h x).trans mpS_mem.symm
theorem mput_mpS {s : List Int} (hs : SS s) (n : Int) : mput (mpS s) n true = mpS (makeI (s ++ [n])) := by
  refine mpS_ext (mput_up (mpS_up hs)) (make_ss _) fun x => ?_
  rw [mput_mem (mpS_up hs), mpS_mem, make_mem, List.mem_append, List.mem_singleton]
  obtain ⟨m, b⟩ := x
  simp only [Prod.mk.injEq]
  by_cases hm : m = n
  · simp [hm]
  · simp [hm]
theorem mdel_mpS {s : List Int} (hs : SS s) (n : Int) : mdel (mpS s) n = mpS (s.filter fun x => !decide (x = n)) := by
  refine mpS_ext (mdel_up (mpS_up hs)) (hs.sublist List.filter_sublist) fun x => ?_
  rw [mdel_mem (mpS_up hs), mpS_mem, List.mem_filter]
  simp only [Bool.not_eq_true', decide_eq_false_iff_not]
  constructor
  · rintro ⟨⟨a, b⟩, c⟩; exact ⟨⟨a, c⟩, b⟩
  · rintro ⟨⟨a, c⟩, b⟩; exact ⟨⟨a, b⟩, c⟩
theorem mget_mpS {s : List Int} (hs : SS s) (n : Int) : mget (mpS s) n = if n ∈ s then some true else none := by
  apply Option.ext
  intro b
  rw [mget_mem (mpS_up hs), mpS_mem]
  split
  · rename_i h; simp [h, eq_comm]
  · rename_i h; simp [h]

/-! Increasing lists. -/
def rngI (n : Nat) : List Int := (List.range n).map fun (i : Nat) => (i : Int)
theorem rngI_ss (n : Nat) : SS (rngI n) := by
  unfold SS rngI
  rw [List.pairwise_map]
  exact List.pairwise_lt_range.imp fun h => by omega
theorem rngI_mem {n : Nat} {x : Int} : x ∈ rngI n ↔ 0 ≤ x ∧ x < n := by
  simp only [rngI, List.mem_map, List.mem_range]
  constructor
  · rintro ⟨a, h, rfl⟩; omega
  · intro h; exact ⟨x.toNat, by omega, by omega⟩
theorem rngI_len (n : Nat) : (rngI n).length = n := by simp [rngI]
theorem sub_filter {a b : List Int} (ha : SS a) (hb : SS b) (h : ∀ x ∈ a, x ∈ b) : a = b.filter (hasI a) := by
  refine ss_ext ha (hb.sublist List.filter_sublist) fun x => ?_
  rw [List.mem_filter, hasI_iff]
  exact ⟨fun hx => ⟨h x hx, hx⟩, fun hx => hx.2⟩
theorem sub_len {a b : List Int} (ha : SS a) (hb : SS b) (h : ∀ x ∈ a, x ∈ b) : a.length ≤ b.length := by
  rw [sub_filter ha hb h]; exact List.length_filter_le _ _
theorem sub_eq {a b : List Int} (ha : SS a) (hb : SS b) (h : ∀ x ∈ a, x ∈ b) (e : a.length = b.length) : a = b := by
  have h1 := sub_filter ha hb h
  have h2 : (b.filter (hasI a)).length = b.length := by rw [← h1]; exact e
  rw [h1, List.filter_eq_self]
  exact List.length_filter_eq_length_iff.1 h2
theorem rng_len {a : List Int} {n : Nat} (ha : SS a) (h : ∀ x ∈ a, 0 ≤ x ∧ x < n) : a.length ≤ n := by
  have := sub_len ha (rngI_ss n) fun x hx => rngI_mem.2 (h x hx)
  rwa [rngI_len] at this

/-! A control flow graph, and the registers that live. -/
structure CF where
  n : Nat
  suc : Nat → List Int
  use : Nat → List Int
  dfn : Nat → Option Int
structure CF.OK (F : CF) : Prop where
  suc : ∀ k, k < F.n → ∀ s ∈ F.suc k, 0 ≤ s ∧ s ≤ F.n
  two : ∀ k, k < F.n → (F.suc k).length ≤ 2
  use : ∀ k, k < F.n → ∀ r ∈ F.use k, 0 ≤ r ∧ r < 8
  dfn : ∀ k r, k < F.n → F.dfn k = some r → 0 ≤ r ∧ r < 8
inductive LV (F : CF) (ex : Bool) : Nat → Int → Prop
  | exit {r : Int} : ex = true → 0 ≤ r → r < 8 → LV F ex F.n r
  | use {k : Nat} {r : Int} : k < F.n → r ∈ F.use k → LV F ex k r
  | step {k : Nat} {r s : Int} : k < F.n → s ∈ F.suc k → LV F ex s.toNat r → F.dfn k ≠ some r → LV F ex k r
open Classical in
noncomputable def liv (F : CF) (ex : Bool) (k : Nat) : List Int := (rngI 8).filter fun r => decide (LV F ex k r)
variable {F : CF} {ex : Bool}
theorem LV.reg (ok : F.OK) {k : Nat} {r : Int} (h : LV F ex k r) : 0 ≤ r ∧ r < 8 := by
  induction h with
  | exit _ a b => exact ⟨a, b⟩
  | use a b => exact ok.use _ a _ b
  | step _ _ _ _ ih => exact ih
theorem LV.top {r : Int} : LV F ex F.n r ↔ ex = true ∧ 0 ≤ r ∧ r < 8 := by
  constructor
  · intro h
    generalize hk : F.n = k at h
    cases h with
    | exit a b c => exact ⟨a, b, c⟩
    | use a _ => omega
    | step a _ _ _ => omega
  · rintro ⟨a, b, c⟩; exact .exit a b c
theorem LV.at {k : Nat} (hk : k < F.n) {r : Int} : LV F ex k r ↔ r ∈ F.use k ∨ ((∃ s ∈ F.suc k, LV F ex s.toNat r) ∧ F.dfn k ≠ some r) := by
  constructor
  · intro h
    cases h with
    | exit a b c => omega
    | use _ b => exact .inl b
    | step _ b c d => exact .inr ⟨⟨_, b, c⟩, d⟩
  · rintro (h | ⟨⟨s, a, b⟩, c⟩)
    · exact .use hk h
    · exact .step hk a b c
open Classical in
theorem liv_mem (ok : F.OK) {k : Nat} {r : Int} : r ∈ liv F ex k ↔ LV F ex k r := by
  unfold liv
  rw [List.mem_filter, rngI_mem]
  constructor
  · intro h; exact of_decide_eq_true h.2
  · intro h; have := h.reg ok; exact ⟨⟨this.1, by omega⟩, decide_eq_true h⟩
theorem liv_ss (F : CF) (ex : Bool) (k : Nat) : SS (liv F ex k) := (rngI_ss 8).sublist List.filter_sublist
theorem liv_len (F : CF) (ex : Bool) (k : Nat) : (liv F ex k).length ≤ 8 := by
  unfold liv
  exact Nat.le_trans (List.length_filter_le _ _) (by rw [rngI_len]; omega)

/-! The sets' rounds. -/
def rowL (B : List (List Int)) (s : Int) : List Int := B.getD s.toNat []
def aftL (F : CF) (B : List (List Int)) (k : Nat) : List Int := makeI ((F.suc k).flatMap (rowL B))
def delL (s : List Int) : Option Int → List Int
  | none => s
  | some r => s.filter fun x => !decide (x = r)
def trL (F : CF) (B : List (List Int)) (k : Nat) : List Int := makeI (delL (aftL F B k) (F.dfn k) ++ F.use k)
theorem aft_mem {B : List (List Int)} {k : Nat} {r : Int} : r ∈ aftL F B k ↔ ∃ s ∈ F.suc k, r ∈ rowL B s := by
  unfold aftL; rw [make_mem, List.mem_flatMap]
theorem del_mem {s : List Int} {o : Option Int} {r : Int} : r ∈ delL s o ↔ r ∈ s ∧ o ≠ some r := by
  cases o with
  | none => simp [delL]
  | some x =>
    simp only [delL, List.mem_filter, Bool.not_eq_true', decide_eq_false_iff_not, ne_eq, Option.some.injEq]
    exact ⟨fun h => ⟨h.1, fun e => h.2 e.symm⟩, fun h => ⟨h.1, fun e => h.2 e.symm⟩⟩
theorem del_ss {s : List Int} (h : SS s) (o : Option Int) : SS (delL s o) := by
  cases o with
  | none => exact h
  | some x => exact h.sublist List.filter_sublist
theorem tr_mem {B : List (List Int)} {k : Nat} {r : Int} : r ∈ trL F B k ↔ r ∈ F.use k ∨ ((∃ s ∈ F.suc k, r ∈ rowL B s) ∧ F.dfn k ≠ some r) := by
  unfold trL; rw [make_mem, List.mem_append, del_mem, aft_mem]
  exact Or.comm
def szL (B : List (List Int)) : Nat := (B.map List.length).sum
theorem szL_set : ∀ {B : List (List Int)} {k : Nat} (s : List Int), k < B.length → szL (B.set k s) + (B.getD k []).length = szL B + s.length
  | x :: B, 0, s, _ => by simp [szL]; omega
  | x :: B, k + 1, s, h => by
    have := szL_set (B := B) (k := k) s (by simpa using h)
    simp only [szL, List.set_cons_succ, List.map_cons, List.sum_cons, List.getD_cons_succ] at *
    omega
theorem szL_le {m : Nat} : ∀ {B : List (List Int)}, (∀ x ∈ B, x.length ≤ m) → szL B ≤ m * B.length
  | [], _ => by simp [szL]
  | x :: B, h => by
    have h1 := szL_le (B := B) fun y hy => h y (by simp [hy])
    have h2 := h x (by simp)
    simp only [szL, List.map_cons, List.sum_cons, List.length_cons, Nat.mul_succ] at *
    omega
structure Inv (F : CF) (ex : Bool) (B : List (List Int)) : Prop where
  len : F.n ≤ B.length
  ss : ∀ x ∈ B, SS x
  snd : ∀ k r, r ∈ B.getD k [] → LV F ex k r
  top : ∀ r, LV F ex F.n r → r ∈ B.getD F.n []
  up : ∀ k, k < F.n → ∀ r ∈ B.getD k [], r ∈ trL F B k
theorem getD_ss {B : List (List Int)} (h : ∀ x ∈ B, SS x) (k : Nat) : SS (B.getD k []) := by
  rw [List.getD_eq_getElem?_getD]
  cases e : B[k]? with
  | none => exact List.Pairwise.nil
  | some x => exact h x (List.mem_of_getElem? e)
theorem getD_set {B : List (List Int)} {k j : Nat} {s : List Int} (h : k < B.length) : (B.set k s).getD j [] = if j = k then s else B.getD j [] := by
  simp only [List.getD_eq_getElem?_getD]
  split
  · rename_i e; subst e; rw [List.getElem?_set_self h]; rfl
  · rename_i e; rw [List.getElem?_set_ne (Ne.symm e)]
theorem Inv.bnd (ok : F.OK) {B : List (List Int)} (i : Inv F ex B) : szL B ≤ 8 * B.length := by
  refine szL_le fun x hx => rng_len (n := 8) (i.ss x hx) fun r hr => ?_
  obtain ⟨k, hk⟩ := List.mem_iff_getElem?.1 hx
  exact (i.snd k r (by rw [List.getD_eq_getElem?_getD, hk]; exact hr)).reg ok
theorem Inv.sub {B : List (List Int)} (i : Inv F ex B) {k : Nat} (hk : k < F.n) : (B.getD k []).length ≤ (trL F B k).length :=
  sub_len (getD_ss i.ss k) (make_ss _) (i.up k hk)
theorem Inv.same {B : List (List Int)} (i : Inv F ex B) {k : Nat} (hk : k < F.n) (e : (trL F B k).length = (B.getD k []).length) : trL F B k = B.getD k [] :=
  (sub_eq (getD_ss i.ss k) (make_ss _) (i.up k hk) e.symm).symm
theorem tr_mono {B C : List (List Int)} (h : ∀ k r, r ∈ B.getD k [] → r ∈ C.getD k []) {k : Nat} {r : Int} (hr : r ∈ trL F B k) : r ∈ trL F C k := by
  rw [tr_mem] at hr ⊢
  rcases hr with hr | ⟨⟨s, a, b⟩, c⟩
  · exact .inl hr
  · exact .inr ⟨⟨s, a, h _ _ b⟩, c⟩
theorem Inv.set {B : List (List Int)} (i : Inv F ex B) {k : Nat} (hk : k < F.n) : Inv F ex (B.set k (trL F B k)) := by
  have hl : k < B.length := Nat.lt_of_lt_of_le hk i.len
  have mono : ∀ j r, r ∈ B.getD j [] → r ∈ (B.set k (trL F B k)).getD j [] := by
    intro j r hr
    rw [getD_set hl]
    split
    · rename_i e; subst e; exact i.up _ hk _ hr
    · exact hr
  refine ⟨by rw [List.length_set]; exact i.len, fun x hx => ?_, fun j r hr => ?_, fun r hr => mono _ _ (i.top r hr), fun j hj r hr => ?_⟩
  · rcases List.mem_or_eq_of_mem_set hx with hx | rfl
    · exact i.ss x hx
    · exact make_ss _
  · rw [getD_set hl] at hr
    split at hr
    · rename_i e; subst e
      rw [tr_mem] at hr
      rw [LV.at hk]
      rcases hr with hr | ⟨⟨s, a, b⟩, c⟩
      · exact .inl hr
      · exact .inr ⟨⟨s, a, i.snd _ _ b⟩, c⟩
    · exact i.snd j r hr
  · rw [getD_set hl] at hr
    split at hr
    · rename_i e; subst e; exact tr_mono mono hr
    · exact tr_mono mono (i.up j hj r hr)
theorem Inv.more {B : List (List Int)} (i : Inv F ex B) {k : Nat} (hk : k < F.n) (e : (trL F B k).length ≠ (B.getD k []).length) : szL B + 1 ≤ szL (B.set k (trL F B k)) := by
  have := szL_set (B := B) (trL F B k) (Nat.lt_of_lt_of_le hk i.len)
  have := i.sub hk
  omega
theorem Inv.fin (ok : F.OK) {B : List (List Int)} (i : Inv F ex B) (h : ∀ k, k < F.n → trL F B k = B.getD k []) {k : Nat} (hk : k ≤ F.n) : B.getD k [] = liv F ex k := by
  have key : ∀ {k : Nat} {r : Int}, LV F ex k r → r ∈ B.getD k [] := by
    intro k r l
    induction l with
    | exit a b c => exact i.top _ (.exit a b c)
    | use a b => rw [← h _ a, tr_mem]; exact .inl b
    | step a b c d ih => rw [← h _ a, tr_mem]; exact .inr ⟨⟨_, b, ih⟩, d⟩
  exact ss_ext (getD_ss i.ss k) (liv_ss F ex k) fun r => ⟨fun hr => (liv_mem ok).2 (i.snd k r hr), fun hr => key ((liv_mem ok).1 hr)⟩
theorem getD_repl {m k : Nat} : (List.replicate m ([] : List Int)).getD k [] = [] := by
  rw [List.getD_eq_getElem?_getD, List.getElem?_replicate]
  split <;> rfl
theorem Inv.start (F : CF) {m : Nat} (h : F.n ≤ m) : Inv F false (List.replicate m []) := by
  refine ⟨by simpa using h, fun x hx => ?_, fun k r hr => ?_, fun r hr => ?_, fun k hk r hr => ?_⟩
  · rw [List.eq_of_mem_replicate hx]; exact List.Pairwise.nil
  · rw [getD_repl] at hr; cases hr
  · have := (LV.top.1 hr).1; cases this
  · rw [getD_repl] at hr; cases hr
theorem Inv.startX (F : CF) : Inv F true ((List.replicate (F.n + 1) []).set F.n (rngI 8)) := by
  have hl : F.n < (List.replicate (F.n + 1) ([] : List Int)).length := by simp
  refine ⟨by simp, fun x hx => ?_, fun k r hr => ?_, fun r hr => ?_, fun k hk r hr => ?_⟩
  · rcases List.mem_or_eq_of_mem_set hx with hx | rfl
    · rw [List.eq_of_mem_replicate hx]; exact List.Pairwise.nil
    · exact rngI_ss 8
  · rw [getD_set hl] at hr
    split at hr
    · rename_i e; subst e
      have := rngI_mem.1 hr
      exact .exit rfl (by omega) (by omega)
    · rw [getD_repl] at hr; cases hr
  · rw [getD_set hl, if_pos rfl, rngI_mem]
    have := LV.top.1 hr
    omega
  · rw [getD_set hl, if_neg (by omega), getD_repl] at hr; cases hr

/-! A search along the successors. -/
structure Dfs (F : CF) (ex : Bool) (r : Int) (fr : List Int) (S : Int → Prop) (T : List Int) : Prop where
  rng : ∀ k, S k → 0 ≤ k ∧ k < F.n
  trg : ∀ k ∈ T, 0 ≤ k ∧ k ≤ F.n
  snd : ∀ k ∈ T, LV F ex k.toNat r → ∃ k ∈ fr, LV F ex k.toNat r
  fr : ∀ k ∈ fr, S k ∨ k ∈ T ∨ (k = F.n ∧ ex = false)
  cl : ∀ k, S k → r ∉ F.use k.toNat ∧ (F.dfn k.toNat = some r ∨ ∀ s ∈ F.suc k.toNat, S s ∨ s ∈ T ∨ (s = F.n ∧ ex = false))
variable {r : Int} {fr T T' : List Int} {S S' : Int → Prop} {k : Int}
theorem Dfs.start (ok : F.OK) (h : ∀ k ∈ fr, 0 ≤ k ∧ k ≤ F.n) : Dfs F ex r fr (fun _ => False) fr :=
  ⟨fun _ h => h.elim, h, fun k hk l => ⟨k, hk, l⟩, fun k hk => .inr (.inl hk), fun _ h => h.elim⟩
theorem Dfs.congr (d : Dfs F ex r fr S T) (hS : ∀ k, S' k ↔ S k) (hT : ∀ k, k ∈ T' ↔ k ∈ T) : Dfs F ex r fr S' T' := by
  have e : S' = S := funext fun k => propext (hS k)
  subst e
  refine ⟨d.rng, fun k hk => d.trg k ((hT k).1 hk), fun k hk => d.snd k ((hT k).1 hk), fun k hk => ?_, fun k hk => ⟨(d.cl k hk).1, ?_⟩⟩
  · rw [hT]; exact d.fr k hk
  · rcases (d.cl k hk).2 with h | h
    · exact .inl h
    · refine .inr fun s hs => ?_
      rw [hT]; exact h s hs
theorem Dfs.hitX (d : Dfs F true r fr S T) (hr : 0 ≤ r ∧ r < 8) (hk : k ∈ T) (e : k = F.n) : ∃ k ∈ fr, LV F true k.toNat r :=
  d.snd k hk (by subst e; exact .exit rfl hr.1 hr.2)
theorem Dfs.hit (d : Dfs F ex r fr S T) (hk : k ∈ T) (h : k < F.n) (u : r ∈ F.use k.toNat) : ∃ k ∈ fr, LV F ex k.toNat r :=
  d.snd k hk (.use (by have := d.trg k hk; omega) u)
theorem Dfs.skip (d : Dfs F ex r fr S T) (hT : ∀ x, x ∈ T ↔ x = k ∨ x ∈ T') (h : S k ∨ (k = F.n ∧ ex = false)) : Dfs F ex r fr S T' := by
  have key : ∀ s, (S s ∨ s ∈ T ∨ (s = F.n ∧ ex = false)) → S s ∨ s ∈ T' ∨ (s = F.n ∧ ex = false) := by
    rintro s (a | a | a)
    · exact .inl a
    · rcases (hT s).1 a with rfl | a
      · rcases h with h | h
        · exact .inl h
        · exact .inr (.inr h)
      · exact .inr (.inl a)
    · exact .inr (.inr a)
  refine ⟨d.rng, fun x hx => d.trg x ((hT x).2 (.inr hx)), fun x hx => d.snd x ((hT x).2 (.inr hx)), fun x hx => key x (d.fr x hx), fun x hx => ⟨(d.cl x hx).1, ?_⟩⟩
  rcases (d.cl x hx).2 with h | h
  · exact .inl h
  · exact .inr fun s hs => key s (h s hs)
theorem Dfs.go (ok : F.OK) (d : Dfs F ex r fr S T) (hT : ∀ x, x ∈ T ↔ x = k ∨ x ∈ T') (hk : k < F.n) (u : r ∉ F.use k.toNat) {U : List Int}
    (hU : (F.dfn k.toNat = some r ∧ ∀ x, x ∈ U ↔ x ∈ T') ∨ (F.dfn k.toNat ≠ some r ∧ ∀ x, x ∈ U ↔ x ∈ T' ∨ x ∈ F.suc k.toNat)) : Dfs F ex r fr (fun x => S x ∨ x = k) U := by
  have hk0 := d.trg k ((hT k).2 (.inl rfl))
  have kn : k.toNat < F.n := by omega
  have sub : ∀ x, x ∈ T' → x ∈ U := by
    intro x hx
    rcases hU with ⟨_, h⟩ | ⟨_, h⟩
    · exact (h x).2 hx
    · exact (h x).2 (.inl hx)
  have key : ∀ s, (S s ∨ s ∈ T ∨ (s = F.n ∧ ex = false)) → (S s ∨ s = k) ∨ s ∈ U ∨ (s = F.n ∧ ex = false) := by
    rintro s (a | a | a)
    · exact .inl (.inl a)
    · rcases (hT s).1 a with rfl | a
      · exact .inl (.inr rfl)
      · exact .inr (.inl (sub s a))
    · exact .inr (.inr a)
  refine ⟨?_, fun x hx => ?_, fun x hx => ?_, fun x hx => key x (d.fr x hx), ?_⟩
  · rintro x (a | rfl)
    · exact d.rng x a
    · exact ⟨hk0.1, hk⟩
  · rcases hU with ⟨_, h⟩ | ⟨_, h⟩
    · exact d.trg x ((hT x).2 (.inr ((h x).1 hx)))
    · rcases (h x).1 hx with a | a
      · exact d.trg x ((hT x).2 (.inr a))
      · exact ok.suc _ kn x a
  · rcases hU with ⟨_, h⟩ | ⟨hd, h⟩
    · exact d.snd x ((hT x).2 (.inr ((h x).1 hx)))
    · rcases (h x).1 hx with a | a
      · exact d.snd x ((hT x).2 (.inr a))
      · intro l
        exact d.snd k ((hT k).2 (.inl rfl)) (.step kn a l hd)
  · rintro x (a | rfl)
    · refine ⟨(d.cl x a).1, ?_⟩
      rcases (d.cl x a).2 with h | h
      · exact .inl h
      · exact .inr fun s hs => key s (h s hs)
    · refine ⟨u, ?_⟩
      rcases hU with ⟨hd, _⟩ | ⟨hd, h⟩
      · exact .inl hd
      · exact .inr fun s hs => .inr (.inl ((h s).2 (.inr hs)))
theorem Dfs.none (ok : F.OK) (d : Dfs F ex r fr S []) : ¬ ∃ k ∈ fr, LV F ex k.toNat r := by
  have key : ∀ {k : Nat}, LV F ex k r → ¬ S (k : Int) ∧ ¬ (k = F.n ∧ ex = false) := by
    intro k l
    generalize hr : r = r' at l
    induction l with
    | exit a b c => exact ⟨fun h => by have := d.rng _ h; omega, by rw [a]; simp⟩
    | @use k r a b => subst hr; exact ⟨fun h => (d.cl _ h).1 (by simpa using b), by omega⟩
    | @step k r s a b c e ih =>
      subst hr
      refine ⟨fun h => ?_, by omega⟩
      have hs := ok.suc _ a _ b
      have hss : ((s.toNat : Nat) : Int) = s := by omega
      rcases (d.cl _ h).2 with h1 | h1
      · exact e (by simpa using h1)
      · have ih := ih rfl
        rw [hss] at ih
        rcases h1 s (by simpa using b) with h2 | h2 | h2
        · exact ih.1 h2
        · cases h2
        · exact ih.2 ⟨by omega, h2.2⟩
  rintro ⟨k, hk, l⟩
  have hkl := key l
  rcases d.fr k hk with h | h | h
  · have := d.rng k h
    rw [show ((k.toNat : Nat) : Int) = k by omega] at hkl
    exact hkl.1 h
  · cases h
  · exact hkl.2 ⟨by omega, h.2⟩

/-! Registers that are permuted. -/
theorem LV.ren {G : CF} {σ : Int → Int} (ok : F.OK) (hn : G.n = F.n) (hs : ∀ k, k < F.n → G.suc k = F.suc k) (hu : ∀ k, k < F.n → ∀ x, x ∈ G.use k ↔ ∃ r ∈ F.use k, σ r = x)
    (hd : ∀ k, k < F.n → G.dfn k = (F.dfn k).map σ) (inj : ∀ x y, 0 ≤ x → x < 8 → 0 ≤ y → y < 8 → σ x = σ y → x = y) (rg : ∀ x, 0 ≤ x → x < 8 → 0 ≤ σ x ∧ σ x < 8) {k : Nat} {r : Int} (h : LV F ex k r) : LV G ex k (σ r) := by
  induction h with
  | exit a b c => rw [← hn]; exact .exit a (rg _ b c).1 (rg _ b c).2
  | use a b => exact .use (by omega) ((hu _ a _).2 ⟨_, b, rfl⟩)
  | @step k r s a b c d ih =>
    refine .step (by omega) (by rw [hs _ a]; exact b) ih ?_
    rw [hd _ a]
    intro e
    cases e0 : F.dfn k with
    | none => rw [e0] at e; cases e
    | some x =>
      rw [e0, Option.map_some, Option.some.injEq] at e
      have hx := ok.dfn _ _ a e0
      have hr := c.reg ok
      exact d (by rw [e0, inj _ _ hx.1 hx.2 hr.1 hr.2 e])
theorem LV.ren_back {G : CF} {σ : Int → Int} (ok : F.OK) (hn : G.n = F.n) (hs : ∀ k, k < F.n → G.suc k = F.suc k) (hu : ∀ k, k < F.n → ∀ x, x ∈ G.use k ↔ ∃ r ∈ F.use k, σ r = x)
    (hd : ∀ k, k < F.n → G.dfn k = (F.dfn k).map σ) (sur : ∀ y, 0 ≤ y → y < 8 → ∃ x, 0 ≤ x ∧ x < 8 ∧ σ x = y) {k : Nat} {y : Int} (h : LV G ex k y) : ∃ r, LV F ex k r ∧ σ r = y := by
  induction h with
  | exit a b c =>
    obtain ⟨x, h1, h2, h3⟩ := sur _ b c
    exact ⟨x, by rw [hn]; exact .exit a h1 h2, h3⟩
  | use a b =>
    obtain ⟨x, h1, h2⟩ := (hu _ (by omega) _).1 b
    exact ⟨x, .use (by omega) h1, h2⟩
  | @step k y s a b c d ih =>
    obtain ⟨x, h1, h2⟩ := ih
    have a' : k < F.n := by omega
    refine ⟨x, .step a' (by rw [← hs _ a']; exact b) h1 fun e => d ?_, h2⟩
    rw [hd _ a', e, ← h2]; rfl
end Go.Proofs.YtpfdgbddpdngbaaDoor
set_option linter.unusedSimpArgs false
set_option linter.unusedVariables false
set_option maxRecDepth 100000
namespace Go.Proofs.YtpfdgbddpdngbaaDoor
open Go Go.Eng

def visS (op : Int) : Bool := decide (8 ≤ op) && decide (op ≤ 22)
def drnS (op : Int) : Bool := visS op && !decide (op = 8) && !decide (op = 9) && !decide (op = 14)
def idxS (l : List ByteArray) (s : ByteArray) : Option Nat := l.findIdx? fun x => decide (x = s)
def byMn (s : ByteArray) : Int := match idxS mnsD s with | some k => (k : Int) + 1 | none => 0
def byMnOk (s : ByteArray) : Bool := (idxS mnsD s).isSome
def byOrd (s : ByteArray) : Int := match idxS ordersD s with | some k => (k : Int) | none => 0
def byOrdOk (s : ByteArray) : Bool := (idxS ordersD s).isSome
theorem known_of_chk {op a b c obj n fn ord : Int} (h : chkS op a b c obj n fn ord = 0) : 1 ≤ op ∧ op ≤ 22 := by
  unfold chkS at h
  split at h
  · cases h
  · rename_i hk
    have : knownS op = true := by simpa using hk
    simpa [knownS] using this
theorem idx_hit {l : List ByteArray} {s d : ByteArray} {k : Nat} (h : l[k]? = some d) (hd : d = s) (hj : ∀ j, j < k → ∀ b, l[j]? = some b → ¬ b = s) : idxS l s = some k := by
  subst hd
  obtain ⟨hk, e⟩ := List.getElem?_eq_some_iff.1 h
  unfold idxS
  rw [List.findIdx?_eq_some_iff_getElem]
  refine ⟨hk, by simp [e], fun j hjk => ?_⟩
  have := hj j hjk l[j] (List.getElem?_eq_getElem (by omega))
  simpa using this
theorem idx_none {l : List ByteArray} {s : ByteArray} {k : Nat} (hk : l.length ≤ k) (hj : ∀ j, j < k → ∀ b, l[j]? = some b → ¬ b = s) : idxS l s = none := by
  unfold idxS
  rw [List.findIdx?_eq_none_iff]
  intro b hb
  obtain ⟨j, hl⟩ := List.getElem?_of_mem hb
  have := (List.getElem?_eq_some_iff.1 hl).1
  simpa using hj j (by omega) b hl
@[reducible] def ct8 : CT := { ps := [shI], pre := fun d => True, res := fun d => ([], .tup [.c (.v (.int .i64 (if (chkS d.1.1 d.1.2.1 d.1.2.2.1 d.1.2.2.2.1 d.1.2.2.2.2.1 d.1.2.2.2.2.2.1 d.1.2.2.2.2.2.2.1 d.1.2.2.2.2.2.2.2.1) = 0 ∧ use d.1.1 0 = true then d.1.2.1 else 0))), .c (.v (.bool (decide ((chkS d.1.1 d.1.2.1 d.1.2.2.1 d.1.2.2.2.1 d.1.2.2.2.2.1 d.1.2.2.2.2.2.1 d.1.2.2.2.2.2.2.1 d.1.2.2.2.2.2.2.2.1) = 0) && use d.1.1 0)))]) }
@[reducible] def cl38 : List (Nat × CT) := [(55, ct11)]
@[reducible] def ann38 (op : Int) (a : Int) (b : Int) (c : Int) (obj : Int) (n : Int) (fn : Int) (ord : Int) : Nat → Option (St → Ann) := fun _ => none
set_option maxRecDepth 100000 in
theorem f38_vc (op : Int) (a : Int) (b : Int) (c : Int) (obj : Int) (n : Int) (fn : Int) (ord : Int) :
    True ∧ ((!!decide (chkS op a b c obj n fn ord = (0 : Int))) = true → InR IntKind.i64 (op - (1 : Int))) ∧ ((!!decide (chkS op a b c obj n fn ord = (0 : Int))) = true → (0 : Int) ≤ op - (1 : Int) ∧ op - (1 : Int) < (22 : Int)) ∧ ∀ (d : Sh.str.den × ((Sh.arr (7 : Nat) Sh.bool).pair Sh.unit).den), ((!!decide (chkS op a b c obj n fn ord = (0 : Int))) = true → rowsD[(op - (1 : Int)).toNat]? = some d) → ((!!decide (chkS op a b c obj n fn ord = (0 : Int))) = true → (0 : Int) ≤ (0 : Int) ∧ (0 : Int) < (↑(List.length d.snd.fst) : Int)) ∧ ∀ (d_1 : Bool), ((!!decide (chkS op a b c obj n fn ord = (0 : Int))) = true → d.snd.fst[(0 : Nat)]? = some d_1) → br (!decide (chkS op a b c obj n fn ord = (0 : Int)) || !d_1) (([] : List Go.Eng.Res) = [] ∧ Ent.tup [SV.c (v6 ((if chkS op a b c obj n fn ord = (0 : Int) ∧ use op (0 : Nat) = true then a else (0 : Int)))), SV.c (SC.v (Value.bool (decide (chkS op a b c obj n fn ord = (0 : Int)) && use op (0 : Nat))))] = Ent.tup [SV.c (v6 ((0 : Int))), SV.c (SC.v (Value.bool false))]) (([] : List Go.Eng.Res) = [] ∧ Ent.tup [SV.c (v6 ((if chkS op a b c obj n fn ord = (0 : Int) ∧ use op (0 : Nat) = true then a else (0 : Int)))), SV.c (SC.v (Value.bool (decide (chkS op a b c obj n fn ord = (0 : Int)) && use op (0 : Nat))))] = Ent.tup [SV.c (v6 (a)), SV.c (SC.v (Value.bool true))]) := by
  by_cases hc : chkS op a b c obj n fn ord = 0
  · have hb := known_of_chk hc
    refine ⟨trivial, fun _ => InR_i64.2 (by omega), fun _ => by omega, fun d hd => ?_⟩
    have hd := hd (by simp [hc])
    obtain ⟨nm, us, ⟨⟩⟩ := d
    have hu := rows_use hb hd
    subst hu
    refine ⟨fun _ => by simp, fun d1 h1 => ?_⟩
    have h1 := h1 (by simp [hc])
    simp only [List.getElem?_cons_zero, Option.some.injEq] at h1
    subst h1
    cases hu0 : use op 0 <;> simp [br, hc]
  · refine ⟨trivial, fun h => by simp [hc] at h, fun h => by simp [hc] at h, fun d hd => ⟨fun h => by simp [hc] at h, fun d1 h1 => ?_⟩⟩
    simp [br, hc]
set_option maxHeartbeats 2000000 in
set_option maxRecDepth 100000 in
theorem f38_met : Go.Eng.Met Tryd.prog cx0.gd 38 ct8 :=
  met_of (cx := cx0) (n := 19) (cl := cl38) (by kernel_rfl) tis_ok ⟨f55_met, trivial⟩ Tryd.func38 (by kernel_rfl) (by kernel_rfl) rfl (by kernel_rfl) (by kernel_rfl) fun d hd => by
    obtain ⟨⟨op, a, b, c, obj, n, fn, ord, ⟨⟩⟩, ⟨⟩⟩ := d
    exact ex_of (ann38 op a b c obj n fn ord) (f38_vc op a b c obj n fn ord) (by kernel_rfl)
@[reducible] def ct9 : CT := { ps := [shI], pre := fun d => True, res := fun d => ([], .tup [.c (.v (.int .i64 (if (chkS d.1.1 d.1.2.1 d.1.2.2.1 d.1.2.2.2.1 d.1.2.2.2.2.1 d.1.2.2.2.2.2.1 d.1.2.2.2.2.2.2.1 d.1.2.2.2.2.2.2.2.1) = 0 ∧ use d.1.1 0 = true then d.1.2.1 else 0))), .c (.v (.bool (decide ((chkS d.1.1 d.1.2.1 d.1.2.2.1 d.1.2.2.2.1 d.1.2.2.2.2.1 d.1.2.2.2.2.2.1 d.1.2.2.2.2.2.2.1 d.1.2.2.2.2.2.2.2.1) = 0) && use d.1.1 0)))]) }
@[reducible] def cl23 : List (Nat × CT) := [(45, ct12), (46, ct33)]
@[reducible] def ann23 (op : Int) (a : Int) (b : Int) (c : Int) (obj : Int) (n : Int) (fn : Int) (ord : Int) : Nat → Option (St → Ann) := fun _ => none
set_option maxRecDepth 100000 in
theorem f23_vc (op : Int) (a : Int) (b : Int) (c : Int) (obj : Int) (n : Int) (fn : Int) (ord : Int) :
    True ∧ ((!!decide (chkS op a b c obj n fn ord = (0 : Int))) = true → True) ∧ br (!decide (chkS op a b c obj n fn ord = (0 : Int)) || !hasF op (65 : Int)) (([] : List Go.Eng.Res) = [] ∧ Ent.tup [SV.c (v6 ((if chkS op a b c obj n fn ord = (0 : Int) ∧ use op (0 : Nat) = true then a else (0 : Int)))), SV.c (SC.v (Value.bool (decide (chkS op a b c obj n fn ord = (0 : Int)) && use op (0 : Nat))))] = Ent.tup [SV.c (v6 ((0 : Int))), SV.c (SC.v (Value.bool false))]) (([] : List Go.Eng.Res) = [] ∧ Ent.tup [SV.c (v6 ((if chkS op a b c obj n fn ord = (0 : Int) ∧ use op (0 : Nat) = true then a else (0 : Int)))), SV.c (SC.v (Value.bool (decide (chkS op a b c obj n fn ord = (0 : Int)) && use op (0 : Nat))))] = Ent.tup [SV.c (v6 (a)), SV.c (SC.v (Value.bool true))]) := by
  rw [(has_use op).1]
  refine ⟨trivial, fun _ => trivial, ?_⟩
  by_cases hc : chkS op a b c obj n fn ord = 0 <;> cases hu0 : use op 0 <;> simp [br, hc]
set_option maxHeartbeats 2000000 in
set_option maxRecDepth 100000 in
theorem f23_met : Go.Eng.Met Tryd.prog cx0.gd 23 ct9 :=
  met_of (cx := cx0) (n := 15) (cl := cl23) (by kernel_rfl) tis_ok ⟨f45_met, f46_met, trivial⟩ Tryd.func23 (by kernel_rfl) (by kernel_rfl) rfl (by kernel_rfl) (by kernel_rfl) fun d hd => by
    obtain ⟨⟨op, a, b, c, obj, n, fn, ord, ⟨⟩⟩, ⟨⟩⟩ := d
    exact ex_of (ann23 op a b c obj n fn ord) (f23_vc op a b c obj n fn ord) (by kernel_rfl)
@[reducible] def ct25 : CT := { ps := [.int .i64], pre := fun d => True, res := fun d => ([], vB (visS d.1)) }
@[reducible] def cl39 : List (Nat × CT) := []
@[reducible] def ann39 (op : Int) : Nat → Option (St → Ann) := fun _ => none
set_option maxRecDepth 100000 in
theorem f39_vc (op : Int) :
    ([] : List Go.Eng.Res) = [] ∧ Ent.one (SV.c (SC.v (Value.bool (visS op)))) = Ent.one (SV.c (SC.v (Value.bool (decide ((8 : Int) ≤ op) && decide (op ≤ (22 : Int)))))) := by
  exact ⟨rfl, rfl⟩
set_option maxHeartbeats 2000000 in
set_option maxRecDepth 100000 in
theorem f39_met : Go.Eng.Met Tryd.prog cx0.gd 39 ct25 :=
  met_of (cx := cx0) (n := 9) (cl := cl39) (by kernel_rfl) tis_ok trivial Tryd.func39 (by kernel_rfl) (by kernel_rfl) rfl (by kernel_rfl) (by kernel_rfl) fun d hd => by
    obtain ⟨op, ⟨⟩⟩ := d
    exact ex_of (ann39 op) (f39_vc op) (by kernel_rfl)
@[reducible] def ct26 : CT := { ps := [.int .i64], pre := fun d => True, res := fun d => ([], vB (visS d.1)) }
@[reducible] def cl24 : List (Nat × CT) := []
@[reducible] def ann24 (op : Int) : Nat → Option (St → Ann) := fun _ => none
set_option maxRecDepth 100000 in
theorem f24_vc (op : Int) :
    ([] : List Go.Eng.Res) = [] ∧ Ent.one (SV.c (SC.v (Value.bool (visS op)))) = Ent.one (SV.c (SC.v (Value.bool (decide ((8 : Int) ≤ op) && decide (op ≤ (22 : Int)))))) := by
  exact ⟨rfl, rfl⟩
set_option maxHeartbeats 2000000 in
set_option maxRecDepth 100000 in
theorem f24_met : Go.Eng.Met Tryd.prog cx0.gd 24 ct26 :=
  met_of (cx := cx0) (n := 9) (cl := cl24) (by kernel_rfl) tis_ok trivial Tryd.func24 (by kernel_rfl) (by kernel_rfl) rfl (by kernel_rfl) (by kernel_rfl) fun d hd => by
    obtain ⟨op, ⟨⟩⟩ := d
    exact ex_of (ann24 op) (f24_vc op) (by kernel_rfl)
end Go.Proofs.YtpfdgbddpdngbaaDoor
set_option linter.unusedSimpArgs false
set_option linter.unusedVariables false
set_option maxRecDepth 100000
namespace Go.Proofs.YtpfdgbddpdngbaaDoor
open Go Go.Eng

@[reducible] def ct46 : CT := { ps := [.sl (.int .i64), .int .i64], pre := fun d => d.1.length ≤ 4611686018427387904, res := fun d => ([], vB (hasI d.1 d.2.1)) }
@[reducible] def cl20 : List (Nat × CT) := []
@[reducible] def ann20 (l : List Int) (x : Int) : Nat → Option (St → Ann) := fun k => match k with
  | 2 => some fun _ => .inv { α := Nat, slots := fun k => [(5, .c (.v (.int .i64 k)))], res := fun _ => [], inv := fun k => k ≤ l.length ∧ ∀ j, j < k → ∀ b, l[j]? = some b → ¬ (b = x), meas := fun k => l.length - k }
  | _ => none
set_option maxRecDepth 100000 in
theorem f20_vc (l : List Int) (x : Int) (hpre : ct46.pre (l, x, ())) :
    (∃ x_1, (x_1 ≤ l.length ∧ ∀ (j : Nat), j < x_1 → ∀ (b : Int), l[j]? = some b → ¬b = x) ∧ (SV.c (v6 ((0 : Int))) = SV.c (v6 ((↑x_1 : Int))) ∧ True) ∧ ([] : List (Go.Eng.Gd × Go.Eng.Res)) = []) ∧ ∀ (x_1 : Nat), (x_1 ≤ l.length ∧ ∀ (j : Nat), j < x_1 → ∀ (b : Int), l[j]? = some b → ¬b = x) → br (decide ((↑x_1 : Int) < (↑l.length : Int))) (((0 : Int) ≤ (↑x_1 : Int) ∧ (↑x_1 : Int) < (↑l.length : Int)) ∧ ∀ (d : Int), l[(↑x_1 : Int).toNat]? = some d → br (decide (d = x)) (([] : List Go.Eng.Res) = [] ∧ Ent.one (SV.c (SC.v (Value.bool (hasI l x)))) = Ent.one (SV.c (SC.v (Value.bool true)))) (InR IntKind.i64 ((↑x_1 : Int) + (1 : Int)) ∧ ∃ x', (x' ≤ l.length ∧ ∀ (j : Nat), j < x' → ∀ (b : Int), l[j]? = some b → ¬b = x) ∧ (SV.c (v6 (((↑x_1 : Int) + (1 : Int)))) = SV.c (v6 ((↑x' : Int))) ∧ True) ∧ ([] : List (Go.Eng.Gd × Go.Eng.Res)) = [] ∧ l.length - x' < l.length - x_1)) (([] : List Go.Eng.Res) = [] ∧ Ent.one (SV.c (SC.v (Value.bool (hasI l x)))) = Ent.one (SV.c (SC.v (Value.bool false)))) := by
  have hp : l.length ≤ 4611686018427387904 := hpre
  refine ⟨⟨0, ⟨by omega, fun j hj => by omega⟩, ⟨rfl, trivial⟩, rfl⟩, fun k hk => br_iff.2 ⟨fun h => ?_, fun h => ?_⟩⟩
  · simp only [decide_eq_true_eq] at h
    refine ⟨by omega, fun d hd => br_iff.2 ⟨fun h2 => ?_, fun h2 => ?_⟩⟩
    · simp only [decide_eq_true_eq] at h2
      have hm : hasI l x = true := List.any_eq_true.2 ⟨d, List.mem_of_getElem? hd, by simpa using h2⟩
      rw [hm]; exact ⟨rfl, rfl⟩
    · simp only [decide_eq_false_iff_not] at h2
      have hd : l[k]? = some d := by simpa using hd
      refine ⟨InR_i64.2 (by omega), k + 1, ⟨by omega, fun j hj b hb => ?_⟩, ⟨by simp, trivial⟩, rfl, by omega⟩
      by_cases hjx : j = k
      · subst hjx
        rw [hd] at hb; cases hb; exact h2
      · exact hk.2 j (by omega) b hb
  · simp only [decide_eq_false_iff_not] at h
    have hm : hasI l x = false := by
      unfold hasI
      rw [List.any_eq_false]
      intro b hb
      obtain ⟨j, hj⟩ := List.getElem?_of_mem hb
      have := (List.getElem?_eq_some_iff.1 hj).1
      simpa using hk.2 j (by omega) b hj
    rw [hm]; exact ⟨rfl, rfl⟩
set_option maxRecDepth 100000 in
theorem f20_met : Go.Eng.Met Tryd.prog cx0.gd 20 ct46 :=
  met_of (cx := cx0) (n := 18) (cl := cl20) (by kernel_rfl) tis_ok trivial Tryd.func20 (by kernel_rfl) (by kernel_rfl) rfl (by kernel_rfl) (by kernel_rfl) fun d hd => by
    obtain ⟨l, x, ⟨⟩⟩ := d
    exact ⟨ann20 l x, cast (by kernel_rfl) (f20_vc l x hd)⟩
@[reducible] def ct13 : CT := { ps := [.sl (.int .i64), .sl (.int .i64)], pre := fun d => d.1.length ≤ 4611686018427387904, res := fun d => ([], vB (decide (d.1 = d.2.1))) }
@[reducible] def cl18 : List (Nat × CT) := []
@[reducible] def ann18 (l : List Int) (m : List Int) : Nat → Option (St → Ann) := fun k => match k with
  | 4 => some fun _ => .inv { α := Nat, slots := fun k => [(5, .c (.v (.int .i64 k)))], res := fun _ => [], inv := fun k => k ≤ l.length ∧ l.length = m.length ∧ ∀ j, j < k → l[j]? = m[j]?, meas := fun k => l.length - k }
  | _ => none
set_option maxRecDepth 100000 in
theorem f18_vc (l : List Int) (m : List Int) (hpre : ct13.pre (l, m, ())) :
    br (!decide ((↑l.length : Int) = (↑m.length : Int))) (([] : List Go.Eng.Res) = [] ∧ Ent.one (SV.c (SC.v (Value.bool (decide (l = m))))) = Ent.one (SV.c (SC.v (Value.bool false)))) ((∃ x, (x ≤ l.length ∧ l.length = m.length ∧ ∀ (j : Nat), j < x → l[j]? = m[j]?) ∧ (SV.c (v6 ((0 : Int))) = SV.c (v6 ((↑x : Int))) ∧ True) ∧ ([] : List (Go.Eng.Gd × Go.Eng.Res)) = []) ∧ ∀ (x : Nat), (x ≤ l.length ∧ l.length = m.length ∧ ∀ (j : Nat), j < x → l[j]? = m[j]?) → br (decide ((↑x : Int) < (↑l.length : Int))) (((0 : Int) ≤ (↑x : Int) ∧ (↑x : Int) < (↑l.length : Int)) ∧ ∀ (d : Int), l[(↑x : Int).toNat]? = some d → ((0 : Int) ≤ (↑x : Int) ∧ (↑x : Int) < (↑m.length : Int)) ∧ ∀ (d_1 : Int), m[(↑x : Int).toNat]? = some d_1 → br (!decide (d = d_1)) (([] : List Go.Eng.Res) = [] ∧ Ent.one (SV.c (SC.v (Value.bool (decide (l = m))))) = Ent.one (SV.c (SC.v (Value.bool false)))) (InR IntKind.i64 ((↑x : Int) + (1 : Int)) ∧ ∃ x', (x' ≤ l.length ∧ l.length = m.length ∧ ∀ (j : Nat), j < x' → l[j]? = m[j]?) ∧ (SV.c (v6 (((↑x : Int) + (1 : Int)))) = SV.c (v6 ((↑x' : Int))) ∧ True) ∧ ([] : List (Go.Eng.Gd × Go.Eng.Res)) = [] ∧ l.length - x' < l.length - x)) (([] : List Go.Eng.Res) = [] ∧ Ent.one (SV.c (SC.v (Value.bool (decide (l = m))))) = Ent.one (SV.c (SC.v (Value.bool true))))) := by
  have hp : l.length ≤ 4611686018427387904 := hpre
  refine br_iff.2 ⟨fun h => ?_, fun h => ?_⟩
  · have hn : l ≠ m := by rintro rfl; simp at h
    rw [show decide (l = m) = false from decide_eq_false hn]; exact ⟨rfl, rfl⟩
  · have hl : l.length = m.length := by simp at h; omega
    refine ⟨⟨0, ⟨by omega, hl, fun j hj => by omega⟩, ⟨rfl, trivial⟩, rfl⟩, fun k hk => br_iff.2 ⟨fun h => ?_, fun h => ?_⟩⟩
    · simp only [decide_eq_true_eq] at h
      refine ⟨by omega, fun d hd => ⟨by omega, fun e he => br_iff.2 ⟨fun h2 => ?_, fun h2 => ?_⟩⟩⟩
      · have hd : l[k]? = some d := by simpa using hd
        have he : m[k]? = some e := by simpa using he
        have hn : l ≠ m := by rintro rfl; rw [hd] at he; cases he; simp at h2
        rw [show decide (l = m) = false from decide_eq_false hn]; exact ⟨rfl, rfl⟩
      · have hd : l[k]? = some d := by simpa using hd
        have he : m[k]? = some e := by simpa using he
        have hde : d = e := by simpa using h2
        refine ⟨InR_i64.2 (by omega), k + 1, ⟨by omega, hl, fun j hj => ?_⟩, ⟨by simp, trivial⟩, rfl, by omega⟩
        by_cases hjx : j = k
        · subst hjx; rw [hd, he, hde]
        · exact hk.2.2 j (by omega)
    · simp only [decide_eq_false_iff_not] at h
      have hlm : l = m := List.ext_getElem? fun j => by
        by_cases hj : j < k
        · exact hk.2.2 j hj
        · rw [List.getElem?_eq_none (by omega), List.getElem?_eq_none (by omega)]
      rw [show decide (l = m) = true from decide_eq_true hlm]; exact ⟨rfl, rfl⟩
set_option maxRecDepth 100000 in
theorem f18_met : Go.Eng.Met Tryd.prog cx0.gd 18 ct13 :=
  met_of (cx := cx0) (n := 26) (cl := cl18) (by kernel_rfl) tis_ok trivial Tryd.func18 (by kernel_rfl) (by kernel_rfl) rfl (by kernel_rfl) (by kernel_rfl) fun d hd => by
    obtain ⟨l, m, ⟨⟩⟩ := d
    exact ⟨ann18 l m, cast (by kernel_rfl) (f18_vc l m hd)⟩
theorem tw_len {p : Int → Bool} : ∀ {l : List Int} {k : Nat}, k ≤ l.length → (∀ j, j < k → ∀ b, l[j]? = some b → p b = true) → (∀ b, l[k]? = some b → p b = false) → (l.takeWhile p).length = k
  | [], k, h, _, _ => by simp at h; simp [h]
  | a :: l, 0, _, _, h2 => by simp [List.takeWhile_cons, h2 a rfl]
  | a :: l, k + 1, h, h1, h2 => by
    have h0 := h1 0 (by omega) a rfl
    simp only [List.takeWhile_cons, h0, if_true, List.length_cons]
    rw [tw_len (by simpa using h) (fun j hj b hb => h1 (j + 1) (by omega) b hb) (fun b hb => h2 b hb)]
@[reducible] def ct47 : CT := { ps := [.sl (.int .i64), .int .i64], pre := fun d => d.1.length ≤ 1000000, res := fun d => ([.row 3 (.int .i64) (d.1.take (posI d.1 d.2.1) ++ [d.2.1] ++ d.1.drop (posI d.1 d.2.1))], .one (.c (.row 0))) }
@[reducible] def cl49 : List (Nat × CT) := []
@[reducible] def ann49 (l : List Int) (x : Int) : Nat → Option (St → Ann) := fun k => match k with
  | 2 => some fun _ => .inv { α := Nat, slots := fun k => [(5, .c (.v (.int .i64 k)))], res := fun _ => [], inv := fun k => k ≤ l.length ∧ ∀ j, j < k → ∀ b, l[j]? = some b → b < x, meas := fun k => l.length - k }
  | _ => none
set_option maxRecDepth 100000 in
theorem f49_vc (l : List Int) (x : Int) (hpre : ct47.pre (l, x, ())) :
    (∃ x_1, (x_1 ≤ l.length ∧ ∀ (j : Nat), j < x_1 → ∀ (b : Int), l[j]? = some b → b < x) ∧ (SV.c (v6 ((0 : Int))) = SV.c (v6 ((↑x_1 : Int))) ∧ True) ∧ ([] : List (Go.Eng.Gd × Go.Eng.Res)) = []) ∧ ∀ (x_1 : Nat), (x_1 ≤ l.length ∧ ∀ (j : Nat), j < x_1 → ∀ (b : Int), l[j]? = some b → b < x) → (decide ((↑x_1 : Int) < (↑l.length : Int)) = true → (0 : Int) ≤ (↑x_1 : Int) ∧ (↑x_1 : Int) < (↑l.length : Int)) ∧ ∀ (d : Int), (decide ((↑x_1 : Int) < (↑l.length : Int)) = true → l[(↑x_1 : Int).toNat]? = some d) → br (decide ((↑x_1 : Int) < (↑l.length : Int)) && decide (d < x)) (InR IntKind.i64 ((↑x_1 : Int) + (1 : Int)) ∧ ∃ x', (x' ≤ l.length ∧ ∀ (j : Nat), j < x' → ∀ (b : Int), l[j]? = some b → b < x) ∧ (SV.c (v6 (((↑x_1 : Int) + (1 : Int)))) = SV.c (v6 ((↑x' : Int))) ∧ True) ∧ ([] : List (Go.Eng.Gd × Go.Eng.Res)) = [] ∧ l.length - x' < l.length - x_1) (((0 : Int) ≤ (0 : Int) ∧ (0 : Int) ≤ (↑x_1 : Int) ∧ (↑x_1 : Int) ≤ (↑l.length : Int)) ∧ InA ((0 : Nat) + List.length (List.drop (0 : Nat) (List.take (↑x_1 : Int).toNat l))) (8 : Nat) ∧ InA (List.length (([] ++ List.drop (0 : Nat) (List.take (↑x_1 : Int).toNat l))) + List.length ([x])) (8 : Nat) ∧ ((0 : Int) ≤ (↑x_1 : Int) ∧ (↑x_1 : Int) ≤ (↑l.length : Int) ∧ (↑l.length : Int) ≤ (↑l.length : Int)) ∧ InA (List.length ((([] ++ List.drop (0 : Nat) (List.take (↑x_1 : Int).toNat l)) ++ [x])) + List.length (List.drop (↑x_1 : Int).toNat (List.take (↑l.length : Int).toNat l))) (8 : Nat) ∧ [Res.row (3 : TypeId) I6 (List.take (posI l x) l ++ [x] ++ List.drop (posI l x) l)] = [Res.row (3 : TypeId) I6 ((([] ++ List.drop (0 : Nat) (List.take (↑x_1 : Int).toNat l)) ++ [x]) ++ List.drop (↑x_1 : Int).toNat (List.take (↑l.length : Int).toNat l))] ∧ Ent.one (SV.c (SC.row (0 : Nat))) = Ent.one (SV.c (SC.row (0 : Nat)))) := by
  have hp : l.length ≤ 1000000 := hpre
  refine ⟨⟨0, ⟨by omega, fun j hj => by omega⟩, ⟨rfl, trivial⟩, rfl⟩, fun k hk => ⟨fun h => by simp only [decide_eq_true_eq] at h; omega, fun d hd => br_iff.2 ⟨fun h => ?_, fun h => ?_⟩⟩⟩
  · simp only [Bool.and_eq_true, decide_eq_true_eq] at h
    have hd : l[k]? = some d := by simpa using hd (by simpa using h.1)
    refine ⟨InR_i64.2 (by omega), k + 1, ⟨by omega, fun j hj b hb => ?_⟩, ⟨by simp, trivial⟩, rfl, by omega⟩
    by_cases hjx : j = k
    · subst hjx
      rw [hd] at hb; cases hb; exact h.2
    · exact hk.2 j (by omega) b hb
  · have hpos : posI l x = k := by
      refine tw_len hk.1 (fun j hj b hb => by simpa using hk.2 j hj b hb) fun b hb => ?_
      have hkl := (List.getElem?_eq_some_iff.1 hb).1
      have hd : l[k]? = some d := by simpa using hd (by simpa using hkl)
      rw [hd] at hb; cases hb
      simp only [Bool.and_eq_false_iff, decide_eq_false_iff_not] at h
      rcases h with h | h
      · omega
      · simpa using h
    have e1 : ((k : Int)).toNat = k := by simp
    have e2 : ((l.length : Int)).toNat = l.length := by simp
    rw [hpos]
    simp only [e1, e2, List.drop_zero, List.take_length, List.nil_append, InA_iff, List.length_append, List.length_take, List.length_drop, List.length_cons, List.length_nil]
    refine ⟨by omega, by omega, by omega, by omega, by omega, ?_⟩
    simp
set_option maxRecDepth 100000 in
theorem f49_met : Go.Eng.Met Tryd.prog cx0.gd 49 ct47 :=
  met_of (cx := cx0) (n := 36) (cl := cl49) (by kernel_rfl) tis_ok trivial Tryd.func49 (by kernel_rfl) (by kernel_rfl) rfl (by kernel_rfl) (by kernel_rfl) fun d hd => by
    obtain ⟨l, x, ⟨⟩⟩ := d
    exact ⟨ann49 l x, cast (by kernel_rfl) (f49_vc l x hd)⟩
@[reducible] def ct41 : CT := { ps := [.sl (.int .i64)], pre := fun d => d.1.length ≤ 1000000, res := fun d => ([.row 3 (.int .i64) (makeI d.1)], .one (.c (.row 0))) }
@[reducible] def cl29 : List (Nat × CT) := [(20, ct46), (49, ct47)]
@[reducible] def ann29 (l : List Int) : Nat → Option (St → Ann) := fun k => match k with
  | 3 => some fun _ => .inv { α := Nat, slots := fun k => [(4, .c (.v (.int .i64 k))), (3, .c (.row 0))], res := fun k => [(0, .row 3 (.int .i64) (makeI (l.take k)))], inv := fun k => k ≤ l.length, meas := fun k => l.length - k, ren := [(0, 1)], drop := [5] }
  | _ => none
set_option maxRecDepth 100000 in
theorem f29_vc (l : List Int) (hpre : ct41.pre (l, ())) :
    (∃ x, x ≤ l.length ∧ (SV.c (v6 ((0 : Int))) = SV.c (v6 ((↑x : Int))) ∧ SV.c (SC.row (0 : Nat)) = SV.c (SC.row (0 : Nat)) ∧ True) ∧ [(([] : Go.Eng.Gd), Res.row (3 : TypeId) I6 [])] = [(([] : Go.Eng.Gd), Res.row (3 : TypeId) I6 (makeI (List.take x l)))]) ∧ ∀ (x : Nat), x ≤ l.length → br (decide ((↑x : Int) < (↑l.length : Int))) (((0 : Int) ≤ (↑x : Int) ∧ (↑x : Int) < (↑l.length : Int)) ∧ ∀ (d : Int), l[(↑x : Int).toNat]? = some d → (makeI (List.take x l)).length ≤ (4611686018427387904 : Nat) ∧ br (!hasI (makeI (List.take x l)) d) (((0 : Int) ≤ (↑x : Int) ∧ (↑x : Int) < (↑l.length : Int)) ∧ ∀ (d : Int), l[(↑x : Int).toNat]? = some d → (makeI (List.take x l)).length ≤ (1000000 : Nat) ∧ InR IntKind.i64 ((↑x : Int) + (1 : Int)) ∧ ∃ x', x' ≤ l.length ∧ (SV.c (v6 (((↑x : Int) + (1 : Int)))) = SV.c (v6 ((↑x' : Int))) ∧ SV.c (SC.row (0 : Nat)) = SV.c (SC.row (0 : Nat)) ∧ True) ∧ [(([] : Go.Eng.Gd), Res.row (3 : TypeId) I6 (List.take (posI (makeI (List.take x l)) d) (makeI (List.take x l)) ++ [d] ++ List.drop (posI (makeI (List.take x l)) d) (makeI (List.take x l))))] = [(([] : Go.Eng.Gd), Res.row (3 : TypeId) I6 (makeI (List.take x' l)))] ∧ l.length - x' < l.length - x) (InR IntKind.i64 ((↑x : Int) + (1 : Int)) ∧ ∃ x', x' ≤ l.length ∧ (SV.c (v6 (((↑x : Int) + (1 : Int)))) = SV.c (v6 ((↑x' : Int))) ∧ SV.c (SC.row (0 : Nat)) = SV.c (SC.row (0 : Nat)) ∧ True) ∧ [(([] : Go.Eng.Gd), Res.row (3 : TypeId) I6 (makeI (List.take x l)))] = [(([] : Go.Eng.Gd), Res.row (3 : TypeId) I6 (makeI (List.take x' l)))] ∧ l.length - x' < l.length - x)) ([Res.row (3 : TypeId) I6 (makeI l)] = [Res.row (3 : TypeId) I6 (makeI (List.take x l))] ∧ Ent.one (SV.c (SC.row (0 : Nat))) = Ent.one (SV.c (SC.row (0 : Nat)))) := by
  have hp : l.length ≤ 1000000 := hpre
  have hlen : ∀ k, (makeI (l.take k)).length ≤ l.length := fun k => Nat.le_trans (makeI_len _) (by simp; omega)
  refine ⟨⟨0, by omega, ⟨rfl, rfl, trivial⟩, rfl⟩, fun k hk => br_iff.2 ⟨fun h => ?_, fun h => ?_⟩⟩
  · simp only [decide_eq_true_eq] at h
    refine ⟨by omega, fun d hd => ⟨by have := hlen k; omega, br_iff.2 ⟨fun h2 => ⟨by omega, fun e he => ⟨by have := hlen k; omega, InR_i64.2 (by omega), k + 1, by omega, ⟨by simp, rfl, trivial⟩, ?_, by omega⟩⟩,
      fun h2 => ⟨InR_i64.2 (by omega), k + 1, by omega, ⟨by simp, rfl, trivial⟩, ?_, by omega⟩⟩⟩⟩
    · have hd : l[k]? = some d := by simpa using hd
      have he : l[k]? = some e := by simpa using he
      rw [hd] at he; cases he
      have h2 : hasI (makeI (l.take k)) d = false := by simpa using h2
      rw [makeI_take hd, h2]; rfl
    · have hd : l[k]? = some d := by simpa using hd
      have h2 : hasI (makeI (l.take k)) d = true := by simpa using h2
      rw [makeI_take hd, h2]; rfl
  · simp only [decide_eq_false_iff_not] at h
    rw [List.take_of_length_le (by omega)]; exact ⟨rfl, rfl⟩
set_option maxRecDepth 100000 in
theorem f29_met : Go.Eng.Met Tryd.prog cx0.gd 29 ct41 :=
  met_of (cx := cx0) (n := 26) (cl := cl29) (by kernel_rfl) tis_ok ⟨f20_met, f49_met, trivial⟩ Tryd.func29 (by kernel_rfl) (by kernel_rfl) rfl (by kernel_rfl) (by kernel_rfl) fun d hd => by
    obtain ⟨l, ⟨⟩⟩ := d
    exact ⟨ann29 l, cast (by kernel_rfl) (f29_vc l hd)⟩
end Go.Proofs.YtpfdgbddpdngbaaDoor
set_option linter.unusedSimpArgs false
set_option linter.unusedVariables false
namespace Go.Proofs.YtpfdgbddpdngbaaDoor
open Go Go.Eng
def filI (l o : List Int) (b : Bool) : List Int := l.filter fun x => hasI o x == b
def remI (l : List Int) (x : Int) : List Int := filI (makeI l) [x] false
def addI (l : List Int) (x : Int) : List Int := makeI (l ++ [x])
theorem rem_ss (l : List Int) (x : Int) : SS (remI l x) := List.Pairwise.filter _ (make_ss l)
theorem rem_mem {l : List Int} {x y : Int} : y ∈ remI l x ↔ y ∈ l ∧ y ≠ x := by
  unfold remI filI
  rw [List.mem_filter, make_mem]
  have : (hasI [x] y == false) = true ↔ y ≠ x := by
    rw [beq_iff_eq, hasI_false, List.mem_singleton]
  rw [this]
theorem add_mem {l : List Int} {x y : Int} : y ∈ addI l x ↔ y ∈ l ∨ y = x := by
  unfold addI
  rw [make_mem]; simp
theorem with_eq {l : List Int} {n : Int} (h : SS l) : l.filter (fun x => decide (x < n)) ++ [n] ++ l.filter (fun x => decide (n < x)) = addI l n := by
  refine ss_ext ?_ (make_ss _) fun x => ?_
  · unfold SS
    rw [List.append_assoc, List.pairwise_append]
    refine ⟨List.Pairwise.filter _ h, ?_, fun a ha b hb => ?_⟩
    · rw [List.singleton_append, List.pairwise_cons]
      refine ⟨fun b hb => ?_, List.Pairwise.filter _ h⟩
      simpa using (List.mem_filter.1 hb).2
    · have ha : a < n := by simpa using (List.mem_filter.1 ha).2
      rw [List.singleton_append, List.mem_cons] at hb
      rcases hb with rfl | hb
      · exact ha
      · have hb : n < b := by simpa using (List.mem_filter.1 hb).2
        omega
  · rw [add_mem]
    simp only [List.append_assoc, List.singleton_append, List.mem_append, List.mem_cons, List.mem_filter, decide_eq_true_eq]
    constructor
    · rintro (⟨q, _⟩ | q | ⟨q, _⟩)
      · exact .inl q
      · exact .inr q
      · exact .inl q
    · rintro (q | q)
      · by_cases h1 : x < n
        · exact .inl ⟨q, h1⟩
        · by_cases h2 : x = n
          · exact .inr (.inl h2)
          · exact .inr (.inr ⟨q, by omega⟩)
      · exact .inr (.inl q)
theorem without_eq {l : List Int} {n : Int} (h : SS l) : l.filter (fun x => decide (x ≠ n)) = remI l n := by
  refine ss_ext (List.Pairwise.filter _ h) (rem_ss _ _) fun x => ?_
  rw [rem_mem, List.mem_filter]; simp
end Go.Proofs.YtpfdgbddpdngbaaDoor
set_option linter.unusedSimpArgs false
set_option linter.unusedVariables false
set_option maxRecDepth 100000
namespace Go.Proofs.YtpfdgbddpdngbaaDoor
open Go Go.Eng

instance (l : List Int) : Decidable (SS l) := inferInstanceAs (Decidable (l.Pairwise (· < ·)))
def validI (l : List Int) : Bool := decide (SS l)
theorem ss_adj : ∀ {l : List Int}, (∀ j x y, l[j]? = some x → l[j + 1]? = some y → x < y) → SS l
  | [], _ => List.Pairwise.nil
  | [a], _ => by simp [SS]
  | a :: b :: l, h => by
    have ih : SS (b :: l) := ss_adj fun j x y h1 h2 => h (j + 1) x y (by simpa using h1) (by simpa using h2)
    refine List.pairwise_cons.2 ⟨fun z hz => ?_, ih⟩
    have hab := h 0 a b rfl rfl
    rcases List.mem_cons.1 hz with rfl | hz
    · exact hab
    · have := (List.pairwise_cons.1 ih).1 z hz; omega
theorem adj_ss {l : List Int} (h : SS l) {j : Nat} {x y : Int} (h1 : l[j]? = some x) (h2 : l[j + 1]? = some y) : x < y := by
  obtain ⟨a1, a2⟩ := List.getElem?_eq_some_iff.1 h1
  obtain ⟨b1, b2⟩ := List.getElem?_eq_some_iff.1 h2
  have := List.pairwise_iff_getElem.1 h j (j + 1) a1 b1 (by omega)
  omega
@[reducible] def ctV : CT := { ps := [.sl (.int .i64)], pre := fun d => d.1.length ≤ 1000000, res := fun d => ([], vB (validI d.1)) }
@[reducible] def ctrV : CT := { ps := [.sl (.int .i64)], pre := fun d => d.1.length ≤ 1000000, res := fun d => ([], vB (validI d.1)) }
@[reducible] def ctrAdd : CT := { ps := [.sl (.int .i64), .int .i64], pre := fun d => d.1.length ≤ 999999, res := fun d => ([.row 3 (.int .i64) (makeI (d.1 ++ [d.2.1]))], .one (.c (.row 0))) }
@[reducible] def ctrUn : CT := { ps := [.sl (.int .i64), .sl (.int .i64)], pre := fun d => d.1.length ≤ 500000 ∧ d.2.1.length ≤ 500000, res := fun d => ([.row 3 (.int .i64) (makeI (d.1 ++ d.2.1))], .one (.c (.row 0))) }
@[reducible] def cl26 : List (Nat × CT) := [(29, ct41)]
@[reducible] def ann26 (l : List Int) (m : List Int) : Nat → Option (St → Ann) := fun _ => none
set_option maxRecDepth 100000 in
theorem f26_vc (l : List Int) (m : List Int) (hpre : ctrUn.pre (l, m, ())) :
    InA ((0 : Nat) + List.length (l)) (8 : Nat) ∧ InA (List.length (([] ++ l)) + List.length (m)) (8 : Nat) ∧ List.length (([] ++ l) ++ m) ≤ (1000000 : Nat) ∧ [Res.row (3 : TypeId) I6 (makeI (l ++ m))] = [Res.row (3 : TypeId) I6 (makeI (([] ++ l) ++ m))] ∧ Ent.one (SV.c (SC.row (0 : Nat))) = Ent.one (SV.c (SC.row (0 : Nat))) := by
  have hp : l.length ≤ 500000 ∧ m.length ≤ 500000 := hpre
  refine ⟨by rw [InA_iff]; omega, by rw [InA_iff]; simp; omega, by simp; omega, by simp, rfl⟩
set_option maxRecDepth 100000 in
theorem f26_met : Go.Eng.Met Tryd.prog cx0.gd 26 ctrUn :=
  met_of (cx := cx0) (n := 14) (cl := cl26) (by kernel_rfl) tis_ok ⟨f29_met, trivial⟩ Tryd.func26 (by kernel_rfl) (by kernel_rfl) rfl (by kernel_rfl) (by kernel_rfl) fun d hd => by
    obtain ⟨l, m, ⟨⟩⟩ := d
    exact ⟨ann26 l m, cast (by kernel_rfl) (f26_vc l m hd)⟩
@[reducible] def ctrInt : CT := { ps := [.sl (.int .i64), .sl (.int .i64)], pre := fun d => d.1.length ≤ 1000000 ∧ d.2.1.length ≤ 1000000, res := fun d => ([.row 3 (.int .i64) (makeI (filI d.1 d.2.1 true))], .one (.c (.row 0))) }
@[reducible] def ctrMin : CT := { ps := [.sl (.int .i64), .sl (.int .i64)], pre := fun d => d.1.length ≤ 1000000 ∧ d.2.1.length ≤ 1000000, res := fun d => ([.row 3 (.int .i64) (makeI (filI d.1 d.2.1 false))], .one (.c (.row 0))) }
@[reducible] def cl47 : List (Nat × CT) := [(20, ct46), (29, ct41)]
@[reducible] def ann47 (l : List Int) (m : List Int) : Nat → Option (St → Ann) := fun k => match k with
  | 3 => some fun _ => .inv { α := Nat, slots := fun k => [(6, .c (.v (.int .i64 k))), (5, .c (.row 0))], res := fun k => [(0, .row 3 (.int .i64) (filI (l.take k) m false))], inv := fun k => k ≤ (l).length, meas := fun k => (l).length - k, drop := [7] }
  | _ => none
set_option maxRecDepth 100000 in
theorem f47_vc (l : List Int) (m : List Int) (hpre : ctrMin.pre (l, m, ())) :
    (∃ x, x ≤ l.length ∧ (SV.c (v6 ((0 : Int))) = SV.c (v6 ((↑x : Int))) ∧ SV.c (SC.row (0 : Nat)) = SV.c (SC.row (0 : Nat)) ∧ True) ∧ [(([] : Go.Eng.Gd), Res.row (3 : TypeId) I6 [])] = [(([] : Go.Eng.Gd), Res.row (3 : TypeId) I6 (filI (List.take x l) m false))]) ∧ ∀ (x : Nat), x ≤ l.length → br (decide ((↑x : Int) < (↑l.length : Int))) (((0 : Int) ≤ (↑x : Int) ∧ (↑x : Int) < (↑l.length : Int)) ∧ ∀ (d : Int), l[(↑x : Int).toNat]? = some d → m.length ≤ (4611686018427387904 : Nat) ∧ br (!hasI m d) (((0 : Int) ≤ (↑x : Int) ∧ (↑x : Int) < (↑l.length : Int)) ∧ ∀ (d : Int), l[(↑x : Int).toNat]? = some d → InA (List.length (filI (List.take x l) m false) + List.length ([d])) (8 : Nat) ∧ InR IntKind.i64 ((↑x : Int) + (1 : Int)) ∧ ∃ x', x' ≤ l.length ∧ (SV.c (v6 (((↑x : Int) + (1 : Int)))) = SV.c (v6 ((↑x' : Int))) ∧ SV.c (SC.row (0 : Nat)) = SV.c (SC.row (0 : Nat)) ∧ True) ∧ [(([] : Go.Eng.Gd), Res.row (3 : TypeId) I6 (filI (List.take x l) m false ++ [d]))] = [(([] : Go.Eng.Gd), Res.row (3 : TypeId) I6 (filI (List.take x' l) m false))] ∧ l.length - x' < l.length - x) (InR IntKind.i64 ((↑x : Int) + (1 : Int)) ∧ ∃ x', x' ≤ l.length ∧ (SV.c (v6 (((↑x : Int) + (1 : Int)))) = SV.c (v6 ((↑x' : Int))) ∧ SV.c (SC.row (0 : Nat)) = SV.c (SC.row (0 : Nat)) ∧ True) ∧ [(([] : Go.Eng.Gd), Res.row (3 : TypeId) I6 (filI (List.take x l) m false))] = [(([] : Go.Eng.Gd), Res.row (3 : TypeId) I6 (filI (List.take x' l) m false))] ∧ l.length - x' < l.length - x)) ((filI (List.take x l) m false).length ≤ (1000000 : Nat) ∧ [Res.row (3 : TypeId) I6 (makeI (filI l m false))] = [Res.row (3 : TypeId) I6 (makeI (filI (List.take x l) m false))] ∧ Ent.one (SV.c (SC.row (0 : Nat))) = Ent.one (SV.c (SC.row (0 : Nat)))) := by
  have hp : l.length ≤ 1000000 ∧ m.length ≤ 1000000 := hpre
  have hf : ∀ k, (filI (l.take k) m false).length ≤ 1000000 := fun k => by
    refine Nat.le_trans (List.length_filter_le _ _) ?_
    rw [List.length_take]; omega
  refine ⟨⟨0, by omega, ⟨rfl, rfl, trivial⟩, by simp [filI]⟩, fun k hk => br_iff.2 ⟨fun h => ?_, fun h => ?_⟩⟩
  · simp only [decide_eq_true_eq] at h
    refine ⟨by omega, fun d hd => ?_⟩
    have hd : l[k]? = some d := by simpa using hd
    have e : filI (l.take (k + 1)) m false = filI (l.take k) m false ++ (if hasI m d == false then [d] else []) := by
      unfold filI
      rw [List.take_add_one, hd, Option.toList_some, List.filter_append]
      congr 1
      simp only [List.filter_cons, List.filter_nil]
    refine ⟨by omega, br_iff.2 ⟨fun h2 => ?_, fun h2 => ?_⟩⟩
    all_goals first
      | (refine ⟨by omega, fun d' hd' => ?_⟩
         have hd' : l[k]? = some d' := by simpa using hd'
         rw [hd] at hd'; cases hd'
         refine ⟨?_, InR_i64.2 (by omega), k + 1, by omega, ⟨by simp, rfl, trivial⟩, ?_, by omega⟩
         · have := hf k
           rw [InA_iff]; simp; omega
         · rw [e]; revert h2; cases hasI m d <;> simp)
      | (refine ⟨InR_i64.2 (by omega), k + 1, by omega, ⟨by simp, rfl, trivial⟩, ?_, by omega⟩
         rw [e]; revert h2; cases hasI m d <;> simp)
  · simp only [decide_eq_false_iff_not] at h
    have := hf l.length
    rw [List.take_length] at this
    rw [List.take_of_length_le (by omega)]; exact ⟨by omega, rfl, rfl⟩
set_option maxRecDepth 100000 in
theorem f47_met : Go.Eng.Met Tryd.prog cx0.gd 47 ctrMin :=
  met_of (cx := cx0) (n := 30) (cl := cl47) (by kernel_rfl) tis_ok ⟨f20_met, f29_met, trivial⟩ Tryd.func47 (by kernel_rfl) (by kernel_rfl) rfl (by kernel_rfl) (by kernel_rfl) fun d hd => by
    obtain ⟨l, m, ⟨⟩⟩ := d
    exact ⟨ann47 l m, cast (by kernel_rfl) (f47_vc l m hd)⟩
@[reducible] def ctrRem : CT := { ps := [.sl (.int .i64), .int .i64], pre := fun d => d.1.length ≤ 1000000, res := fun d => ([.row 3 (.int .i64) (makeI (filI d.1 [d.2.1] false))], .one (.c (.row 0))) }
@[reducible] def cl25 : List (Nat × CT) := [(47, ctrMin)]
@[reducible] def ann25 (l : List Int) (x : Int) : Nat → Option (St → Ann) := fun _ => none
set_option maxRecDepth 100000 in
theorem f25_vc (l : List Int) (x : Int) (hpre : ctrRem.pre (l, x, ())) :
    (l.length ≤ (1000000 : Nat) ∧ [x].length ≤ (1000000 : Nat)) ∧ [Res.row (3 : TypeId) I6 (makeI (filI l [x] false))] = [Res.row (3 : TypeId) I6 (makeI (filI l [x] false))] ∧ Ent.one (SV.c (SC.row (0 : Nat))) = Ent.one (SV.c (SC.row (0 : Nat))) := by
  have hp : l.length ≤ 1000000 := hpre
  exact ⟨⟨hp, by simp⟩, rfl, rfl⟩
set_option maxRecDepth 100000 in
theorem f25_met : Go.Eng.Met Tryd.prog cx0.gd 25 ctrRem :=
  met_of (cx := cx0) (n := 9) (cl := cl25) (by kernel_rfl) tis_ok ⟨f47_met, trivial⟩ Tryd.func25 (by kernel_rfl) (by kernel_rfl) rfl (by kernel_rfl) (by kernel_rfl) fun d hd => by
    obtain ⟨l, x, ⟨⟩⟩ := d
    exact ⟨ann25 l x, cast (by kernel_rfl) (f25_vc l x hd)⟩
end Go.Proofs.YtpfdgbddpdngbaaDoor
namespace Go.Proofs
open Go.Shelf
def Tryd.lays189_ren : Go.Shelf.Ren := ⟨fun | 189 => 59 | 125 => 68 | 257 => 67 | 128 => 79 | 129 => 80 | 294 => 70 | 295 => 71 | 296 => 72 | 297 => 73 | 298 => 74 | 299 => 75 | 216 => 76 | 300 => 77 | 301 => 78 | 328 => 81 | 329 => 82 | 330 => 83 | 331 => 84 | 332 => 85 | 215 => 86 | 343 => 87 | n => n, fun | 28 => 34 | 3 => 3 | 46 => 92 | 0 => 0 | 51 => 104 | 53 => 106 | 4 => 4 | 183 => 97 | 182 => 96 | 131 => 42 | 5 => 5 | 9 => 9 | 218 => 107 | 222 => 111 | 228 => 113 | 229 => 114 | n => n, fun | n => n⟩
theorem Tryd.lays189 : Go.Proofs.Lays.n189 Tryd.prog Tryd.lays189_ren := {
  mixed := by kernel_rfl
  f125 := Tryd.func68.trans (congrArg some (by kernel_rfl))
  f128 := Tryd.func79.trans (congrArg some (by kernel_rfl))
  f129 := Tryd.func80.trans (congrArg some (by kernel_rfl))
  f189 := Tryd.func59.trans (congrArg some (by kernel_rfl))
  f215 := Tryd.func86.trans (congrArg some (by kernel_rfl))
  f216 := Tryd.func76.trans (congrArg some (by kernel_rfl))
  f257 := Tryd.func67.trans (congrArg some (by kernel_rfl))
  f294 := Tryd.func70.trans (congrArg some (by kernel_rfl))
  f295 := Tryd.func71.trans (congrArg some (by kernel_rfl))
  f296 := Tryd.func72.trans (congrArg some (by kernel_rfl))
  f297 := Tryd.func73.trans (congrArg some (by kernel_rfl))
  f298 := Tryd.func74.trans (congrArg some (by kernel_rfl))
  f299 := Tryd.func75.trans (congrArg some (by kernel_rfl))
  f300 := Tryd.func77.trans (congrArg some (by kernel_rfl))
  f301 := Tryd.func78.trans (congrArg some (by kernel_rfl))
  f328 := Tryd.func81.trans (congrArg some (by kernel_rfl))
  f329 := Tryd.func82.trans (congrArg some (by kernel_rfl))
  f330 := Tryd.func83.trans (congrArg some (by kernel_rfl))
  f331 := Tryd.func84.trans (congrArg some (by kernel_rfl))
  f332 := Tryd.func85.trans (congrArg some (by kernel_rfl))
  f343 := Tryd.func87.trans (congrArg some (by kernel_rfl))
  t0 := Tryd.underlying0
  a0 := Tryd.isAgg0
  z0 := Tryd.sizeOf0
  v0 := Tryd.zeroValue0
  t3 := Tryd.underlying3
  a3 := Tryd.isAgg3
  z3 := Tryd.sizeOf3
  v3 := Tryd.zeroValue3
  t4 := Tryd.underlying4
  a4 := Tryd.isAgg4
  z4 := Tryd.sizeOf4
  v4 := Tryd.zeroValue4
  t5 := Tryd.underlying5
  a5 := Tryd.isAgg5
  z5 := Tryd.sizeOf5
  v5 := Tryd.zeroValue5
  t9 := Tryd.underlying9
  a9 := Tryd.isAgg9
  z9 := Tryd.sizeOf9
  v9 := Tryd.zeroValue9
  t28 := Tryd.underlying34
  a28 := Tryd.isAgg34
  z28 := Tryd.sizeOf34
  v28 := Tryd.zeroValue34
  t46 := Tryd.underlying92
  a46 := Tryd.isAgg92
  z46 := Tryd.sizeOf92
  v46 := Tryd.zeroValue92
  t51 := Tryd.underlying104
  a51 := Tryd.isAgg104
  z51 := Tryd.sizeOf104
  v51 := Tryd.zeroValue104
  t53 := Tryd.underlying106
  a53 := Tryd.isAgg106
  z53 := Tryd.sizeOf106
  v53 := Tryd.zeroValue106
  t131 := Tryd.underlying42
  a131 := Tryd.isAgg42
  z131 := Tryd.sizeOf42
  v131 := Tryd.zeroValue42
  t182 := Tryd.underlying96
  a182 := Tryd.isAgg96
  z182 := Tryd.sizeOf96
  v182 := Tryd.zeroValue96
  t183 := Tryd.underlying97
  a183 := Tryd.isAgg97
  z183 := Tryd.sizeOf97
  v183 := Tryd.zeroValue97
  t218 := Tryd.underlying107
  a218 := Tryd.isAgg107
  z218 := Tryd.sizeOf107
  v218 := Tryd.zeroValue107
  t222 := Tryd.underlying111
  a222 := Tryd.isAgg111
  z222 := Tryd.sizeOf111
  v222 := Tryd.zeroValue111
  t228 := Tryd.underlying113
  a228 := Tryd.isAgg113
  z228 := Tryd.sizeOf113
  v228 := Tryd.zeroValue113
  t229 := Tryd.underlying114
  a229 := Tryd.isAgg114
  z229 := Tryd.sizeOf114
  v229 := Tryd.zeroValue114 }
open Go.Sort Go.RowKit in
theorem Tryd.slices_Sort_int (blk off cap : Nat) (zs : List Int) (w : World) (hH : Holds (Value.int .i64) w blk off zs.toArray) (hblk : blk < w.heap.size) (hsz : zs.length < 4611686018427387904) :
    Calls Tryd.prog 59 #[.slice (some ⟨blk, off, none⟩) zs.length cap] w fun e w' =>
      e = .returned (.tuple #[]) ∧ ∃ n os, w' = grow (putRow (Value.int .i64) (Sort.ahead w n) blk off (zs.mergeSort fun x y => decide (x ≤ y)).toArray) os := Any.slices_Sort_int Tryd.lays189 blk off cap zs w hH hblk hsz
def Tryd.laysNm220_ren : Go.Shelf.Ren := ⟨fun | 20 => 60 | n => n, fun | 22 => 34 | 3 => 3 | 4 => 4 | 0 => 0 | n => n, fun | n => n⟩
theorem Tryd.laysNm220 : Go.Proofs.Lays2.n20 Tryd.prog Tryd.laysNm220_ren := {
  mixed := by kernel_rfl
  f20 := Tryd.func60.trans (congrArg some (by kernel_rfl))
  t0 := Tryd.underlying0
  a0 := Tryd.isAgg0
  z0 := Tryd.sizeOf0
  v0 := Tryd.zeroValue0
  t3 := Tryd.underlying3
  a3 := Tryd.isAgg3
  z3 := Tryd.sizeOf3
  v3 := Tryd.zeroValue3
  t4 := Tryd.underlying4
  a4 := Tryd.isAgg4
  z4 := Tryd.sizeOf4
  v4 := Tryd.zeroValue4
  t22 := Tryd.underlying34
  a22 := Tryd.isAgg34
  z22 := Tryd.sizeOf34
  v22 := Tryd.zeroValue34
  i3 := by kernel_rfl }
open Go.RowKit Go.Lib Go.Sort in
/-- slices.Compact at []int, over an array: the library's two loops are walked. (LAID: no walk: one application.) -/
theorem Tryd.slices_Compact_int_arr (blk off cap : Nat) (d : Array Int) (w : World) (hH : Holds encI w blk off d) (hsz : d.size ≤ 9223372036854775807) (hcap : d.size ≤ cap) :
    Calls Tryd.prog 60 #[.slice (some ⟨blk, off, none⟩) d.size cap] w fun e w' => e = .returned (.slice (some ⟨blk, off, none⟩) (compactUpTo d d.size).length cap) ∧ ∃ q, w' = putRow encI (Sort.ahead w q) blk off (compactUpTo d d.size ++ List.replicate (d.size - (compactUpTo d d.size).length) 0).toArray := Any.slices_Compact_int_arr Tryd.laysNm220 blk off cap d w hH hsz hcap
open Go.RowKit Go.Lib Go.Sort in
/-- slices.Compact at []int: "Compact replaces consecutive runs of equal elements with a single copy. This is like the uniq command found on Unix. Compact modifies the contents of the slice s and returns the modified slice, which may have a smaller length. Compact zeroes the elements between the new length and the original length. The result preserves the nilness of s.": IT RETURNS THE SLICE CUT TO 'Lib.compact zs'; ITS CELLS HOLD 'Lib.compact zs', THEN ZERO VALUES up to the old length; all else is as it was, but for the count of draws. IN THE WORDS OF slices.Sort's CONTRACT ('Holds', 'putRow'): so the everyday 'slices.Sort(xs); xs = slices.Compact(xs)' goes from the one contract to the other. It asks 'zs.length ≤ cap' (every slice's: the reslicing 's[:k]' looks at it). Length 0, nil: '.._empty'. (LAID: no walk: one application.) -/
theorem Tryd.slices_Compact_int (blk off cap : Nat) (zs : List Int) (w : World) (hH : Holds (Value.int .i64) w blk off zs.toArray) (hsz : zs.length ≤ 9223372036854775807) (hcap : zs.length ≤ cap) :
    Calls Tryd.prog 60 #[.slice (some ⟨blk, off, none⟩) zs.length cap] w fun e w' => e = .returned (.slice (some ⟨blk, off, none⟩) (Lib.compact zs).length cap) ∧ ∃ q, w' = putRow (Value.int .i64) (Sort.ahead w q) blk off (Lib.compact zs ++ List.replicate (zs.length - (Lib.compact zs).length) 0).toArray := Any.slices_Compact_int Tryd.laysNm220 blk off cap zs w hH hsz hcap
open Go.RowKit Go.Lib Go.Sort in
/-- The same at a slice of length 0, a nil one too: it comes back as it is. (LAID: no walk: one application.) -/
theorem Tryd.slices_Compact_int_empty (a : Option Addr) (cap : Nat) (w : World) :
    Calls Tryd.prog 60 #[.slice a 0 cap] w fun e w' => e = .returned (.slice a 0 cap) ∧ w' = w := Any.slices_Compact_int_empty Tryd.laysNm220 a cap w
end Go.Proofs
set_option linter.unusedSimpArgs false
set_option linter.unusedVariables false
set_option maxRecDepth 100000
namespace Go.Proofs.YtpfdgbddpdngbaaDoor
open Go Go.Eng

def Mt (l : List Int) : Prop := l = []
theorem Mt.nil : Mt [] := rfl
@[reducible] def ct58z : CT := { ps := [.int .u64], pre := fun d => d.1 = 0, res := fun d => ([], .one (.c (.v (.int .i64 0)))) }
@[reducible] def cl80 : List (Nat × CT) := []
@[reducible] def ann80  : Nat → Option (St → Ann) := fun _ => none
set_option maxRecDepth 100000 in
theorem f80_vc  :
    ((0 : Int) ≤ (0 : Int) ∧ (0 : Int) < (256 : Int)) ∧ ∀ (u : UInt8), { data := (([(0 : UInt8), (1 : UInt8), (2 : UInt8), (2 : UInt8), (3 : UInt8), (3 : UInt8), (3 : UInt8), (3 : UInt8), (4 : UInt8), (4 : UInt8), (4 : UInt8), (4 : UInt8), (4 : UInt8), (4 : UInt8), (4 : UInt8), (4 : UInt8), (5 : UInt8), (5 : UInt8), (5 : UInt8), (5 : UInt8), (5 : UInt8), (5 : UInt8), (5 : UInt8), (5 : UInt8), (5 : UInt8), (5 : UInt8), (5 : UInt8), (5 : UInt8), (5 : UInt8), (5 : UInt8), (5 : UInt8), (5 : UInt8), (6 : UInt8), (6 : UInt8), (6 : UInt8), (6 : UInt8), (6 : UInt8), (6 : UInt8), (6 : UInt8), (6 : UInt8), (6 : UInt8), (6 : UInt8), (6 : UInt8), (6 : UInt8), (6 : UInt8), (6 : UInt8), (6 : UInt8), (6 : UInt8), (6 : UInt8), (6 : UInt8), (6 : UInt8), (6 : UInt8), (6 : UInt8), (6 : UInt8), (6 : UInt8), (6 : UInt8), (6 : UInt8), (6 : UInt8), (6 : UInt8), (6 : UInt8), (6 : UInt8), (6 : UInt8), (6 : UInt8), (6 : UInt8)].append [(7 : UInt8), (7 : UInt8), (7 : UInt8), (7 : UInt8), (7 : UInt8), (7 : UInt8), (7 : UInt8), (7 : UInt8), (7 : UInt8), (7 : UInt8), (7 : UInt8), (7 : UInt8), (7 : UInt8), (7 : UInt8), (7 : UInt8), (7 : UInt8), (7 : UInt8), (7 : UInt8), (7 : UInt8), (7 : UInt8), (7 : UInt8), (7 : UInt8), (7 : UInt8), (7 : UInt8), (7 : UInt8), (7 : UInt8), (7 : UInt8), (7 : UInt8), (7 : UInt8), (7 : UInt8), (7 : UInt8), (7 : UInt8), (7 : UInt8), (7 : UInt8), (7 : UInt8), (7 : UInt8), (7 : UInt8), (7 : UInt8), (7 : UInt8), (7 : UInt8), (7 : UInt8), (7 : UInt8), (7 : UInt8), (7 : UInt8), (7 : UInt8), (7 : UInt8), (7 : UInt8), (7 : UInt8), (7 : UInt8), (7 : UInt8), (7 : UInt8), (7 : UInt8), (7 : UInt8), (7 : UInt8), (7 : UInt8), (7 : UInt8), (7 : UInt8), (7 : UInt8), (7 : UInt8), (7 : UInt8), (7 : UInt8), (7 : UInt8), (7 : UInt8), (7 : UInt8)]).append ([(8 : UInt8), (8 : UInt8), (8 : UInt8), (8 : UInt8), (8 : UInt8), (8 : UInt8), (8 : UInt8), (8 : UInt8), (8 : UInt8), (8 : UInt8), (8 : UInt8), (8 : UInt8), (8 : UInt8), (8 : UInt8), (8 : UInt8), (8 : UInt8), (8 : UInt8), (8 : UInt8), (8 : UInt8), (8 : UInt8), (8 : UInt8), (8 : UInt8), (8 : UInt8), (8 : UInt8), (8 : UInt8), (8 : UInt8), (8 : UInt8), (8 : UInt8), (8 : UInt8), (8 : UInt8), (8 : UInt8), (8 : UInt8), (8 : UInt8), (8 : UInt8), (8 : UInt8), (8 : UInt8), (8 : UInt8), (8 : UInt8), (8 : UInt8), (8 : UInt8), (8 : UInt8), (8 : UInt8), (8 : UInt8), (8 : UInt8), (8 : UInt8), (8 : UInt8), (8 : UInt8), (8 : UInt8), (8 : UInt8), (8 : UInt8), (8 : UInt8), (8 : UInt8), (8 : UInt8), (8 : UInt8), (8 : UInt8), (8 : UInt8), (8 : UInt8), (8 : UInt8), (8 : UInt8), (8 : UInt8), (8 : UInt8), (8 : UInt8), (8 : UInt8), (8 : UInt8)].append [(8 : UInt8), (8 : UInt8), (8 : UInt8), (8 : UInt8), (8 : UInt8), (8 : UInt8), (8 : UInt8), (8 : UInt8), (8 : UInt8), (8 : UInt8), (8 : UInt8), (8 : UInt8), (8 : UInt8), (8 : UInt8), (8 : UInt8), (8 : UInt8), (8 : UInt8), (8 : UInt8), (8 : UInt8), (8 : UInt8), (8 : UInt8), (8 : UInt8), (8 : UInt8), (8 : UInt8), (8 : UInt8), (8 : UInt8), (8 : UInt8), (8 : UInt8), (8 : UInt8), (8 : UInt8), (8 : UInt8), (8 : UInt8), (8 : UInt8), (8 : UInt8), (8 : UInt8), (8 : UInt8), (8 : UInt8), (8 : UInt8), (8 : UInt8), (8 : UInt8), (8 : UInt8), (8 : UInt8), (8 : UInt8), (8 : UInt8), (8 : UInt8), (8 : UInt8), (8 : UInt8), (8 : UInt8), (8 : UInt8), (8 : UInt8), (8 : UInt8), (8 : UInt8), (8 : UInt8), (8 : UInt8), (8 : UInt8), (8 : UInt8), (8 : UInt8), (8 : UInt8), (8 : UInt8), (8 : UInt8), (8 : UInt8), (8 : UInt8), (8 : UInt8), (8 : UInt8)])).toArray : ByteArray }[(0 : Nat)]? = some u → InR IntKind.i64 (↑u.toNat : Int) ∧ InR IntKind.i64 ((0 : Int) + (↑u.toNat : Int)) ∧ ([] : List Go.Eng.Res) = [] ∧ Ent.one (SV.c (v6 ((0 : Int)))) = Ent.one (SV.c (v6 (((0 : Int) + (↑u.toNat : Int))))) := by
  refine ⟨by omega, fun u hu => ?_⟩
  have hu : some (0 : UInt8) = some u := hu
  cases hu
  exact ⟨InR_i64.2 (by decide), InR_i64.2 (by decide), rfl, rfl⟩
set_option maxHeartbeats 2000000 in
set_option maxRecDepth 100000 in
theorem f80_met : Go.Eng.Met Tryd.prog cx0.gd 80 ct58z :=
  met_of (cx := cx0) (n := 25) (cl := cl80) (by kernel_rfl) tis_ok trivial Tryd.func80 (by kernel_rfl) (by kernel_rfl) rfl (by kernel_rfl) (by kernel_rfl) fun d hd => by
    obtain ⟨x, ⟨⟩⟩ := d
    simp only at hd
    subst hd
    exact ex_of (ann80 ) (f80_vc ) (by kernel_rfl)
@[reducible] def ct45z : CT := { ps := [.int .u64], pre := fun d => d.1 = 0, res := fun d => ([], .one (.c (.v (.int .i64 0)))) }
@[reducible] def cl68 : List (Nat × CT) := [(80, ct58z)]
@[reducible] def ann68  : Nat → Option (St → Ann) := fun _ => none
set_option maxRecDepth 100000 in
theorem f68_vc  :
    (0 : (Sh.int IntKind.u64).den) = (0 : (Sh.int IntKind.u64).den) ∧ ([] : List Go.Eng.Res) = [] ∧ Ent.one (SV.c (v6 ((0 : Int)))) = Ent.one (SV.c (v6 ((0 : Int)))) := by
  exact ⟨rfl, rfl, rfl⟩
set_option maxHeartbeats 2000000 in
set_option maxRecDepth 100000 in
theorem f68_met : Go.Eng.Met Tryd.prog cx0.gd 68 ct45z :=
  met_of (cx := cx0) (n := 8) (cl := cl68) (by kernel_rfl) tis_ok ⟨f80_met, trivial⟩ Tryd.func68 (by kernel_rfl) (by kernel_rfl) rfl (by kernel_rfl) (by kernel_rfl) fun d hd => by
    obtain ⟨x, ⟨⟩⟩ := d
    simp only at hd
    subst hd
    exact ex_of (ann68 ) (f68_vc ) (by kernel_rfl)
@[reducible] def ct48z : CT := { ps := [.sl (.int .i64), .int .i64, .int .i64], pre := fun d => Mt d.1 ∧ d.2.1 = 0 ∧ d.2.2.1 = 0, res := fun d => ([], .tup []) }
@[reducible] def cl70 : List (Nat × CT) := []
@[reducible] def ann70  : Nat → Option (St → Ann) := fun _ => some fun _ => .unroll 1
set_option maxRecDepth 100000 in
theorem f70_vc  :
    InR IntKind.i64 (1 : Int) ∧ ([] : List Go.Eng.Res) = [] ∧ Ent.tup [] = Ent.tup [] := by
  exact ⟨InR_i64.2 (by omega), rfl, rfl⟩
set_option maxHeartbeats 2000000 in
set_option maxRecDepth 100000 in
theorem f70_met : Go.Eng.Met Tryd.prog cx0.gd 70 ct48z :=
  met_of (cx := cx0) (n := 49) (cl := cl70) (by kernel_rfl) tis_ok trivial Tryd.func70 (by kernel_rfl) (by kernel_rfl) rfl (by kernel_rfl) (by kernel_rfl) fun d hd => by
    obtain ⟨l, a, b, ⟨⟩⟩ := d
    obtain ⟨h1, h2, h3⟩ := hd
    simp only at h1 h2 h3
    have h1 : l = [] := h1
    subst h1; subst h2; subst h3
    exact ex_of (ann70 ) (f70_vc ) (by kernel_rfl)
@[reducible] def ct44z : CT := { ps := [.sl (.int .i64), .int .i64, .int .i64, .int .i64], pre := fun d => Mt d.1 ∧ d.2.1 = 0 ∧ d.2.2.1 = 0, res := fun d => ([], .tup []) }
@[reducible] def cl67 : List (Nat × CT) := [(70, ct48z)]
@[reducible] def ann67 (m : Int) : Nat → Option (St → Ann) := fun _ => some fun _ => .unroll 1
set_option maxRecDepth 100000 in
theorem f67_vc (m : Int) :
    InR IntKind.i64 (0 : Int) ∧ (Mt [] ∧ (0 : I6.den) = (0 : I6.den) ∧ (0 : I6.den) = (0 : I6.den)) ∧ ([] : List Go.Eng.Res) = [] ∧ Ent.tup [] = Ent.tup [] := by
  exact ⟨InR_i64.2 (by omega), ⟨rfl, rfl, rfl⟩, rfl, rfl⟩
set_option maxHeartbeats 2000000 in
set_option maxRecDepth 100000 in
theorem f67_met : Go.Eng.Met Tryd.prog cx0.gd 67 ct44z :=
  met_of (cx := cx0) (n := 134) (cl := cl67) (by kernel_rfl) tis_ok ⟨f70_met, trivial⟩ Tryd.func67 (by kernel_rfl) (by kernel_rfl) rfl (by kernel_rfl) (by kernel_rfl) fun d hd => by
    obtain ⟨l, a, b, m, ⟨⟩⟩ := d
    obtain ⟨h1, h2, h3⟩ := hd
    simp only at h1 h2 h3
    have h1 : l = [] := h1
    subst h1; subst h2; subst h3
    exact ex_of (ann67 m) (f67_vc m) (by kernel_rfl)
@[reducible] def ct39z : CT := { ps := [.sl (.int .i64)], pre := fun d => Mt d.1, res := fun d => ([], .tup []) }
@[reducible] def cl59 : List (Nat × CT) := [(67, ct44z), (68, ct45z)]
@[reducible] def ann59  : Nat → Option (St → Ann) := fun _ => none
set_option maxRecDepth 100000 in
theorem f59_vc  :
    (0 : Int) = (0 : (Sh.int IntKind.u64).den) ∧ (Mt [] ∧ (0 : Int) = (0 : I6.den) ∧ (0 : Int) = (0 : I6.den)) ∧ ([] : List Go.Eng.Res) = [] ∧ Ent.tup [] = Ent.tup [] := by
  exact ⟨rfl, ⟨rfl, rfl, rfl⟩, rfl, rfl⟩
set_option maxHeartbeats 2000000 in
set_option maxRecDepth 100000 in
theorem f59_met : Go.Eng.Met Tryd.prog cx0.gd 59 ct39z :=
  met_of (cx := cx0) (n := 11) (cl := cl59) (by kernel_rfl) tis_ok ⟨f67_met, f68_met, trivial⟩ Tryd.func59 (by kernel_rfl) (by kernel_rfl) rfl (by kernel_rfl) (by kernel_rfl) fun d hd => by
    obtain ⟨l, ⟨⟩⟩ := d
    have hd : l = [] := hd
    subst hd
    exact ex_of (ann59 ) (f59_vc ) (by kernel_rfl)
theorem f59_ip : MetIP Tryd.prog cx0.gd 59 ipSort := ⟨ipok_sort f59_met.1 rfl (fun blk cap zs w hH hb hz => Tryd.slices_Sort_int blk 0 cap zs w hH hb hz), f59_met.2⟩
theorem f60_ip : MetIP Tryd.prog cx0.gd 60 ipCompact := ⟨ipok_compact (fun a cap w => Tryd.slices_Compact_int_empty a cap w) (fun blk cap zs w hH h1 h2 => Tryd.slices_Compact_int blk 0 cap zs w hH h1 h2), ⟨_, Tryd.func60, rfl, by kernel_rfl⟩⟩
/-- The registers that an instruction reads, in the order of its fields. -/
def useL (op b c : Int) : List Int := (if use op 1 then [b] else []) ++ (if use op 2 then [c] else [])
def usesS (op a b c obj n fn ord : Int) : List Int := if chkS op a b c obj n fn ord = 0 then makeI (useL op b c) else []
theorem sortI_two (x y : Int) : sortI [x, y] = if x ≤ y then [x, y] else [y, x] := by
  unfold sortI
  simp [List.mergeSort, List.MergeSort.Internal.splitInTwo, List.merge]
theorem sortI_len (l : List Int) : (sortI l).length = l.length := by simp [sortI]
theorem sortI_one (x : Int) : sortI [x] = [x] := by simp [sortI]
theorem compact_one (x : Int) : Lib.compact [x] = [x] := by
  simp [Lib.compact, Lib.compactUpTo, Lib.keeps, List.range_succ]
theorem compact_two (x y : Int) : Lib.compact [x, y] = if x = y then [x] else [x, y] := by
  by_cases h : x = y
  · subst h; simp [Lib.compact, Lib.compactUpTo, Lib.keeps, List.range_succ]
  · simp [Lib.compact, Lib.compactUpTo, Lib.keeps, List.range_succ, h, Ne.symm h]
theorem makeI_one (x : Int) : makeI [x] = [x] := by
  simp [makeI, insI, hasI]
theorem makeI_two (x y : Int) : makeI [x, y] = if x = y then [x] else if x < y then [x, y] else [y, x] := by
  by_cases h : x = y
  · subst h; simp [makeI, insI, hasI]
  · by_cases h2 : x < y <;> simp [makeI, insI, hasI, posI, h, h2, Ne.symm h, show ¬ y = x from fun e => h e.symm]
theorem comp_two (x y : Int) : Lib.compact (sortI [x, y]) = makeI [x, y] := by
  rw [sortI_two, makeI_two]
  by_cases h : x ≤ y
  · rw [if_pos h, compact_two]; grind
  · rw [if_neg h, compact_two]; grind
@[reducible] def ct40z : CT := { ps := [.sl (.int .i64)], pre := fun d => Mt d.1, res := fun d => ([], .one (.c (.sl (.int .i64) []))) }
theorem f60_met : Go.Eng.Met Tryd.prog cx0.gd 60 ct40z := by
  refine ⟨?_, f60_ip.2⟩
  rintro ⟨l, ⟨⟩⟩ vs h B hw hg ha hpre
  have hpre : l = [] := hpre
  subst hpre
  match vs, ha with
  | [v], ⟨⟨hv, ho⟩, _⟩ =>
    have e : ∃ a cap, v = .slice a 0 cap := by
      rcases hv with ⟨rfl, _⟩ | ⟨ad, cap, rfl, _⟩ | ⟨b, off, cap, rfl, _⟩
      · exact ⟨none, 0, rfl⟩
      · exact ⟨some ad, cap, rfl⟩
      · exact ⟨some ⟨b, off, none⟩, cap, rfl⟩
    obtain ⟨a, cap, rfl⟩ := e
    refine (Tryd.slices_Compact_int_empty a cap B).mono ?_
    rintro en w' ⟨rfl, rfl⟩
    exact ⟨h, [], _, rfl, ⟨Bw.refl (Base.of _), Nat.le_refl _, rfl, fun i r v e _ => by simp at e, fun i r v b e _ _ _ => by simp at e, fun i j r r' u v b e _ _ _ _ _ _ _ => by simp at e, FH.le.refl h, hw, fun b o v hh => .inl hh, fun k o hh => hh.elim⟩, hv, ho⟩
theorem chk_known {op a b c obj n fn ord : Int} (h : chkS op a b c obj n fn ord = 0) : 1 ≤ op ∧ op ≤ 22 := by
  unfold chkS at h
  split at h
  · omega
  · rename_i hk; simpa [knownS] using hk
@[reducible] def ct14 : CT := { ps := [shI], pre := fun d => True, res := fun d => ([], .one (.c (.sl (.int .i64) (usesS d.1.1 d.1.2.1 d.1.2.2.1 d.1.2.2.2.1 d.1.2.2.2.2.1 d.1.2.2.2.2.2.1 d.1.2.2.2.2.2.2.1 d.1.2.2.2.2.2.2.2.1)))) }
@[reducible] def cl52 : List (Nat × CT) := [(55, ct11), (59, ct39z), (60, ct40z)]
@[reducible] def il52 : List (Nat × IP) := [(59, ipSort), (60, ipCompact)]
@[reducible] def ann52 (op : Int) (a : Int) (b : Int) (c : Int) (obj : Int) (n : Int) (fn : Int) (ord : Int) : Nat → Option (St → Ann) := fun _ => none
set_option maxRecDepth 100000 in
theorem f52_vc (op : Int) (a : Int) (b : Int) (c : Int) (obj : Int) (n : Int) (fn : Int) (ord : Int) :
    True ∧ br (!decide (chkS op a b c obj n fn ord = (0 : Int))) (([] : List Go.Eng.Res) = [] ∧ Ent.one (SV.c (SC.sl I6 (usesS op a b c obj n fn ord))) = Ent.one (SV.c (SC.sl I6 []))) (InR IntKind.i64 (op - (1 : Int)) ∧ ((0 : Int) ≤ op - (1 : Int) ∧ op - (1 : Int) < (22 : Int)) ∧ ∀ (d : Sh.str.den × ((Sh.arr (7 : Nat) Sh.bool).pair Sh.unit).den), rowsD[(op - (1 : Int)).toNat]? = some d → ((0 : Int) ≤ (1 : Int) ∧ (1 : Int) < (7 : Int)) ∧ (1 : Nat) < (7 : Nat) ∧ ∀ (d_1 : Bool), (d.snd.fst, (7 : Nat), (0 : Nat)).fst[(1 : Nat)]? = some d_1 → br d_1 (InA (List.length ([b])) (8 : Nat) ∧ ((0 : Int) ≤ (2 : Int) ∧ (2 : Int) < (7 : Int)) ∧ (2 : Nat) < (7 : Nat) ∧ ∀ (d_2 : Bool), (d.snd.fst, (7 : Nat), (0 : Nat)).fst[(2 : Nat)]? = some d_2 → br d_2 (InA (List.length ([b]) + List.length ([c])) (8 : Nat) ∧ List.length (([b] ++ [c])) < (4611686018427387904 : Nat) ∧ List.length (sortI (([b] ++ [c]))) < (4611686018427387904 : Nat) ∧ ([] : List Go.Eng.Res) = [] ∧ Ent.one (SV.c (SC.sl I6 (usesS op a b c obj n fn ord))) = Ent.one (SV.c (SC.sl I6 (Lib.compact (sortI (([b] ++ [c]))))))) (List.length ([b]) < (4611686018427387904 : Nat) ∧ List.length (sortI ([b])) < (4611686018427387904 : Nat) ∧ ([] : List Go.Eng.Res) = [] ∧ Ent.one (SV.c (SC.sl I6 (usesS op a b c obj n fn ord))) = Ent.one (SV.c (SC.sl I6 (Lib.compact (sortI ([b]))))))) (((0 : Int) ≤ (2 : Int) ∧ (2 : Int) < (7 : Int)) ∧ (2 : Nat) < (7 : Nat) ∧ ∀ (d_2 : Bool), (d.snd.fst, (7 : Nat), (0 : Nat)).fst[(2 : Nat)]? = some d_2 → br d_2 (InA (List.length ([c])) (8 : Nat) ∧ List.length ([c]) < (4611686018427387904 : Nat) ∧ List.length (sortI ([c])) < (4611686018427387904 : Nat) ∧ ([] : List Go.Eng.Res) = [] ∧ Ent.one (SV.c (SC.sl I6 (usesS op a b c obj n fn ord))) = Ent.one (SV.c (SC.sl I6 (Lib.compact (sortI ([c])))))) (Mt [] ∧ Mt [] ∧ ([] : List Go.Eng.Res) = [] ∧ Ent.one (SV.c (SC.sl I6 (usesS op a b c obj n fn ord))) = Ent.one (SV.c (SC.sl I6 ([])))))) := by
  refine ⟨trivial, br_iff.2 ⟨fun h => ?_, fun h => ?_⟩⟩
  · have h : ¬ chkS op a b c obj n fn ord = 0 := by simpa using h
    rw [show usesS op a b c obj n fn ord = [] from if_neg h]; exact ⟨rfl, rfl⟩
  · have h0 : chkS op a b c obj n fn ord = 0 := by simpa using h
    have hb := chk_known h0
    rw [show usesS op a b c obj n fn ord = makeI (useL op b c) from if_pos h0]
    refine ⟨InR_i64.2 (by omega), by omega, fun d hd => ?_⟩
    obtain ⟨nm, us, ⟨⟩⟩ := d
    have hu := rows_use hb hd
    subst hu
    clear hd h h0
    simp only [List.getElem?_cons_zero, List.getElem?_cons_succ, Option.some.injEq, forall_eq', useL]
    generalize use op 1 = u1
    generalize use op 2 = u2
    cases u1 <;> cases u2 <;> simp [br, InA, sortI_len, sortI_one, comp_two, compact_one, makeI_one, Mt]
    rfl
set_option maxHeartbeats 2000000 in
set_option maxRecDepth 100000 in
theorem f52_met : Go.Eng.Met Tryd.prog cx0.gd 52 ct14 :=
  met_ip (il := il52) (rc := [.data (.sl (.int .i64))]) (cx := cx0) (n := 32) (cl := cl52) (by kernel_rfl) tis_ok ⟨f55_met, f59_met, f60_met, trivial⟩ ⟨f59_ip, f60_ip, trivial⟩ Tryd.func52 (by kernel_rfl) (by kernel_rfl) rfl (by kernel_rfl) (by kernel_rfl) fun d hd => by
    obtain ⟨⟨op, a, b, c, obj, n, fn, ord, ⟨⟩⟩, ⟨⟩⟩ := d
    exact ex_of (ann52 op a b c obj n fn ord) (f52_vc op a b c obj n fn ord) (by kernel_rfl)
@[reducible] def ct15 : CT := { ps := [shI], pre := fun d => True, res := fun d => ([], .one (.c (.sl (.int .i64) (usesS d.1.1 d.1.2.1 d.1.2.2.1 d.1.2.2.2.1 d.1.2.2.2.2.1 d.1.2.2.2.2.2.1 d.1.2.2.2.2.2.2.1 d.1.2.2.2.2.2.2.2.1)))) }
@[reducible] def cl27 : List (Nat × CT) := [(45, ct12), (46, ct33), (29, ct41)]
@[reducible] def il27 : List (Nat × IP) := []
@[reducible] def ann27 (op : Int) (a : Int) (b : Int) (c : Int) (obj : Int) (n : Int) (fn : Int) (ord : Int) : Nat → Option (St → Ann) := fun _ => none
set_option maxRecDepth 100000 in
theorem f27_vc (op : Int) (a : Int) (b : Int) (c : Int) (obj : Int) (n : Int) (fn : Int) (ord : Int) :
    True ∧ br (!decide (chkS op a b c obj n fn ord = (0 : Int))) (([] : List Go.Eng.Res) = [] ∧ Ent.one (SV.c (SC.sl I6 (usesS op a b c obj n fn ord))) = Ent.one (SV.c (SC.sl I6 ([])))) (True ∧ br (hasF op (66 : Int)) (InA ((0 : Nat) + List.length ([b])) (8 : Nat) ∧ True ∧ br (hasF op (67 : Int)) (InA (List.length (([] ++ [b])) + List.length ([c])) (8 : Nat) ∧ List.length (([] ++ [b]) ++ [c]) ≤ (1000000 : Nat) ∧ ([] : List Go.Eng.Res) = [] ∧ Ent.one (SV.c (SC.sl I6 (usesS op a b c obj n fn ord))) = Ent.one (SV.c (SC.sl I6 (makeI (([] ++ [b]) ++ [c]))))) (List.length ([] ++ [b]) ≤ (1000000 : Nat) ∧ ([] : List Go.Eng.Res) = [] ∧ Ent.one (SV.c (SC.sl I6 (usesS op a b c obj n fn ord))) = Ent.one (SV.c (SC.sl I6 (makeI ([] ++ [b])))))) (True ∧ br (hasF op (67 : Int)) (InA ((0 : Nat) + List.length ([c])) (8 : Nat) ∧ List.length ([] ++ [c]) ≤ (1000000 : Nat) ∧ ([] : List Go.Eng.Res) = [] ∧ Ent.one (SV.c (SC.sl I6 (usesS op a b c obj n fn ord))) = Ent.one (SV.c (SC.sl I6 (makeI ([] ++ [c]))))) ((0 : Nat) ≤ (1000000 : Nat) ∧ ([] : List Go.Eng.Res) = [] ∧ Ent.one (SV.c (SC.sl I6 (usesS op a b c obj n fn ord))) = Ent.one (SV.c (SC.sl I6 (makeI [])))))) := by
  refine ⟨trivial, br_iff.2 ⟨fun h => ?_, fun h => ?_⟩⟩
  · have h : ¬ chkS op a b c obj n fn ord = 0 := by simpa using h
    rw [show usesS op a b c obj n fn ord = [] from if_neg h]; exact ⟨rfl, rfl⟩
  · have h0 : chkS op a b c obj n fn ord = 0 := by simpa using h
    have hb := chk_known h0
    rw [show usesS op a b c obj n fn ord = makeI (useL op b c) from if_pos h0]
    obtain ⟨e0, e1, e2, e3, e4, e5, e6⟩ := has_use op
    rw [e1, e2]
    simp only [useL]
    generalize use op 1 = u1
    generalize use op 2 = u2
    cases u1 <;> cases u2 <;> simp [br, InA]
set_option maxHeartbeats 2000000 in
set_option maxRecDepth 100000 in
theorem f27_met : Go.Eng.Met Tryd.prog cx0.gd 27 ct15 :=
  met_ip (il := il27) (rc := [.data (.sl (.int .i64))]) (cx := cx0) (n := 27) (cl := cl27) (by kernel_rfl) tis_ok ⟨f45_met, f46_met, f29_met, trivial⟩ trivial Tryd.func27 (by kernel_rfl) (by kernel_rfl) rfl (by kernel_rfl) (by kernel_rfl) fun d hd => by
    obtain ⟨⟨op, a, b, c, obj, n, fn, ord, ⟨⟩⟩, ⟨⟩⟩ := d
    exact ex_of (ann27 op a b c obj n fn ord) (f27_vc op a b c obj n fn ord) (by kernel_rfl)
end Go.Proofs.YtpfdgbddpdngbaaDoor
set_option linter.unusedSimpArgs false
set_option linter.unusedVariables false
set_option maxRecDepth 100000
namespace Go.Proofs.YtpfdgbddpdngbaaDoor
open Go Go.Eng

/-- The error of a renaming. -/
def renE (op a b c obj n fn ord : Int) (l : List Int) : Int :=
  if chkS op a b c obj n fn ord ≠ 0 then chkS op a b c obj n fn ord else if l.length ≠ 8 then 1 else if l.all regS = true then 0 else 10
def renF (e op : Int) (l : List Int) (j : Nat) (x : Int) : Int := if e = 0 then (if use op j then l.getD x.toNat 0 else x) else 0
def ren0 (e x : Int) : Int := if e = 0 then x else 0
@[reducible] def renR (op a b c obj n fn ord : Int) (l : List Int) : Ent :=
  .tup [aggI (ren0 (renE op a b c obj n fn ord l) op) (renF (renE op a b c obj n fn ord l) op l 0 a) (renF (renE op a b c obj n fn ord l) op l 1 b) (renF (renE op a b c obj n fn ord l) op l 2 c)
      (ren0 (renE op a b c obj n fn ord l) obj) (ren0 (renE op a b c obj n fn ord l) n) (ren0 (renE op a b c obj n fn ord l) fn) (ren0 (renE op a b c obj n fn ord l) ord), .c (.v (.int .i64 (renE op a b c obj n fn ord l)))]
theorem chk_regs {op a b c obj n fn ord : Int} (h : chkS op a b c obj n fn ord = 0) : regS a = true ∧ regS b = true ∧ regS c = true := by
  unfold chkS at h
  repeat' (split at h; · omega)
  all_goals (rename_i h1 h2; simp_all)
theorem renE_chk {op a b c obj n fn ord : Int} {l : List Int} (h : ¬ chkS op a b c obj n fn ord = 0) : renE op a b c obj n fn ord l = chkS op a b c obj n fn ord := if_pos h
theorem renE_len {op a b c obj n fn ord : Int} {l : List Int} (h : chkS op a b c obj n fn ord = 0) (h2 : ¬ l.length = 8) : renE op a b c obj n fn ord l = 1 := by simp [renE, h, h2]
theorem renE_bad {op a b c obj n fn ord : Int} {l : List Int} (h : chkS op a b c obj n fn ord = 0) (h2 : l.length = 8) {k : Nat} {d : Int} (hd : l[k]? = some d) (hr : regS d = false) : renE op a b c obj n fn ord l = 10 := by
  have : l.all regS = false := by
    rw [List.all_eq_false]
    exact ⟨d, List.mem_of_getElem? hd, by simp [hr]⟩
  simp [renE, h, h2, this]
theorem renE_ok {op a b c obj n fn ord : Int} {l : List Int} (h : chkS op a b c obj n fn ord = 0) (h2 : l.length = 8) (hr : l.all regS = true) : renE op a b c obj n fn ord l = 0 := by
  unfold renE
  rw [if_neg (by omega), if_neg (by omega), if_pos hr]
theorem all_take {l : List Int} {k : Nat} {d : Int} (hd : l[k]? = some d) (h : (l.take k).all regS = true) (hr : regS d = true) : (l.take (k + 1)).all regS = true := by
  rw [List.take_add_one, hd, List.all_append, h]; simp [hr]
theorem reg_get {l : List Int} {x : Int} (h : l.length = 8) (hx : regS x = true) : (0 ≤ x ∧ x < 8) ∧ l[x.toNat]? = some (l.getD x.toNat 0) := by
  simp only [regS, Bool.and_eq_true, decide_eq_true_eq] at hx
  refine ⟨hx, ?_⟩
  rw [List.getD_eq_getElem?_getD, List.getElem?_eq_getElem (by omega)]; rfl
@[reducible] def ct17 : CT := { ps := [shI, .sl (.int .i64)], pre := fun d => True, res := fun d => ([], renR d.1.1 d.1.2.1 d.1.2.2.1 d.1.2.2.2.1 d.1.2.2.2.2.1 d.1.2.2.2.2.2.1 d.1.2.2.2.2.2.2.1 d.1.2.2.2.2.2.2.2.1 d.2.1) }
@[reducible] def cl28 : List (Nat × CT) := [(45, ct12), (46, ct33), (48, ct37)]
@[reducible] def ann28 (op : Int) (a : Int) (b : Int) (c : Int) (obj : Int) (n : Int) (fn : Int) (ord : Int) (l : List Int) : Nat → Option (St → Ann) := fun k => match k with
  | 7 => some fun _ => .inv { α := Nat, slots := fun k => [(7, .c (.v (.int .i64 k)))], res := fun _ => [], inv := fun k => k ≤ l.length ∧ (l.take k).all regS = true, meas := fun k => l.length - k }
  | _ => none
set_option maxRecDepth 100000 in
theorem f28_vc (op : Int) (a : Int) (b : Int) (c : Int) (obj : Int) (n : Int) (fn : Int) (ord : Int) (l : List Int) :
    True ∧ br (!decide (chkS op a b c obj n fn ord = (0 : Int))) (([] : List Go.Eng.Res) = [] ∧ Ent.tup [SV.agg [v6 ((ren0 (renE op a b c obj n fn ord l) op)), v6 ((renF (renE op a b c obj n fn ord l) op l (0 : Nat) a)), v6 ((renF (renE op a b c obj n fn ord l) op l (1 : Nat) b)), v6 ((renF (renE op a b c obj n fn ord l) op l (2 : Nat) c)), v6 ((ren0 (renE op a b c obj n fn ord l) obj)), v6 ((ren0 (renE op a b c obj n fn ord l) n)), v6 ((ren0 (renE op a b c obj n fn ord l) fn)), v6 ((ren0 (renE op a b c obj n fn ord l) ord))], SV.c (v6 ((renE op a b c obj n fn ord l)))] = Ent.tup [SV.agg [v6 ((0 : Int)), v6 ((0 : Int)), v6 ((0 : Int)), v6 ((0 : Int)), v6 ((0 : Int)), v6 ((0 : Int)), v6 ((0 : Int)), v6 ((0 : Int))], SV.c (v6 ((chkS op a b c obj n fn ord)))]) (br (!decide ((↑l.length : Int) = (8 : Int))) (([] : List Go.Eng.Res) = [] ∧ Ent.tup [SV.agg [v6 ((ren0 (renE op a b c obj n fn ord l) op)), v6 ((renF (renE op a b c obj n fn ord l) op l (0 : Nat) a)), v6 ((renF (renE op a b c obj n fn ord l) op l (1 : Nat) b)), v6 ((renF (renE op a b c obj n fn ord l) op l (2 : Nat) c)), v6 ((ren0 (renE op a b c obj n fn ord l) obj)), v6 ((ren0 (renE op a b c obj n fn ord l) n)), v6 ((ren0 (renE op a b c obj n fn ord l) fn)), v6 ((ren0 (renE op a b c obj n fn ord l) ord))], SV.c (v6 ((renE op a b c obj n fn ord l)))] = Ent.tup [SV.agg [v6 ((0 : Int)), v6 ((0 : Int)), v6 ((0 : Int)), v6 ((0 : Int)), v6 ((0 : Int)), v6 ((0 : Int)), v6 ((0 : Int)), v6 ((0 : Int))], SV.c (v6 ((1 : Int)))]) ((∃ x, (x ≤ l.length ∧ (List.take x l).all regS = true) ∧ (SV.c (v6 ((0 : Int))) = SV.c (v6 ((↑x : Int))) ∧ True) ∧ [(([] : Go.Eng.Gd), Res.blk (48 : Nat) [v6 (op), v6 (a), v6 (b), v6 (c), v6 (obj), v6 (n), v6 (fn), v6 (ord)]), (([] : Go.Eng.Gd), Res.blk (48 : Nat) [v6 ((0 : Int)), v6 ((0 : Int)), v6 ((0 : Int)), v6 ((0 : Int)), v6 ((0 : Int)), v6 ((0 : Int)), v6 ((0 : Int)), v6 ((0 : Int))])] = [(([] : Go.Eng.Gd), Res.blk (48 : Nat) [v6 (op), v6 (a), v6 (b), v6 (c), v6 (obj), v6 (n), v6 (fn), v6 (ord)]), (([] : Go.Eng.Gd), Res.blk (48 : Nat) [v6 ((0 : Int)), v6 ((0 : Int)), v6 ((0 : Int)), v6 ((0 : Int)), v6 ((0 : Int)), v6 ((0 : Int)), v6 ((0 : Int)), v6 ((0 : Int))])]) ∧ ∀ (x : Nat), x ≤ l.length ∧ (List.take x l).all regS = true → br (decide ((↑x : Int) < (↑l.length : Int))) (((0 : Int) ≤ (↑x : Int) ∧ (↑x : Int) < (↑l.length : Int)) ∧ ∀ (d : Int), l[(↑x : Int).toNat]? = some d → True ∧ br (!(decide ((0 : I6.den) ≤ d) && decide (d < (8 : I6.den)))) (([] : List Go.Eng.Res) = [] ∧ Ent.tup [SV.agg [v6 ((ren0 (renE op a b c obj n fn ord l) op)), v6 ((renF (renE op a b c obj n fn ord l) op l (0 : Nat) a)), v6 ((renF (renE op a b c obj n fn ord l) op l (1 : Nat) b)), v6 ((renF (renE op a b c obj n fn ord l) op l (2 : Nat) c)), v6 ((ren0 (renE op a b c obj n fn ord l) obj)), v6 ((ren0 (renE op a b c obj n fn ord l) n)), v6 ((ren0 (renE op a b c obj n fn ord l) fn)), v6 ((ren0 (renE op a b c obj n fn ord l) ord))], SV.c (v6 ((renE op a b c obj n fn ord l)))] = Ent.tup [SV.agg [v6 ((0 : Int)), v6 ((0 : Int)), v6 ((0 : Int)), v6 ((0 : Int)), v6 ((0 : Int)), v6 ((0 : Int)), v6 ((0 : Int)), v6 ((0 : Int))], SV.c (v6 ((10 : Int)))]) (InR IntKind.i64 ((↑x : Int) + (1 : Int)) ∧ ∃ x', (x' ≤ l.length ∧ (List.take x' l).all regS = true) ∧ (SV.c (v6 (((↑x : Int) + (1 : Int)))) = SV.c (v6 ((↑x' : Int))) ∧ True) ∧ [(([] : Go.Eng.Gd), Res.blk (48 : Nat) [v6 (op), v6 (a), v6 (b), v6 (c), v6 (obj), v6 (n), v6 (fn), v6 (ord)]), (([] : Go.Eng.Gd), Res.blk (48 : Nat) [v6 ((0 : Int)), v6 ((0 : Int)), v6 ((0 : Int)), v6 ((0 : Int)), v6 ((0 : Int)), v6 ((0 : Int)), v6 ((0 : Int)), v6 ((0 : Int))])] = [(([] : Go.Eng.Gd), Res.blk (48 : Nat) [v6 (op), v6 (a), v6 (b), v6 (c), v6 (obj), v6 (n), v6 (fn), v6 (ord)]), (([] : Go.Eng.Gd), Res.blk (48 : Nat) [v6 ((0 : Int)), v6 ((0 : Int)), v6 ((0 : Int)), v6 ((0 : Int)), v6 ((0 : Int)), v6 ((0 : Int)), v6 ((0 : Int)), v6 ((0 : Int))])] ∧ l.length - x' < l.length - x)) (True ∧ br (hasF op (65 : Int)) (((0 : Int) ≤ a ∧ a < (↑l.length : Int)) ∧ ∀ (d : Int), l[a.toNat]? = some d → True ∧ br (hasF op (66 : Int)) (((0 : Int) ≤ b ∧ b < (↑l.length : Int)) ∧ ∀ (d_1 : Int), l[b.toNat]? = some d_1 → True ∧ br (hasF op (67 : Int)) (((0 : Int) ≤ c ∧ c < (↑l.length : Int)) ∧ ∀ (d_2 : Int), l[c.toNat]? = some d_2 → ([] : List Go.Eng.Res) = [] ∧ Ent.tup [SV.agg [v6 ((ren0 (renE op a b c obj n fn ord l) op)), v6 ((renF (renE op a b c obj n fn ord l) op l (0 : Nat) a)), v6 ((renF (renE op a b c obj n fn ord l) op l (1 : Nat) b)), v6 ((renF (renE op a b c obj n fn ord l) op l (2 : Nat) c)), v6 ((ren0 (renE op a b c obj n fn ord l) obj)), v6 ((ren0 (renE op a b c obj n fn ord l) n)), v6 ((ren0 (renE op a b c obj n fn ord l) fn)), v6 ((ren0 (renE op a b c obj n fn ord l) ord))], SV.c (v6 ((renE op a b c obj n fn ord l)))] = Ent.tup [SV.agg [v6 (op), v6 (d), v6 (d_1), v6 (d_2), v6 (obj), v6 (n), v6 (fn), v6 (ord)], SV.c (v6 ((0 : Int)))]) (([] : List Go.Eng.Res) = [] ∧ Ent.tup [SV.agg [v6 ((ren0 (renE op a b c obj n fn ord l) op)), v6 ((renF (renE op a b c obj n fn ord l) op l (0 : Nat) a)), v6 ((renF (renE op a b c obj n fn ord l) op l (1 : Nat) b)), v6 ((renF (renE op a b c obj n fn ord l) op l (2 : Nat) c)), v6 ((ren0 (renE op a b c obj n fn ord l) obj)), v6 ((ren0 (renE op a b c obj n fn ord l) n)), v6 ((ren0 (renE op a b c obj n fn ord l) fn)), v6 ((ren0 (renE op a b c obj n fn ord l) ord))], SV.c (v6 ((renE op a b c obj n fn ord l)))] = Ent.tup [SV.agg [v6 (op), v6 (d), v6 (d_1), v6 (c), v6 (obj), v6 (n), v6 (fn), v6 (ord)], SV.c (v6 ((0 : Int)))])) (True ∧ br (hasF op (67 : Int)) (((0 : Int) ≤ c ∧ c < (↑l.length : Int)) ∧ ∀ (d_1 : Int), l[c.toNat]? = some d_1 → ([] : List Go.Eng.Res) = [] ∧ Ent.tup [SV.agg [v6 ((ren0 (renE op a b c obj n fn ord l) op)), v6 ((renF (renE op a b c obj n fn ord l) op l (0 : Nat) a)), v6 ((renF (renE op a b c obj n fn ord l) op l (1 : Nat) b)), v6 ((renF (renE op a b c obj n fn ord l) op l (2 : Nat) c)), v6 ((ren0 (renE op a b c obj n fn ord l) obj)), v6 ((ren0 (renE op a b c obj n fn ord l) n)), v6 ((ren0 (renE op a b c obj n fn ord l) fn)), v6 ((ren0 (renE op a b c obj n fn ord l) ord))], SV.c (v6 ((renE op a b c obj n fn ord l)))] = Ent.tup [SV.agg [v6 (op), v6 (d), v6 (b), v6 (d_1), v6 (obj), v6 (n), v6 (fn), v6 (ord)], SV.c (v6 ((0 : Int)))]) (([] : List Go.Eng.Res) = [] ∧ Ent.tup [SV.agg [v6 ((ren0 (renE op a b c obj n fn ord l) op)), v6 ((renF (renE op a b c obj n fn ord l) op l (0 : Nat) a)), v6 ((renF (renE op a b c obj n fn ord l) op l (1 : Nat) b)), v6 ((renF (renE op a b c obj n fn ord l) op l (2 : Nat) c)), v6 ((ren0 (renE op a b c obj n fn ord l) obj)), v6 ((ren0 (renE op a b c obj n fn ord l) n)), v6 ((ren0 (renE op a b c obj n fn ord l) fn)), v6 ((ren0 (renE op a b c obj n fn ord l) ord))], SV.c (v6 ((renE op a b c obj n fn ord l)))] = Ent.tup [SV.agg [v6 (op), v6 (d), v6 (b), v6 (c), v6 (obj), v6 (n), v6 (fn), v6 (ord)], SV.c (v6 ((0 : Int)))]))) (True ∧ br (hasF op (66 : Int)) (((0 : Int) ≤ b ∧ b < (↑l.length : Int)) ∧ ∀ (d : Int), l[b.toNat]? = some d → True ∧ br (hasF op (67 : Int)) (((0 : Int) ≤ c ∧ c < (↑l.length : Int)) ∧ ∀ (d_1 : Int), l[c.toNat]? = some d_1 → ([] : List Go.Eng.Res) = [] ∧ Ent.tup [SV.agg [v6 ((ren0 (renE op a b c obj n fn ord l) op)), v6 ((renF (renE op a b c obj n fn ord l) op l (0 : Nat) a)), v6 ((renF (renE op a b c obj n fn ord l) op l (1 : Nat) b)), v6 ((renF (renE op a b c obj n fn ord l) op l (2 : Nat) c)), v6 ((ren0 (renE op a b c obj n fn ord l) obj)), v6 ((ren0 (renE op a b c obj n fn ord l) n)), v6 ((ren0 (renE op a b c obj n fn ord l) fn)), v6 ((ren0 (renE op a b c obj n fn ord l) ord))], SV.c (v6 ((renE op a b c obj n fn ord l)))] = Ent.tup [SV.agg [v6 (op), v6 (a), v6 (d), v6 (d_1), v6 (obj), v6 (n), v6 (fn), v6 (ord)], SV.c (v6 ((0 : Int)))]) (([] : List Go.Eng.Res) = [] ∧ Ent.tup [SV.agg [v6 ((ren0 (renE op a b c obj n fn ord l) op)), v6 ((renF (renE op a b c obj n fn ord l) op l (0 : Nat) a)), v6 ((renF (renE op a b c obj n fn ord l) op l (1 : Nat) b)), v6 ((renF (renE op a b c obj n fn ord l) op l (2 : Nat) c)), v6 ((ren0 (renE op a b c obj n fn ord l) obj)), v6 ((ren0 (renE op a b c obj n fn ord l) n)), v6 ((ren0 (renE op a b c obj n fn ord l) fn)), v6 ((ren0 (renE op a b c obj n fn ord l) ord))], SV.c (v6 ((renE op a b c obj n fn ord l)))] = Ent.tup [SV.agg [v6 (op), v6 (a), v6 (d), v6 (c), v6 (obj), v6 (n), v6 (fn), v6 (ord)], SV.c (v6 ((0 : Int)))])) (True ∧ br (hasF op (67 : Int)) (((0 : Int) ≤ c ∧ c < (↑l.length : Int)) ∧ ∀ (d : Int), l[c.toNat]? = some d → ([] : List Go.Eng.Res) = [] ∧ Ent.tup [SV.agg [v6 ((ren0 (renE op a b c obj n fn ord l) op)), v6 ((renF (renE op a b c obj n fn ord l) op l (0 : Nat) a)), v6 ((renF (renE op a b c obj n fn ord l) op l (1 : Nat) b)), v6 ((renF (renE op a b c obj n fn ord l) op l (2 : Nat) c)), v6 ((ren0 (renE op a b c obj n fn ord l) obj)), v6 ((ren0 (renE op a b c obj n fn ord l) n)), v6 ((ren0 (renE op a b c obj n fn ord l) fn)), v6 ((ren0 (renE op a b c obj n fn ord l) ord))], SV.c (v6 ((renE op a b c obj n fn ord l)))] = Ent.tup [SV.agg [v6 (op), v6 (a), v6 (b), v6 (d), v6 (obj), v6 (n), v6 (fn), v6 (ord)], SV.c (v6 ((0 : Int)))]) (([] : List Go.Eng.Res) = [] ∧ Ent.tup [SV.agg [v6 ((ren0 (renE op a b c obj n fn ord l) op)), v6 ((renF (renE op a b c obj n fn ord l) op l (0 : Nat) a)), v6 ((renF (renE op a b c obj n fn ord l) op l (1 : Nat) b)), v6 ((renF (renE op a b c obj n fn ord l) op l (2 : Nat) c)), v6 ((ren0 (renE op a b c obj n fn ord l) obj)), v6 ((ren0 (renE op a b c obj n fn ord l) n)), v6 ((ren0 (renE op a b c obj n fn ord l) fn)), v6 ((ren0 (renE op a b c obj n fn ord l) ord))], SV.c (v6 ((renE op a b c obj n fn ord l)))] = Ent.tup [SV.agg [v6 (op), v6 (a), v6 (b), v6 (c), v6 (obj), v6 (n), v6 (fn), v6 (ord)], SV.c (v6 ((0 : Int)))])))))) := by
  refine ⟨trivial, br_iff.2 ⟨fun h => ?_, fun h => br_iff.2 ⟨fun h2 => ?_, fun h2 => ⟨⟨0, ⟨by omega, by simp⟩, ⟨rfl, trivial⟩, rfl⟩, fun k hk => br_iff.2 ⟨fun h3 => ⟨?_, fun d hd => ⟨trivial, br_iff.2 ⟨fun h4 => ?_, fun h4 => ?_⟩⟩⟩, fun h3 => ?_⟩⟩⟩⟩⟩
  · have h : ¬ chkS op a b c obj n fn ord = 0 := by simpa using h
    rw [renE_chk h]; simp [ren0, renF, h]
  · have h : chkS op a b c obj n fn ord = 0 := by simpa using h
    have h2 : ¬ l.length = 8 := by simp at h2; omega
    rw [renE_len h h2]; simp [ren0, renF]
  · simp only [decide_eq_true_eq] at h3; omega
  · have h : chkS op a b c obj n fn ord = 0 := by simpa using h
    have h2 : l.length = 8 := by simp at h2; omega
    have hr : regS d = false := by simp [regS] at h4 ⊢; omega
    rw [renE_bad h h2 hd hr]; simp [ren0, renF]
  · have hr : regS d = true := by simp [regS] at h4 ⊢; omega
    have hd : l[k]? = some d := by simpa using hd
    have := (List.getElem?_eq_some_iff.1 hd).1
    have h2 : l.length = 8 := by simp at h2; omega
    exact ⟨InR_i64.2 (by omega), k + 1, ⟨by omega, all_take hd hk.2 hr⟩, ⟨rfl, trivial⟩, rfl, by omega⟩
  · have h : chkS op a b c obj n fn ord = 0 := by simpa using h
    have h2 : l.length = 8 := by simp at h2; omega
    simp only [decide_eq_false_iff_not] at h3
    have hr : l.all regS = true := by rw [← List.take_of_length_le (l := l) (i := k) (by omega)]; exact hk.2
    rw [renE_ok h h2 hr]
    have hb := chk_known h
    obtain ⟨ra, rb, rc⟩ := chk_regs h
    obtain ⟨ba, ga⟩ := reg_get h2 ra
    obtain ⟨bb, gb⟩ := reg_get h2 rb
    obtain ⟨bc, gc⟩ := reg_get h2 rc
    have h2' : (↑l.length : Int) = 8 := by omega
    obtain ⟨e0, e1, e2, e3, e4, e5, e6⟩ := has_use op
    simp only [e0, e1, e2, Option.some.injEq, forall_eq', ga, gb, gc, h2', ren0, renF, if_pos]
    generalize use op 0 = u0
    generalize use op 1 = u1
    generalize use op 2 = u2
    cases u0 <;> cases u1 <;> cases u2 <;> simp [br, ba, bb, bc]
set_option maxHeartbeats 2000000 in
set_option maxRecDepth 100000 in
theorem f28_met : Go.Eng.Met Tryd.prog cx0.gd 28 ct17 :=
  met_of (cx := cx0) (n := 61) (cl := cl28) (by kernel_rfl) tis_ok ⟨f45_met, f46_met, f48_met, trivial⟩ Tryd.func28 (by kernel_rfl) (by kernel_rfl) rfl (by kernel_rfl) (by kernel_rfl) fun d hd => by
    obtain ⟨⟨op, a, b, c, obj, n, fn, ord, ⟨⟩⟩, l, ⟨⟩⟩ := d
    exact ex_of (ann28 op a b c obj n fn ord l) (f28_vc op a b c obj n fn ord l) (by kernel_rfl)
def idxI (l : List Int) (x : Int) : Int := match l.findIdx? (fun y => decide (y = x)) with | some k => (k : Int) | none => -1
theorem idxI_found {l : List Int} {x : Int} {k : Nat} (hd : l[k]? = some x) (hn : ∀ j < k, ∀ y, l[j]? = some y → y ≠ x) : idxI l x = k := by
  have hlt : k < l.length := (List.getElem?_eq_some_iff.1 hd).1
  have : l.findIdx? (fun y => decide (y = x)) = some k := by
    rw [List.findIdx?_eq_some_iff_getElem]
    refine ⟨hlt, by have := (List.getElem?_eq_some_iff.1 hd).2; simp [this], fun j hj => ?_⟩
    have := hn j hj l[j] (List.getElem?_eq_getElem (by omega))
    simpa using this
  simp [idxI, this]
theorem idxI_none {l : List Int} {x : Int} (hn : ∀ (j : Nat) y, l[j]? = some y → y ≠ x) : idxI l x = -1 := by
  have : l.findIdx? (fun y => decide (y = x)) = none := by
    rw [List.findIdx?_eq_none_iff]
    intro y hy
    obtain ⟨j, hj⟩ := List.getElem?_of_mem hy
    simpa using hn j y hj
  simp [idxI, this]
@[reducible] def ctIdx : CT := { ps := [.sl (.int .i64), .int .i64], pre := fun d => d.1.length ≤ 4611686018427387904, res := fun d => ([], .one (.c (.v (.int .i64 (idxI d.1 d.2.1))))) }
@[reducible] def cl69 : List (Nat × CT) := []
@[reducible] def ann69 (l : List Int) (x : Int) : Nat → Option (St → Ann) := fun _ => some fun _ => .inv { α := Nat, slots := fun k => [(8, .c (.v (.int .i64 k)))], res := fun _ => [], inv := fun k => k ≤ l.length ∧ ∀ j < k, ∀ y, l[j]? = some y → y ≠ x, meas := fun k => l.length - k }
set_option maxRecDepth 100000 in
theorem f69_vc (l : List Int) (x : Int) (hpre : ctIdx.pre (l, x, ())) :
    (∃ x_1, (x_1 ≤ l.length ∧ ∀ (j : Nat), j < x_1 → ∀ (y : Int), l[j]? = some y → y ≠ x) ∧ (SV.c (v6 ((0 : Int))) = SV.c (v6 ((↑x_1 : Int))) ∧ True) ∧ ([] : List (Go.Eng.Gd × Go.Eng.Res)) = []) ∧ ∀ (x_1 : Nat), (x_1 ≤ l.length ∧ ∀ (j : Nat), j < x_1 → ∀ (y : Int), l[j]? = some y → y ≠ x) → br (decide ((↑x_1 : Int) < (↑l.length : Int))) (((0 : Int) ≤ (↑x_1 : Int) ∧ (↑x_1 : Int) < (↑l.length : Int)) ∧ ∀ (d : Int), l[(↑x_1 : Int).toNat]? = some d → br (decide (x = d)) (([] : List Go.Eng.Res) = [] ∧ Ent.one (SV.c (v6 ((idxI l x)))) = Ent.one (SV.c (v6 ((↑x_1 : Int))))) (InR IntKind.i64 ((↑x_1 : Int) + (1 : Int)) ∧ ∃ x', (x' ≤ l.length ∧ ∀ (j : Nat), j < x' → ∀ (y : Int), l[j]? = some y → y ≠ x) ∧ (SV.c (v6 (((↑x_1 : Int) + (1 : Int)))) = SV.c (v6 ((↑x' : Int))) ∧ True) ∧ ([] : List (Go.Eng.Gd × Go.Eng.Res)) = [] ∧ l.length - x' < l.length - x_1)) (([] : List Go.Eng.Res) = [] ∧ Ent.one (SV.c (v6 ((idxI l x)))) = Ent.one (SV.c (v6 ((-1 : Int))))) := by
  refine ⟨⟨0, ⟨by omega, fun j hj => by omega⟩, ⟨rfl, trivial⟩, rfl⟩, fun k hk => br_iff.2 ⟨fun h => ?_, fun h => ?_⟩⟩
  · simp only [decide_eq_true_eq] at h
    have hp : l.length ≤ 4611686018427387904 := hpre
    refine ⟨by omega, fun d hd => ?_⟩
    have hd : l[k]? = some d := by simpa using hd
    refine br_iff.2 ⟨fun he => ?_, fun he => ⟨InR_i64.2 (by omega), k + 1, ⟨by omega, fun j hj y hy => ?_⟩, ⟨rfl, trivial⟩, rfl, by omega⟩⟩
    · have he : x = d := by simpa using he
      rw [idxI_found (by rw [hd, he]) hk.2]; exact ⟨rfl, rfl⟩
    · by_cases hjk : j = k
      · subst hjk; rw [hd] at hy; cases hy
        intro hh; simp [hh] at he
      · exact hk.2 j (by omega) y hy
  · simp only [decide_eq_false_iff_not] at h
    rw [idxI_none (fun j y hy => hk.2 j (by have := (List.getElem?_eq_some_iff.1 hy).1; omega) y hy)]; exact ⟨rfl, rfl⟩
set_option maxHeartbeats 2000000 in
set_option maxRecDepth 100000 in
theorem f69_met : Go.Eng.Met Tryd.prog cx0.gd 69 ctIdx :=
  met_of (cx := cx0) (n := 19) (cl := cl69) (by kernel_rfl) tis_ok trivial Tryd.func69 (by kernel_rfl) (by kernel_rfl) rfl (by kernel_rfl) (by kernel_rfl) fun d hd => by
    obtain ⟨l, x, ⟨⟩⟩ := d
    exact ex_of (ann69 l x) (f69_vc l x hd) (by kernel_rfl)
theorem hasI_idx (l : List Int) (x : Int) : hasI l x = decide (0 ≤ idxI l x) := by
  have h := List.findIdx?_isSome (xs := l) (p := fun y => decide (y = x))
  unfold hasI idxI
  rw [← h]
  cases l.findIdx? (fun y => decide (y = x)) with
  | none => rfl
  | some k => simp
@[reducible] def ctCon : CT := { ps := [.sl (.int .i64), .int .i64], pre := fun d => d.1.length ≤ 4611686018427387904, res := fun d => ([], vB (hasI d.1 d.2.1)) }
@[reducible] def cl66 : List (Nat × CT) := [(69, ctIdx)]
@[reducible] def ann66 (l : List Int) (x : Int) : Nat → Option (St → Ann) := fun _ => none
set_option maxRecDepth 100000 in
theorem f66_vc (l : List Int) (x : Int) (hpre : ctCon.pre (l, x, ())) :
    l.length ≤ (4611686018427387904 : Nat) ∧ ([] : List Go.Eng.Res) = [] ∧ Ent.one (SV.c (SC.v (Value.bool (hasI l x)))) = Ent.one (SV.c (SC.v (Value.bool (decide ((0 : Int) ≤ idxI l x))))) := by
  refine ⟨hpre, rfl, ?_⟩
  rw [hasI_idx]
set_option maxHeartbeats 2000000 in
set_option maxRecDepth 100000 in
theorem f66_met : Go.Eng.Met Tryd.prog cx0.gd 66 ctCon :=
  met_of (cx := cx0) (n := 9) (cl := cl66) (by kernel_rfl) tis_ok ⟨f69_met, trivial⟩ Tryd.func66 (by kernel_rfl) (by kernel_rfl) rfl (by kernel_rfl) (by kernel_rfl) fun d hd => by
    obtain ⟨l, x, ⟨⟩⟩ := d
    exact ex_of (ann66 l x) (f66_vc l x hd) (by kernel_rfl)
@[reducible] def ctHas : CT := { ps := [.sl (.int .i64), .int .i64], pre := fun d => d.1.length ≤ 1000000, res := fun d => ([], vB (hasI d.1 d.2.1)) }
@[reducible] def cl56 : List (Nat × CT) := [(66, ctCon)]
@[reducible] def ann56 (l : List Int) (x : Int) : Nat → Option (St → Ann) := fun _ => none
set_option maxRecDepth 100000 in
theorem f56_vc (l : List Int) (x : Int) (hpre : ctHas.pre (l, x, ())) :
    l.length ≤ (4611686018427387904 : Nat) ∧ ([] : List Go.Eng.Res) = [] ∧ Ent.one (SV.c (SC.v (Value.bool (hasI l x)))) = Ent.one (SV.c (SC.v (Value.bool (hasI l x)))) := by
  have hp : l.length ≤ 1000000 := hpre
  exact ⟨by omega, rfl, rfl⟩
set_option maxHeartbeats 2000000 in
set_option maxRecDepth 100000 in
theorem f56_met : Go.Eng.Met Tryd.prog cx0.gd 56 ctHas :=
  met_of (cx := cx0) (n := 8) (cl := cl56) (by kernel_rfl) tis_ok ⟨f66_met, trivial⟩ Tryd.func56 (by kernel_rfl) (by kernel_rfl) rfl (by kernel_rfl) (by kernel_rfl) fun d hd => by
    obtain ⟨l, x, ⟨⟩⟩ := d
    exact ex_of (ann56 l x) (f56_vc l x hd) (by kernel_rfl)
@[reducible] def ctLists : CT := { ps := [.sl (.sl (.int .i64)), .sl (.sl (.int .i64))], pre := fun d => d.1.length ≤ 1000000 ∧ ∀ x ∈ d.1, x.length ≤ 1000000, res := fun d => ([], vB (decide (d.1 = d.2.1))) }
@[reducible] def cl13 : List (Nat × CT) := [(18, ct13)]
@[reducible] def ann13 (l : List (List Int)) (m : List (List Int)) : Nat → Option (St → Ann) := fun k => match k with
  | 4 => some fun _ => .inv { α := Nat, slots := fun k => [(5, .c (.v (.int .i64 k)))], res := fun k => [], inv := fun k => k ≤ (l).length ∧ l.take k = m.take k, meas := fun k => (l).length - k }
  | _ => none
set_option maxRecDepth 100000 in
theorem f13_vc (l : List (List Int)) (m : List (List Int)) (hpre : ctLists.pre (l, m, ())) :
    br (!decide ((↑l.length : Int) = (↑m.length : Int))) (([] : List Go.Eng.Res) = [] ∧ Ent.one (SV.c (SC.v (Value.bool (decide (l = m))))) = Ent.one (SV.c (SC.v (Value.bool false)))) ((∃ x, (x ≤ l.length ∧ List.take x l = List.take x m) ∧ (SV.c (v6 ((0 : Int))) = SV.c (v6 ((↑x : Int))) ∧ True) ∧ ([] : List (Go.Eng.Gd × Go.Eng.Res)) = []) ∧ ∀ (x : Nat), x ≤ l.length ∧ List.take x l = List.take x m → br (decide ((↑x : Int) < (↑l.length : Int))) (((0 : Int) ≤ (↑x : Int) ∧ (↑x : Int) < (↑l.length : Int)) ∧ ∀ (d : List I6.den), l[(↑x : Int).toNat]? = some d → ((0 : Int) ≤ (↑x : Int) ∧ (↑x : Int) < (↑m.length : Int)) ∧ ∀ (d_1 : List I6.den), m[(↑x : Int).toNat]? = some d_1 → d.length ≤ (4611686018427387904 : Nat) ∧ br (!decide (d = d_1)) (([] : List Go.Eng.Res) = [] ∧ Ent.one (SV.c (SC.v (Value.bool (decide (l = m))))) = Ent.one (SV.c (SC.v (Value.bool false)))) (InR IntKind.i64 ((↑x : Int) + (1 : Int)) ∧ ∃ x', (x' ≤ l.length ∧ List.take x' l = List.take x' m) ∧ (SV.c (v6 (((↑x : Int) + (1 : Int)))) = SV.c (v6 ((↑x' : Int))) ∧ True) ∧ ([] : List (Go.Eng.Gd × Go.Eng.Res)) = [] ∧ l.length - x' < l.length - x)) (([] : List Go.Eng.Res) = [] ∧ Ent.one (SV.c (SC.v (Value.bool (decide (l = m))))) = Ent.one (SV.c (SC.v (Value.bool true))))) := by
  have hp : l.length ≤ 1000000 ∧ ∀ x ∈ l, x.length ≤ 1000000 := hpre
  refine br_iff.2 ⟨fun h => ?_, fun h => ⟨⟨0, ⟨by omega, rfl⟩, ⟨rfl, trivial⟩, rfl⟩, fun k hk => br_iff.2 ⟨fun h2 => ?_, fun h2 => ?_⟩⟩⟩
  · have : ¬ l = m := fun e => by subst e; simp at h
    rw [decide_eq_false this]; exact ⟨rfl, rfl⟩
  · simp only [decide_eq_true_eq] at h2
    have hl : l.length = m.length := by simp at h; omega
    refine ⟨by omega, fun d hd => ⟨by omega, fun e he => ?_⟩⟩
    all_goals
      have hd : l[k]? = some d := by simpa using hd
      have he : m[k]? = some e := by simpa using he
      have := hp.2 d (List.mem_of_getElem? hd)
      refine ⟨by omega, br_iff.2 ⟨fun h3 => ?_, fun h3 => ⟨InR_i64.2 (by omega), k + 1, ⟨by omega, ?_⟩, ⟨by simp, trivial⟩, rfl, by omega⟩⟩⟩
      · have h3 : ¬ d = e := by simpa using h3
        have : ¬ l = m := fun q => by subst q; rw [hd] at he; cases he; exact h3 rfl
        rw [decide_eq_false this]; exact ⟨rfl, rfl⟩
      · have h3 : d = e := by simpa using h3
        rw [List.take_add_one, List.take_add_one, hk.2, hd, he, h3]
  · simp only [decide_eq_false_iff_not] at h2
    have hl : l.length = m.length := by simp at h; omega
    have := hk.2
    rw [List.take_of_length_le (by omega), List.take_of_length_le (by omega)] at this
    rw [decide_eq_true this]; exact ⟨rfl, rfl⟩
set_option maxHeartbeats 2000000 in
set_option maxRecDepth 100000 in
theorem f13_met : Go.Eng.Met Tryd.prog cx0.gd 13 ctLists :=
  met_of (cx := cx0) (n := 27) (cl := cl13) (by kernel_rfl) tis_ok ⟨f18_met, trivial⟩ Tryd.func13 (by kernel_rfl) (by kernel_rfl) rfl (by kernel_rfl) (by kernel_rfl) fun d hd => by
    obtain ⟨l, m, ⟨⟩⟩ := d
    exact ex_of (ann13 l m) (f13_vc l m hd) (by kernel_rfl)
end Go.Proofs.YtpfdgbddpdngbaaDoor
set_option linter.unusedSimpArgs false
set_option linter.unusedVariables false
namespace Go.Proofs.YtpfdgbddpdngbaaDoor
open Go Go.Eng

@[reducible] def shF : Sh := .pair .str (.pair (.sl shI) .unit)
abbrev ID := Int × Int × Int × Int × Int × Int × Int × Int × Unit
def chkI (i : ID) : Int := chkS i.1 i.2.1 i.2.2.1 i.2.2.2.1 i.2.2.2.2.1 i.2.2.2.2.2.1 i.2.2.2.2.2.2.1 i.2.2.2.2.2.2.2.1
def useI (i : ID) : List Int := usesS i.1 i.2.1 i.2.2.1 i.2.2.2.1 i.2.2.2.2.1 i.2.2.2.2.2.1 i.2.2.2.2.2.2.1 i.2.2.2.2.2.2.2.1
def defI (i : ID) : Option Int := if chkI i = 0 ∧ use i.1 0 = true then some i.2.1 else none
def nI (i : ID) : Int := i.2.2.2.2.2.1
def badI (n : Nat) (i : ID) : Int := if chkI i ≠ 0 then chkI i else if (i.1 = 4 ∨ i.1 = 5) ∧ (nI i < 0 ∨ (n : Int) < nI i) then 12 else 0
def cfgE (l : List ID) : Int := if 64 < l.length then 4 else match l.find? fun i => decide (badI l.length i ≠ 0) with
  | some i => badI l.length i
  | none => 0
def sucI (n k : Nat) (i : ID) : List Int := if i.1 = 4 then [nI i] else if i.1 = 5 then makeI [nI i, (k : Int) + 1] else if i.1 = 7 then [(n : Int)] else [(k : Int) + 1]
def sucL (l : List ID) (k : Nat) : List Int := match l[k]? with
  | some i => sucI l.length k i
  | none => []
def cfL (l : List ID) : CF := { n := l.length, suc := sucL l, use := fun k => match l[k]? with | some i => useI i | none => [], dfn := fun k => match l[k]? with | some i => defI i | none => none }
def nxtE (l : List ID) (a : Int) : Int := if cfgE l ≠ 0 then cfgE l else if a < 0 ∨ (l.length : Int) ≤ a then 2 else 0
def nxtL (l : List ID) (a : Int) : List Int := if nxtE l a = 0 then sucL l a.toNat else []

theorem cfg_big {l : List ID} (h : 64 < l.length) : cfgE l = 4 := if_pos h
theorem cfg_first {l : List ID} {k : Nat} {d : ID} (hl : ¬ 64 < l.length) (hd : l[k]? = some d) (hb : badI l.length d ≠ 0) (h : ∀ j < k, ∀ i, l[j]? = some i → badI l.length i = 0) : cfgE l = badI l.length d := by
  have hk := (List.getElem?_eq_some_iff.1 hd).1
  have : l.find? (fun i => decide (badI l.length i ≠ 0)) = some d := by
    rw [List.find?_eq_some_iff_getElem]
    refine ⟨by simpa using hb, k, hk, (List.getElem?_eq_some_iff.1 hd).2, fun j hj => ?_⟩
    have := h j hj l[j] (List.getElem?_eq_getElem (by omega))
    simp [this]
  unfold cfgE
  rw [if_neg hl, this]
theorem cfg_none {l : List ID} (hl : ¬ 64 < l.length) (h : ∀ i ∈ l, badI l.length i = 0) : cfgE l = 0 := by
  have : l.find? (fun i => decide (badI l.length i ≠ 0)) = none := by
    rw [List.find?_eq_none]
    intro i hi; simp [h i hi]
  unfold cfgE
  rw [if_neg hl, this]
theorem cfg_ok {l : List ID} (h : cfgE l = 0) : l.length ≤ 64 ∧ ∀ i ∈ l, badI l.length i = 0 := by
  unfold cfgE at h
  split at h
  · cases h
  · rename_i hl
    refine ⟨by omega, fun i hi => ?_⟩
    split at h
    · rename_i d hd
      have := List.find?_some hd
      simp at this
      exact absurd h this
    · rename_i hd
      have := List.find?_eq_none.1 hd i hi
      simpa using this
theorem bad_chk {n : Nat} {i : ID} (h : badI n i = 0) : chkI i = 0 ∧ ((i.1 = 4 ∨ i.1 = 5) → 0 ≤ nI i ∧ nI i ≤ n) := by
  unfold badI at h
  split at h
  · rename_i hc; exact absurd h hc
  · rename_i hc
    split at h
    · cases h
    · rename_i hj
      exact ⟨by omega, fun hh => by omega⟩
theorem chk_ranges {op a b c obj n fn ord : Int} (h : chkS op a b c obj n fn ord = 0) : (0 ≤ a ∧ a < 8) ∧ (0 ≤ b ∧ b < 8) ∧ (0 ≤ c ∧ c < 8) := by
  obtain ⟨h1, h2, h3⟩ := chk_regs h
  unfold regS at h1 h2 h3
  simp only [Bool.and_eq_true, decide_eq_true_eq] at h1 h2 h3
  exact ⟨h1, h2, h3⟩
theorem use_rng (i : ID) : ∀ r ∈ useI i, 0 ≤ r ∧ r < 8 := by
  intro r hr
  unfold useI usesS at hr
  split at hr
  · rename_i hc
    obtain ⟨_, hb, hcc⟩ := chk_ranges hc
    rw [make_mem] at hr
    unfold useL at hr
    rw [List.mem_append] at hr
    rcases hr with hr | hr
    · split at hr
      · simp at hr; subst hr; exact hb
      · cases hr
    · split at hr
      · simp at hr; subst hr; exact hcc
      · cases hr
  · cases hr
theorem use_ss (i : ID) : SS (useI i) := by
  unfold useI usesS
  split
  · exact make_ss _
  · exact List.Pairwise.nil
theorem use_len (i : ID) : (useI i).length ≤ 8 := rng_len (n := 8) (use_ss i) fun r hr => by have := use_rng i r hr; omega
theorem def_rng {i : ID} {r : Int} (h : defI i = some r) : 0 ≤ r ∧ r < 8 := by
  unfold defI at h
  split at h
  · rename_i hc
    cases h
    exact (chk_ranges hc.1).1
  · cases h
theorem suc_len (n k : Nat) (i : ID) : (sucI n k i).length ≤ 2 := by
  unfold sucI
  split
  · simp
  · split
    · exact makeI_len _
    · split <;> simp
theorem sucL_len (l : List ID) (k : Nat) : (sucL l k).length ≤ 2 := by
  unfold sucL
  split
  · exact suc_len _ _ _
  · simp
theorem suc_rng {l : List ID} (h : cfgE l = 0) {k : Nat} (hk : k < l.length) : ∀ s ∈ sucL l k, 0 ≤ s ∧ s ≤ l.length := by
  intro s hs
  unfold sucL at hs
  rw [List.getElem?_eq_getElem hk] at hs
  have hb := bad_chk ((cfg_ok h).2 l[k] (List.getElem_mem _))
  simp only [sucI] at hs
  split at hs
  · rename_i h4
    simp at hs; subst hs
    exact hb.2 (.inl h4)
  · split at hs
    · rename_i h5
      rw [make_mem] at hs
      simp at hs
      rcases hs with rfl | rfl
      · exact hb.2 (.inr h5)
      · omega
    · split at hs
      · simp at hs; subst hs; omega
      · simp at hs; subst hs; omega
theorem cfL_ok {l : List ID} (h : cfgE l = 0) : (cfL l).OK := by
  refine ⟨fun k hk s hs => suc_rng h hk s hs, fun k hk => sucL_len l k, fun k hk r hr => ?_, fun k r hk hr => ?_⟩
  · have hk' : k < l.length := hk
    simp only [cfL, List.getElem?_eq_getElem hk'] at hr
    exact use_rng _ r hr
  · have hk' : k < l.length := hk
    simp only [cfL, List.getElem?_eq_getElem hk'] at hr
    exact def_rng hr
theorem cf_use {l : List ID} {k : Nat} {d : ID} (h : l[k]? = some d) : (cfL l).use k = useI d := by simp only [cfL, h]
theorem cf_dfn {l : List ID} {k : Nat} {d : ID} (h : l[k]? = some d) : (cfL l).dfn k = defI d := by simp only [cfL, h]
theorem cf_suc {l : List ID} {k : Nat} {d : ID} (h : l[k]? = some d) : sucL l k = sucI l.length k d := by simp only [sucL, h]
/-- The successors as an iterator's data. -/
def sucD (l : List ID) (k : Nat) : List (dens [.int .i64]) := (sucL l k).map fun s => (s, ())
theorem sucD_fst (l : List ID) (k : Nat) : (sucD l k).map (·.1) = sucL l k := by
  unfold sucD; rw [List.map_map]; exact List.map_id _
end Go.Proofs.YtpfdgbddpdngbaaDoor
set_option linter.unusedSimpArgs false
set_option linter.unusedVariables false
set_option maxRecDepth 100000
namespace Go.Proofs.YtpfdgbddpdngbaaDoor
open Go Go.Eng

theorem bad_op {n : Nat} {i : ID} : badI n i = if chkI i ≠ 0 then chkI i else if (i.1 = 4 ∨ i.1 = 5) ∧ (nI i < 0 ∨ (n : Int) < nI i) then 12 else 0 := rfl
@[reducible] def ctCk : CT := { ps := [shF], pre := fun d => True, res := fun d => ([], .one (.c (.v (.int .i64 (cfgE d.1.2.1))))) }
@[reducible] def cl50 : List (Nat × CT) := [(55, ct11)]
@[reducible] def ann50 (nm : ByteArray) (l : List ID) : Nat → Option (St → Ann) := fun k => match k with
  | 4 => some fun _ => .inv { α := Nat, slots := fun k => [(13, .c (.v (.int .i64 k)))], res := fun k => [], inv := fun k => k ≤ (l).length ∧ ∀ j < k, ∀ i, l[j]? = some i → badI l.length i = 0, meas := fun k => (l).length - k }
  | _ => none
set_option maxRecDepth 100000 in
theorem f50_vc (nm : ByteArray) (l : List ID) :
    br (decide ((64 : Int) < (↑l.length : Int))) (([] : List Go.Eng.Res) = [] ∧ Ent.one (SV.c (v6 ((cfgE l)))) = Ent.one (SV.c (v6 ((4 : Int))))) ((∃ x, (x ≤ l.length ∧ ∀ (j : Nat), j < x → ∀ (i : Int × Int × Int × Int × Int × Int × Int × Int × Unit), l[j]? = some i → badI l.length i = (0 : Int)) ∧ (SV.c (v6 ((0 : Int))) = SV.c (v6 ((↑x : Int))) ∧ True) ∧ [(([] : Go.Eng.Gd), Res.blk (24 : Nat) [SC.v (Value.string nm), SC.sl shI l])] = [(([] : Go.Eng.Gd), Res.blk (24 : Nat) [SC.v (Value.string nm), SC.sl shI l])]) ∧ ∀ (x : Nat), (x ≤ l.length ∧ ∀ (j : Nat), j < x → ∀ (i : Int × Int × Int × Int × Int × Int × Int × Int × Unit), l[j]? = some i → badI l.length i = (0 : Int)) → br (decide ((↑x : Int) < (↑l.length : Int))) (((0 : Int) ≤ (↑x : Int) ∧ (↑x : Int) < (↑l.length : Int)) ∧ ∀ (d : I6.den × (I6.pair (I6.pair (I6.pair (I6.pair (I6.pair (I6.pair (I6.pair Sh.unit))))))).den), l[(↑x : Int).toNat]? = some d → True ∧ br (!decide (chkS d.fst d.snd.fst d.snd.snd.fst d.snd.snd.snd.fst d.snd.snd.snd.snd.fst d.snd.snd.snd.snd.snd.fst (d.snd.snd.snd.snd.snd.snd.fst, d.snd.snd.snd.snd.snd.snd.snd.fst, ()).fst d.snd.snd.snd.snd.snd.snd.snd.fst = (0 : Int))) (([] : List Go.Eng.Res) = [] ∧ Ent.one (SV.c (v6 ((cfgE l)))) = Ent.one (SV.c (v6 ((chkS d.fst d.snd.fst d.snd.snd.fst d.snd.snd.snd.fst d.snd.snd.snd.snd.fst d.snd.snd.snd.snd.snd.fst (d.snd.snd.snd.snd.snd.snd.fst, d.snd.snd.snd.snd.snd.snd.snd.fst, ()).fst d.snd.snd.snd.snd.snd.snd.snd.fst))))) (br ((decide (d.fst = (4 : Int)) || decide (d.fst = (5 : Int))) && (decide (d.snd.snd.snd.snd.snd.fst < (0 : Int)) || decide ((↑l.length : Int) < d.snd.snd.snd.snd.snd.fst))) (([] : List Go.Eng.Res) = [] ∧ Ent.one (SV.c (v6 ((cfgE l)))) = Ent.one (SV.c (v6 ((12 : Int))))) (InR IntKind.i64 ((↑x : Int) + (1 : Int)) ∧ ∃ x', (x' ≤ l.length ∧ ∀ (j : Nat), j < x' → ∀ (i : Int × Int × Int × Int × Int × Int × Int × Int × Unit), l[j]? = some i → badI l.length i = (0 : Int)) ∧ (SV.c (v6 (((↑x : Int) + (1 : Int)))) = SV.c (v6 ((↑x' : Int))) ∧ True) ∧ [(([] : Go.Eng.Gd), Res.blk (24 : Nat) [SC.v (Value.string nm), SC.sl shI l])] = [(([] : Go.Eng.Gd), Res.blk (24 : Nat) [SC.v (Value.string nm), SC.sl shI l])] ∧ l.length - x' < l.length - x))) (([] : List Go.Eng.Res) = [] ∧ Ent.one (SV.c (v6 ((cfgE l)))) = Ent.one (SV.c (v6 ((0 : Int)))))) := by
  refine br_iff.2 ⟨fun h => ?_, fun h => ?_⟩
  · simp only [decide_eq_true_eq] at h
    rw [cfg_big (by omega)]; exact ⟨rfl, rfl⟩
  simp only [decide_eq_false_iff_not] at h
  have hl : ¬ 64 < l.length := by omega
  refine ⟨⟨0, ⟨by omega, fun j hj => by omega⟩, ⟨rfl, trivial⟩, rfl⟩, fun x hx => br_iff.2 ⟨fun g => ?_, fun g => ?_⟩⟩
  · simp only [decide_eq_true_eq] at g
    refine ⟨by omega, fun d hd => ?_⟩
    have hd' : l[x]? = some d := hd
    refine ⟨trivial, br_iff.2 ⟨fun h2 => ?_, fun h2 => br_iff.2 ⟨fun h3 => ?_, fun h3 => ?_⟩⟩⟩
    · have h2' : (!decide (chkI d = 0)) = true := h2
      have hc : chkI d ≠ 0 := by simpa using h2'
      have e : badI l.length d = chkI d := if_pos hc
      rw [cfg_first hl hd' (by rw [e]; exact hc) hx.2, e]; exact ⟨rfl, rfl⟩
    · have h2' : (!decide (chkI d = 0)) = false := h2
      have hc : ¬ chkI d ≠ 0 := by simpa using h2'
      simp only [Bool.and_eq_true, Bool.or_eq_true, decide_eq_true_eq] at h3
      have e : badI l.length d = 12 := (if_neg hc).trans (if_pos h3)
      rw [cfg_first hl hd' (by rw [e]; decide) hx.2, e]; exact ⟨rfl, rfl⟩
    · have h2' : (!decide (chkI d = 0)) = false := h2
      have hc : ¬ chkI d ≠ 0 := by simpa using h2'
      have h4 : ¬ ((d.1 = 4 ∨ d.1 = 5) ∧ (nI d < 0 ∨ (l.length : Int) < nI d)) := by
        intro hh
        have : ((decide (d.1 = 4) || decide (d.1 = 5)) && (decide (nI d < 0) || decide ((l.length : Int) < nI d))) = true := by
          simp only [Bool.and_eq_true, Bool.or_eq_true, decide_eq_true_eq]; exact hh
        exact absurd (this.symm.trans h3) (by simp)
      have e : badI l.length d = 0 := (if_neg hc).trans (if_neg h4)
      refine ⟨InR_i64.2 (by omega), x + 1, ⟨by omega, fun j hj i hi => ?_⟩, ⟨rfl, trivial⟩, rfl, by omega⟩
      by_cases hjx : j = x
      · subst hjx; rw [hd'] at hi; cases hi; exact e
      · exact hx.2 j (by omega) i hi
  · simp only [decide_eq_false_iff_not] at g
    rw [cfg_none hl fun i hi => ?_]
    · exact ⟨rfl, rfl⟩
    · obtain ⟨j, hj⟩ := List.mem_iff_getElem?.1 hi
      have := (List.getElem?_eq_some_iff.1 hj).1
      exact hx.2 j (by omega) i hj
set_option maxHeartbeats 2000000 in
set_option maxRecDepth 100000 in
theorem f50_met : Go.Eng.Met Tryd.prog cx0.gd 50 ctCk :=
  met_of (cx := cx0) (n := 44) (cl := cl50) (by kernel_rfl) tis_ok ⟨f55_met, trivial⟩ Tryd.func50 (by kernel_rfl) (by kernel_rfl) rfl (by kernel_rfl) (by kernel_rfl) fun d hd => by
    obtain ⟨⟨nm, l, ⟨⟩⟩, ⟨⟩⟩ := d
    exact ex_of (ann50 nm l) (f50_vc nm l) (by kernel_rfl)
theorem suc_br {n k : Nat} {i : ID} (h : i.1 = 5) : sucI n k i = if minI (nI i) ((k : Int) + 1) = maxI (nI i) ((k : Int) + 1) then [minI (nI i) ((k : Int) + 1)] else [minI (nI i) ((k : Int) + 1), maxI (nI i) ((k : Int) + 1)] := by
  unfold sucI
  rw [if_neg (by omega), if_pos h, makeI_two]
  unfold minI maxI
  grind
@[reducible] noncomputable def mk62 : MK := { ss := [shF, .int .i64], f := fun d => .seq Tryd.prog [.int .i64] (sucD d.1.2.1 d.2.1.toNat), pre := fun d => 0 ≤ d.2.1 ∧ d.2.1 < d.1.2.1.length ∧ d.1.2.1.length ≤ 64 }

@[reducible] noncomputable def cl62 : List (Nat × CT) := []
@[reducible] noncomputable def ann62 (nm : ByteArray) (cd : List ID) (k : Int) : Nat → Option (St → Ann) := fun _ => none
@[reducible] def il62 : List (Nat × IP) := []
@[reducible] def hl62 : List (Nat × Nat × CT) := []
@[reducible] noncomputable def ml62 : List (Nat × MK) := []
set_option maxRecDepth 100000 in
theorem f62_vc (nm : ByteArray) (cd : List ID) (k : Int) (l : Nat) (hpre : mk62.pre ((nm, cd, ()), k, ())) :
    ((0 : Int) ≤ k ∧ k < (↑cd.length : Int)) ∧ ∀ (d : I6.den × (I6.pair (I6.pair (I6.pair (I6.pair (I6.pair (I6.pair (I6.pair Sh.unit))))))).den), cd[k.toNat]? = some d → br (decide (d.fst = (4 : Int))) (l = l ∧ (sucD cd k.toNat)[(0 : Nat)]? = some (d.snd.snd.snd.snd.snd.fst, ()) ∧ (1 : Nat) = lenL (sucD cd k.toNat) ∧ True) (br (decide (d.fst = (5 : Int))) (((InR IntKind.i64 (k + (1 : Int)) ∧ (InR IntKind.i64 (k + (1 : Int)) ∧ l = l ∧ (sucD cd k.toNat)[(0 : Nat)]? = some (minI d.snd.snd.snd.snd.snd.fst (k + (1 : Int)), ()) ∧ br (true && !decide (minI d.snd.snd.snd.snd.snd.fst (k + (1 : Int)) = maxI d.snd.snd.snd.snd.snd.fst (k + (1 : Int)))) (l = l ∧ (sucD cd k.toNat)[(1 : Nat)]? = some (maxI d.snd.snd.snd.snd.snd.fst (k + (1 : Int)), ()) ∧ (2 : Nat) = lenL (sucD cd k.toNat) ∧ True) ((1 : Nat) = lenL (sucD cd k.toNat)) ∧ br (false && !decide (minI d.snd.snd.snd.snd.snd.fst (k + (1 : Int)) = maxI d.snd.snd.snd.snd.snd.fst (k + (1 : Int)))) False True) ∧ ((InR IntKind.i64 (k + (1 : Int)) ∧ l = l ∧ (sucD cd k.toNat)[(0 : Nat)]? = some (minI d.snd.snd.snd.snd.snd.fst (k + (1 : Int)), ()) ∧ br (true && !decide (minI d.snd.snd.snd.snd.snd.fst (k + (1 : Int)) = maxI d.snd.snd.snd.snd.snd.fst (k + (1 : Int)))) (l = l ∧ (sucD cd k.toNat)[(1 : Nat)]? = some (maxI d.snd.snd.snd.snd.snd.fst (k + (1 : Int)), ()) ∧ (2 : Nat) = lenL (sucD cd k.toNat) ∧ True) ((1 : Nat) = lenL (sucD cd k.toNat)) ∧ br (false && !decide (minI d.snd.snd.snd.snd.snd.fst (k + (1 : Int)) = maxI d.snd.snd.snd.snd.snd.fst (k + (1 : Int)))) False True) ∧ InR IntKind.i64 (k + (1 : Int)) ∧ (l = l ∧ (sucD cd k.toNat)[(0 : Nat)]? = some (minI d.snd.snd.snd.snd.snd.fst (k + (1 : Int)), ()) ∧ br (true && !decide (minI d.snd.snd.snd.snd.snd.fst (k + (1 : Int)) = maxI d.snd.snd.snd.snd.snd.fst (k + (1 : Int)))) (l = l ∧ (sucD cd k.toNat)[(1 : Nat)]? = some (maxI d.snd.snd.snd.snd.snd.fst (k + (1 : Int)), ()) ∧ (2 : Nat) = lenL (sucD cd k.toNat) ∧ True) ((1 : Nat) = lenL (sucD cd k.toNat)) ∧ br (false && !decide (minI d.snd.snd.snd.snd.snd.fst (k + (1 : Int)) = maxI d.snd.snd.snd.snd.snd.fst (k + (1 : Int)))) False True) ∧ l = l ∧ (sucD cd k.toNat)[(0 : Nat)]? = some (minI d.snd.snd.snd.snd.snd.fst (k + (1 : Int)), ()) ∧ br (true && !decide (minI d.snd.snd.snd.snd.snd.fst (k + (1 : Int)) = maxI d.snd.snd.snd.snd.snd.fst (k + (1 : Int)))) (l = l ∧ (sucD cd k.toNat)[(1 : Nat)]? = some (maxI d.snd.snd.snd.snd.snd.fst (k + (1 : Int)), ()) ∧ (2 : Nat) = lenL (sucD cd k.toNat) ∧ True) ((1 : Nat) = lenL (sucD cd k.toNat)) ∧ br (false && !decide (minI d.snd.snd.snd.snd.snd.fst (k + (1 : Int)) = maxI d.snd.snd.snd.snd.snd.fst (k + (1 : Int)))) False True) ∧ InR IntKind.i64 (k + (1 : Int)) ∧ (l = l ∧ (sucD cd k.toNat)[(0 : Nat)]? = some (minI d.snd.snd.snd.snd.snd.fst (k + (1 : Int)), ()) ∧ br (true && !decide (minI d.snd.snd.snd.snd.snd.fst (k + (1 : Int)) = maxI d.snd.snd.snd.snd.snd.fst (k + (1 : Int)))) (l = l ∧ (sucD cd k.toNat)[(1 : Nat)]? = some (maxI d.snd.snd.snd.snd.snd.fst (k + (1 : Int)), ()) ∧ (2 : Nat) = lenL (sucD cd k.toNat) ∧ True) ((1 : Nat) = lenL (sucD cd k.toNat)) ∧ br (false && !decide (minI d.snd.snd.snd.snd.snd.fst (k + (1 : Int)) = maxI d.snd.snd.snd.snd.snd.fst (k + (1 : Int)))) False True) ∧ (l = l ∧ (sucD cd k.toNat)[(0 : Nat)]? = some (minI d.snd.snd.snd.snd.snd.fst (k + (1 : Int)), ()) ∧ br (true && !decide (minI d.snd.snd.snd.snd.snd.fst (k + (1 : Int)) = maxI d.snd.snd.snd.snd.snd.fst (k + (1 : Int)))) (l = l ∧ (sucD cd k.toNat)[(1 : Nat)]? = some (maxI d.snd.snd.snd.snd.snd.fst (k + (1 : Int)), ()) ∧ (2 : Nat) = lenL (sucD cd k.toNat) ∧ True) ((1 : Nat) = lenL (sucD cd k.toNat)) ∧ br (false && !decide (minI d.snd.snd.snd.snd.snd.fst (k + (1 : Int)) = maxI d.snd.snd.snd.snd.snd.fst (k + (1 : Int)))) False True) ∧ l = l ∧ (sucD cd k.toNat)[(0 : Nat)]? = some (minI d.snd.snd.snd.snd.snd.fst (k + (1 : Int)), ()) ∧ br (true && !decide (minI d.snd.snd.snd.snd.snd.fst (k + (1 : Int)) = maxI d.snd.snd.snd.snd.snd.fst (k + (1 : Int)))) (l = l ∧ (sucD cd k.toNat)[(1 : Nat)]? = some (maxI d.snd.snd.snd.snd.snd.fst (k + (1 : Int)), ()) ∧ (2 : Nat) = lenL (sucD cd k.toNat) ∧ True) ((1 : Nat) = lenL (sucD cd k.toNat)) ∧ br (false && !decide (minI d.snd.snd.snd.snd.snd.fst (k + (1 : Int)) = maxI d.snd.snd.snd.snd.snd.fst (k + (1 : Int)))) False True) ∧ ((InR IntKind.i64 (k + (1 : Int)) ∧ (InR IntKind.i64 (k + (1 : Int)) ∧ l = l ∧ (sucD cd k.toNat)[(0 : Nat)]? = some (minI d.snd.snd.snd.snd.snd.fst (k + (1 : Int)), ()) ∧ br (true && !decide (minI d.snd.snd.snd.snd.snd.fst (k + (1 : Int)) = maxI d.snd.snd.snd.snd.snd.fst (k + (1 : Int)))) (l = l ∧ (sucD cd k.toNat)[(1 : Nat)]? = some (maxI d.snd.snd.snd.snd.snd.fst (k + (1 : Int)), ()) ∧ (2 : Nat) = lenL (sucD cd k.toNat) ∧ True) ((1 : Nat) = lenL (sucD cd k.toNat)) ∧ br (false && !decide (minI d.snd.snd.snd.snd.snd.fst (k + (1 : Int)) = maxI d.snd.snd.snd.snd.snd.fst (k + (1 : Int)))) False True) ∧ InR IntKind.i64 (k + (1 : Int)) ∧ (l = l ∧ (sucD cd k.toNat)[(0 : Nat)]? = some (minI d.snd.snd.snd.snd.snd.fst (k + (1 : Int)), ()) ∧ br (true && !decide (minI d.snd.snd.snd.snd.snd.fst (k + (1 : Int)) = maxI d.snd.snd.snd.snd.snd.fst (k + (1 : Int)))) (l = l ∧ (sucD cd k.toNat)[(1 : Nat)]? = some (maxI d.snd.snd.snd.snd.snd.fst (k + (1 : Int)), ()) ∧ (2 : Nat) = lenL (sucD cd k.toNat) ∧ True) ((1 : Nat) = lenL (sucD cd k.toNat)) ∧ br (false && !decide (minI d.snd.snd.snd.snd.snd.fst (k + (1 : Int)) = maxI d.snd.snd.snd.snd.snd.fst (k + (1 : Int)))) False True) ∧ l = l ∧ (sucD cd k.toNat)[(0 : Nat)]? = some (minI d.snd.snd.snd.snd.snd.fst (k + (1 : Int)), ()) ∧ br (true && !decide (minI d.snd.snd.snd.snd.snd.fst (k + (1 : Int)) = maxI d.snd.snd.snd.snd.snd.fst (k + (1 : Int)))) (l = l ∧ (sucD cd k.toNat)[(1 : Nat)]? = some (maxI d.snd.snd.snd.snd.snd.fst (k + (1 : Int)), ()) ∧ (2 : Nat) = lenL (sucD cd k.toNat) ∧ True) ((1 : Nat) = lenL (sucD cd k.toNat)) ∧ br (false && !decide (minI d.snd.snd.snd.snd.snd.fst (k + (1 : Int)) = maxI d.snd.snd.snd.snd.snd.fst (k + (1 : Int)))) False True) ∧ InR IntKind.i64 (k + (1 : Int)) ∧ (InR IntKind.i64 (k + (1 : Int)) ∧ (l = l ∧ (sucD cd k.toNat)[(0 : Nat)]? = some (minI d.snd.snd.snd.snd.snd.fst (k + (1 : Int)), ()) ∧ br (true && !decide (minI d.snd.snd.snd.snd.snd.fst (k + (1 : Int)) = maxI d.snd.snd.snd.snd.snd.fst (k + (1 : Int)))) (l = l ∧ (sucD cd k.toNat)[(1 : Nat)]? = some (maxI d.snd.snd.snd.snd.snd.fst (k + (1 : Int)), ()) ∧ (2 : Nat) = lenL (sucD cd k.toNat) ∧ True) ((1 : Nat) = lenL (sucD cd k.toNat)) ∧ br (false && !decide (minI d.snd.snd.snd.snd.snd.fst (k + (1 : Int)) = maxI d.snd.snd.snd.snd.snd.fst (k + (1 : Int)))) False True) ∧ l = l ∧ (sucD cd k.toNat)[(0 : Nat)]? = some (minI d.snd.snd.snd.snd.snd.fst (k + (1 : Int)), ()) ∧ br (true && !decide (minI d.snd.snd.snd.snd.snd.fst (k + (1 : Int)) = maxI d.snd.snd.snd.snd.snd.fst (k + (1 : Int)))) (l = l ∧ (sucD cd k.toNat)[(1 : Nat)]? = some (maxI d.snd.snd.snd.snd.snd.fst (k + (1 : Int)), ()) ∧ (2 : Nat) = lenL (sucD cd k.toNat) ∧ True) ((1 : Nat) = lenL (sucD cd k.toNat)) ∧ br (false && !decide (minI d.snd.snd.snd.snd.snd.fst (k + (1 : Int)) = maxI d.snd.snd.snd.snd.snd.fst (k + (1 : Int)))) False True) ∧ InR IntKind.i64 (k + (1 : Int)) ∧ l = l ∧ (sucD cd k.toNat)[(0 : Nat)]? = some (minI d.snd.snd.snd.snd.snd.fst (k + (1 : Int)), ()) ∧ br (true && !decide (minI d.snd.snd.snd.snd.snd.fst (k + (1 : Int)) = maxI d.snd.snd.snd.snd.snd.fst (k + (1 : Int)))) (l = l ∧ (sucD cd k.toNat)[(1 : Nat)]? = some (maxI d.snd.snd.snd.snd.snd.fst (k + (1 : Int)), ()) ∧ (2 : Nat) = lenL (sucD cd k.toNat) ∧ True) ((1 : Nat) = lenL (sucD cd k.toNat)) ∧ br (false && !decide (minI d.snd.snd.snd.snd.snd.fst (k + (1 : Int)) = maxI d.snd.snd.snd.snd.snd.fst (k + (1 : Int)))) False True) ∧ InR IntKind.i64 (k + (1 : Int)) ∧ (InR IntKind.i64 (k + (1 : Int)) ∧ (l = l ∧ (sucD cd k.toNat)[(0 : Nat)]? = some (minI d.snd.snd.snd.snd.snd.fst (k + (1 : Int)), ()) ∧ br (true && !decide (minI d.snd.snd.snd.snd.snd.fst (k + (1 : Int)) = maxI d.snd.snd.snd.snd.snd.fst (k + (1 : Int)))) (l = l ∧ (sucD cd k.toNat)[(1 : Nat)]? = some (maxI d.snd.snd.snd.snd.snd.fst (k + (1 : Int)), ()) ∧ (2 : Nat) = lenL (sucD cd k.toNat) ∧ True) ((1 : Nat) = lenL (sucD cd k.toNat)) ∧ br (false && !decide (minI d.snd.snd.snd.snd.snd.fst (k + (1 : Int)) = maxI d.snd.snd.snd.snd.snd.fst (k + (1 : Int)))) False True) ∧ (l = l ∧ (sucD cd k.toNat)[(0 : Nat)]? = some (minI d.snd.snd.snd.snd.snd.fst (k + (1 : Int)), ()) ∧ br (true && !decide (minI d.snd.snd.snd.snd.snd.fst (k + (1 : Int)) = maxI d.snd.snd.snd.snd.snd.fst (k + (1 : Int)))) (l = l ∧ (sucD cd k.toNat)[(1 : Nat)]? = some (maxI d.snd.snd.snd.snd.snd.fst (k + (1 : Int)), ()) ∧ (2 : Nat) = lenL (sucD cd k.toNat) ∧ True) ((1 : Nat) = lenL (sucD cd k.toNat)) ∧ br (false && !decide (minI d.snd.snd.snd.snd.snd.fst (k + (1 : Int)) = maxI d.snd.snd.snd.snd.snd.fst (k + (1 : Int)))) False True) ∧ l = l ∧ (sucD cd k.toNat)[(0 : Nat)]? = some (minI d.snd.snd.snd.snd.snd.fst (k + (1 : Int)), ()) ∧ br (true && !decide (minI d.snd.snd.snd.snd.snd.fst (k + (1 : Int)) = maxI d.snd.snd.snd.snd.snd.fst (k + (1 : Int)))) (l = l ∧ (sucD cd k.toNat)[(1 : Nat)]? = some (maxI d.snd.snd.snd.snd.snd.fst (k + (1 : Int)), ()) ∧ (2 : Nat) = lenL (sucD cd k.toNat) ∧ True) ((1 : Nat) = lenL (sucD cd k.toNat)) ∧ br (false && !decide (minI d.snd.snd.snd.snd.snd.fst (k + (1 : Int)) = maxI d.snd.snd.snd.snd.snd.fst (k + (1 : Int)))) False True) ∧ (InR IntKind.i64 (k + (1 : Int)) ∧ (l = l ∧ (sucD cd k.toNat)[(0 : Nat)]? = some (minI d.snd.snd.snd.snd.snd.fst (k + (1 : Int)), ()) ∧ br (true && !decide (minI d.snd.snd.snd.snd.snd.fst (k + (1 : Int)) = maxI d.snd.snd.snd.snd.snd.fst (k + (1 : Int)))) (l = l ∧ (sucD cd k.toNat)[(1 : Nat)]? = some (maxI d.snd.snd.snd.snd.snd.fst (k + (1 : Int)), ()) ∧ (2 : Nat) = lenL (sucD cd k.toNat) ∧ True) ((1 : Nat) = lenL (sucD cd k.toNat)) ∧ br (false && !decide (minI d.snd.snd.snd.snd.snd.fst (k + (1 : Int)) = maxI d.snd.snd.snd.snd.snd.fst (k + (1 : Int)))) False True) ∧ l = l ∧ (sucD cd k.toNat)[(0 : Nat)]? = some (minI d.snd.snd.snd.snd.snd.fst (k + (1 : Int)), ()) ∧ br (true && !decide (minI d.snd.snd.snd.snd.snd.fst (k + (1 : Int)) = maxI d.snd.snd.snd.snd.snd.fst (k + (1 : Int)))) (l = l ∧ (sucD cd k.toNat)[(1 : Nat)]? = some (maxI d.snd.snd.snd.snd.snd.fst (k + (1 : Int)), ()) ∧ (2 : Nat) = lenL (sucD cd k.toNat) ∧ True) ((1 : Nat) = lenL (sucD cd k.toNat)) ∧ br (false && !decide (minI d.snd.snd.snd.snd.snd.fst (k + (1 : Int)) = maxI d.snd.snd.snd.snd.snd.fst (k + (1 : Int)))) False True) ∧ InR IntKind.i64 (k + (1 : Int)) ∧ l = l ∧ (sucD cd k.toNat)[(0 : Nat)]? = some (minI d.snd.snd.snd.snd.snd.fst (k + (1 : Int)), ()) ∧ br (true && !decide (minI d.snd.snd.snd.snd.snd.fst (k + (1 : Int)) = maxI d.snd.snd.snd.snd.snd.fst (k + (1 : Int)))) (l = l ∧ (sucD cd k.toNat)[(1 : Nat)]? = some (maxI d.snd.snd.snd.snd.snd.fst (k + (1 : Int)), ()) ∧ (2 : Nat) = lenL (sucD cd k.toNat) ∧ True) ((1 : Nat) = lenL (sucD cd k.toNat)) ∧ br (false && !decide (minI d.snd.snd.snd.snd.snd.fst (k + (1 : Int)) = maxI d.snd.snd.snd.snd.snd.fst (k + (1 : Int)))) False True) ∧ (InR IntKind.i64 (k + (1 : Int)) ∧ ((InR IntKind.i64 (k + (1 : Int)) ∧ l = l ∧ (sucD cd k.toNat)[(0 : Nat)]? = some (minI d.snd.snd.snd.snd.snd.fst (k + (1 : Int)), ()) ∧ br (true && !decide (minI d.snd.snd.snd.snd.snd.fst (k + (1 : Int)) = maxI d.snd.snd.snd.snd.snd.fst (k + (1 : Int)))) (l = l ∧ (sucD cd k.toNat)[(1 : Nat)]? = some (maxI d.snd.snd.snd.snd.snd.fst (k + (1 : Int)), ()) ∧ (2 : Nat) = lenL (sucD cd k.toNat) ∧ True) ((1 : Nat) = lenL (sucD cd k.toNat)) ∧ br (false && !decide (minI d.snd.snd.snd.snd.snd.fst (k + (1 : Int)) = maxI d.snd.snd.snd.snd.snd.fst (k + (1 : Int)))) False True) ∧ ((InR IntKind.i64 (k + (1 : Int)) ∧ l = l ∧ (sucD cd k.toNat)[(0 : Nat)]? = some (minI d.snd.snd.snd.snd.snd.fst (k + (1 : Int)), ()) ∧ br (true && !decide (minI d.snd.snd.snd.snd.snd.fst (k + (1 : Int)) = maxI d.snd.snd.snd.snd.snd.fst (k + (1 : Int)))) (l = l ∧ (sucD cd k.toNat)[(1 : Nat)]? = some (maxI d.snd.snd.snd.snd.snd.fst (k + (1 : Int)), ()) ∧ (2 : Nat) = lenL (sucD cd k.toNat) ∧ True) ((1 : Nat) = lenL (sucD cd k.toNat)) ∧ br (false && !decide (minI d.snd.snd.snd.snd.snd.fst (k + (1 : Int)) = maxI d.snd.snd.snd.snd.snd.fst (k + (1 : Int)))) False True) ∧ InR IntKind.i64 (k + (1 : Int)) ∧ (l = l ∧ (sucD cd k.toNat)[(0 : Nat)]? = some (minI d.snd.snd.snd.snd.snd.fst (k + (1 : Int)), ()) ∧ br (true && !decide (minI d.snd.snd.snd.snd.snd.fst (k + (1 : Int)) = maxI d.snd.snd.snd.snd.snd.fst (k + (1 : Int)))) (l = l ∧ (sucD cd k.toNat)[(1 : Nat)]? = some (maxI d.snd.snd.snd.snd.snd.fst (k + (1 : Int)), ()) ∧ (2 : Nat) = lenL (sucD cd k.toNat) ∧ True) ((1 : Nat) = lenL (sucD cd k.toNat)) ∧ br (false && !decide (minI d.snd.snd.snd.snd.snd.fst (k + (1 : Int)) = maxI d.snd.snd.snd.snd.snd.fst (k + (1 : Int)))) False True) ∧ l = l ∧ (sucD cd k.toNat)[(0 : Nat)]? = some (minI d.snd.snd.snd.snd.snd.fst (k + (1 : Int)), ()) ∧ br (true && !decide (minI d.snd.snd.snd.snd.snd.fst (k + (1 : Int)) = maxI d.snd.snd.snd.snd.snd.fst (k + (1 : Int)))) (l = l ∧ (sucD cd k.toNat)[(1 : Nat)]? = some (maxI d.snd.snd.snd.snd.snd.fst (k + (1 : Int)), ()) ∧ (2 : Nat) = lenL (sucD cd k.toNat) ∧ True) ((1 : Nat) = lenL (sucD cd k.toNat)) ∧ br (false && !decide (minI d.snd.snd.snd.snd.snd.fst (k + (1 : Int)) = maxI d.snd.snd.snd.snd.snd.fst (k + (1 : Int)))) False True) ∧ InR IntKind.i64 (k + (1 : Int)) ∧ (l = l ∧ (sucD cd k.toNat)[(0 : Nat)]? = some (minI d.snd.snd.snd.snd.snd.fst (k + (1 : Int)), ()) ∧ br (true && !decide (minI d.snd.snd.snd.snd.snd.fst (k + (1 : Int)) = maxI d.snd.snd.snd.snd.snd.fst (k + (1 : Int)))) (l = l ∧ (sucD cd k.toNat)[(1 : Nat)]? = some (maxI d.snd.snd.snd.snd.snd.fst (k + (1 : Int)), ()) ∧ (2 : Nat) = lenL (sucD cd k.toNat) ∧ True) ((1 : Nat) = lenL (sucD cd k.toNat)) ∧ br (false && !decide (minI d.snd.snd.snd.snd.snd.fst (k + (1 : Int)) = maxI d.snd.snd.snd.snd.snd.fst (k + (1 : Int)))) False True) ∧ (l = l ∧ (sucD cd k.toNat)[(0 : Nat)]? = some (minI d.snd.snd.snd.snd.snd.fst (k + (1 : Int)), ()) ∧ br (true && !decide (minI d.snd.snd.snd.snd.snd.fst (k + (1 : Int)) = maxI d.snd.snd.snd.snd.snd.fst (k + (1 : Int)))) (l = l ∧ (sucD cd k.toNat)[(1 : Nat)]? = some (maxI d.snd.snd.snd.snd.snd.fst (k + (1 : Int)), ()) ∧ (2 : Nat) = lenL (sucD cd k.toNat) ∧ True) ((1 : Nat) = lenL (sucD cd k.toNat)) ∧ br (false && !decide (minI d.snd.snd.snd.snd.snd.fst (k + (1 : Int)) = maxI d.snd.snd.snd.snd.snd.fst (k + (1 : Int)))) False True) ∧ l = l ∧ (sucD cd k.toNat)[(0 : Nat)]? = some (minI d.snd.snd.snd.snd.snd.fst (k + (1 : Int)), ()) ∧ br (true && !decide (minI d.snd.snd.snd.snd.snd.fst (k + (1 : Int)) = maxI d.snd.snd.snd.snd.snd.fst (k + (1 : Int)))) (l = l ∧ (sucD cd k.toNat)[(1 : Nat)]? = some (maxI d.snd.snd.snd.snd.snd.fst (k + (1 : Int)), ()) ∧ (2 : Nat) = lenL (sucD cd k.toNat) ∧ True) ((1 : Nat) = lenL (sucD cd k.toNat)) ∧ br (false && !decide (minI d.snd.snd.snd.snd.snd.fst (k + (1 : Int)) = maxI d.snd.snd.snd.snd.snd.fst (k + (1 : Int)))) False True) ∧ (((InR IntKind.i64 (k + (1 : Int)) ∧ l = l ∧ (sucD cd k.toNat)[(0 : Nat)]? = some (minI d.snd.snd.snd.snd.snd.fst (k + (1 : Int)), ()) ∧ br (true && !decide (minI d.snd.snd.snd.snd.snd.fst (k + (1 : Int)) = maxI d.snd.snd.snd.snd.snd.fst (k + (1 : Int)))) (l = l ∧ (sucD cd k.toNat)[(1 : Nat)]? = some (maxI d.snd.snd.snd.snd.snd.fst (k + (1 : Int)), ()) ∧ (2 : Nat) = lenL (sucD cd k.toNat) ∧ True) ((1 : Nat) = lenL (sucD cd k.toNat)) ∧ br (false && !decide (minI d.snd.snd.snd.snd.snd.fst (k + (1 : Int)) = maxI d.snd.snd.snd.snd.snd.fst (k + (1 : Int)))) False True) ∧ InR IntKind.i64 (k + (1 : Int)) ∧ (l = l ∧ (sucD cd k.toNat)[(0 : Nat)]? = some (minI d.snd.snd.snd.snd.snd.fst (k + (1 : Int)), ()) ∧ br (true && !decide (minI d.snd.snd.snd.snd.snd.fst (k + (1 : Int)) = maxI d.snd.snd.snd.snd.snd.fst (k + (1 : Int)))) (l = l ∧ (sucD cd k.toNat)[(1 : Nat)]? = some (maxI d.snd.snd.snd.snd.snd.fst (k + (1 : Int)), ()) ∧ (2 : Nat) = lenL (sucD cd k.toNat) ∧ True) ((1 : Nat) = lenL (sucD cd k.toNat)) ∧ br (false && !decide (minI d.snd.snd.snd.snd.snd.fst (k + (1 : Int)) = maxI d.snd.snd.snd.snd.snd.fst (k + (1 : Int)))) False True) ∧ l = l ∧ (sucD cd k.toNat)[(0 : Nat)]? = some (minI d.snd.snd.snd.snd.snd.fst (k + (1 : Int)), ()) ∧ br (true && !decide (minI d.snd.snd.snd.snd.snd.fst (k + (1 : Int)) = maxI d.snd.snd.snd.snd.snd.fst (k + (1 : Int)))) (l = l ∧ (sucD cd k.toNat)[(1 : Nat)]? = some (maxI d.snd.snd.snd.snd.snd.fst (k + (1 : Int)), ()) ∧ (2 : Nat) = lenL (sucD cd k.toNat) ∧ True) ((1 : Nat) = lenL (sucD cd k.toNat)) ∧ br (false && !decide (minI d.snd.snd.snd.snd.snd.fst (k + (1 : Int)) = maxI d.snd.snd.snd.snd.snd.fst (k + (1 : Int)))) False True) ∧ InR IntKind.i64 (k + (1 : Int)) ∧ ((l = l ∧ (sucD cd k.toNat)[(0 : Nat)]? = some (minI d.snd.snd.snd.snd.snd.fst (k + (1 : Int)), ()) ∧ br (true && !decide (minI d.snd.snd.snd.snd.snd.fst (k + (1 : Int)) = maxI d.snd.snd.snd.snd.snd.fst (k + (1 : Int)))) (l = l ∧ (sucD cd k.toNat)[(1 : Nat)]? = some (maxI d.snd.snd.snd.snd.snd.fst (k + (1 : Int)), ()) ∧ (2 : Nat) = lenL (sucD cd k.toNat) ∧ True) ((1 : Nat) = lenL (sucD cd k.toNat)) ∧ br (false && !decide (minI d.snd.snd.snd.snd.snd.fst (k + (1 : Int)) = maxI d.snd.snd.snd.snd.snd.fst (k + (1 : Int)))) False True) ∧ l = l ∧ (sucD cd k.toNat)[(0 : Nat)]? = some (minI d.snd.snd.snd.snd.snd.fst (k + (1 : Int)), ()) ∧ br (true && !decide (minI d.snd.snd.snd.snd.snd.fst (k + (1 : Int)) = maxI d.snd.snd.snd.snd.snd.fst (k + (1 : Int)))) (l = l ∧ (sucD cd k.toNat)[(1 : Nat)]? = some (maxI d.snd.snd.snd.snd.snd.fst (k + (1 : Int)), ()) ∧ (2 : Nat) = lenL (sucD cd k.toNat) ∧ True) ((1 : Nat) = lenL (sucD cd k.toNat)) ∧ br (false && !decide (minI d.snd.snd.snd.snd.snd.fst (k + (1 : Int)) = maxI d.snd.snd.snd.snd.snd.fst (k + (1 : Int)))) False True) ∧ l = l ∧ (sucD cd k.toNat)[(0 : Nat)]? = some (minI d.snd.snd.snd.snd.snd.fst (k + (1 : Int)), ()) ∧ br (true && !decide (minI d.snd.snd.snd.snd.snd.fst (k + (1 : Int)) = maxI d.snd.snd.snd.snd.snd.fst (k + (1 : Int)))) (l = l ∧ (sucD cd k.toNat)[(1 : Nat)]? = some (maxI d.snd.snd.snd.snd.snd.fst (k + (1 : Int)), ()) ∧ (2 : Nat) = lenL (sucD cd k.toNat) ∧ True) ((1 : Nat) = lenL (sucD cd k.toNat)) ∧ br (false && !decide (minI d.snd.snd.snd.snd.snd.fst (k + (1 : Int)) = maxI d.snd.snd.snd.snd.snd.fst (k + (1 : Int)))) False True) ∧ InR IntKind.i64 (k + (1 : Int)) ∧ ((l = l ∧ (sucD cd k.toNat)[(0 : Nat)]? = some (minI d.snd.snd.snd.snd.snd.fst (k + (1 : Int)), ()) ∧ br (true && !decide (minI d.snd.snd.snd.snd.snd.fst (k + (1 : Int)) = maxI d.snd.snd.snd.snd.snd.fst (k + (1 : Int)))) (l = l ∧ (sucD cd k.toNat)[(1 : Nat)]? = some (maxI d.snd.snd.snd.snd.snd.fst (k + (1 : Int)), ()) ∧ (2 : Nat) = lenL (sucD cd k.toNat) ∧ True) ((1 : Nat) = lenL (sucD cd k.toNat)) ∧ br (false && !decide (minI d.snd.snd.snd.snd.snd.fst (k + (1 : Int)) = maxI d.snd.snd.snd.snd.snd.fst (k + (1 : Int)))) False True) ∧ (l = l ∧ (sucD cd k.toNat)[(0 : Nat)]? = some (minI d.snd.snd.snd.snd.snd.fst (k + (1 : Int)), ()) ∧ br (true && !decide (minI d.snd.snd.snd.snd.snd.fst (k + (1 : Int)) = maxI d.snd.snd.snd.snd.snd.fst (k + (1 : Int)))) (l = l ∧ (sucD cd k.toNat)[(1 : Nat)]? = some (maxI d.snd.snd.snd.snd.snd.fst (k + (1 : Int)), ()) ∧ (2 : Nat) = lenL (sucD cd k.toNat) ∧ True) ((1 : Nat) = lenL (sucD cd k.toNat)) ∧ br (false && !decide (minI d.snd.snd.snd.snd.snd.fst (k + (1 : Int)) = maxI d.snd.snd.snd.snd.snd.fst (k + (1 : Int)))) False True) ∧ l = l ∧ (sucD cd k.toNat)[(0 : Nat)]? = some (minI d.snd.snd.snd.snd.snd.fst (k + (1 : Int)), ()) ∧ br (true && !decide (minI d.snd.snd.snd.snd.snd.fst (k + (1 : Int)) = maxI d.snd.snd.snd.snd.snd.fst (k + (1 : Int)))) (l = l ∧ (sucD cd k.toNat)[(1 : Nat)]? = some (maxI d.snd.snd.snd.snd.snd.fst (k + (1 : Int)), ()) ∧ (2 : Nat) = lenL (sucD cd k.toNat) ∧ True) ((1 : Nat) = lenL (sucD cd k.toNat)) ∧ br (false && !decide (minI d.snd.snd.snd.snd.snd.fst (k + (1 : Int)) = maxI d.snd.snd.snd.snd.snd.fst (k + (1 : Int)))) False True) ∧ ((l = l ∧ (sucD cd k.toNat)[(0 : Nat)]? = some (minI d.snd.snd.snd.snd.snd.fst (k + (1 : Int)), ()) ∧ br (true && !decide (minI d.snd.snd.snd.snd.snd.fst (k + (1 : Int)) = maxI d.snd.snd.snd.snd.snd.fst (k + (1 : Int)))) (l = l ∧ (sucD cd k.toNat)[(1 : Nat)]? = some (maxI d.snd.snd.snd.snd.snd.fst (k + (1 : Int)), ()) ∧ (2 : Nat) = lenL (sucD cd k.toNat) ∧ True) ((1 : Nat) = lenL (sucD cd k.toNat)) ∧ br (false && !decide (minI d.snd.snd.snd.snd.snd.fst (k + (1 : Int)) = maxI d.snd.snd.snd.snd.snd.fst (k + (1 : Int)))) False True) ∧ l = l ∧ (sucD cd k.toNat)[(0 : Nat)]? = some (minI d.snd.snd.snd.snd.snd.fst (k + (1 : Int)), ()) ∧ br (true && !decide (minI d.snd.snd.snd.snd.snd.fst (k + (1 : Int)) = maxI d.snd.snd.snd.snd.snd.fst (k + (1 : Int)))) (l = l ∧ (sucD cd k.toNat)[(1 : Nat)]? = some (maxI d.snd.snd.snd.snd.snd.fst (k + (1 : Int)), ()) ∧ (2 : Nat) = lenL (sucD cd k.toNat) ∧ True) ((1 : Nat) = lenL (sucD cd k.toNat)) ∧ br (false && !decide (minI d.snd.snd.snd.snd.snd.fst (k + (1 : Int)) = maxI d.snd.snd.snd.snd.snd.fst (k + (1 : Int)))) False True) ∧ l = l ∧ (sucD cd k.toNat)[(0 : Nat)]? = some (minI d.snd.snd.snd.snd.snd.fst (k + (1 : Int)), ()) ∧ br (true && !decide (minI d.snd.snd.snd.snd.snd.fst (k + (1 : Int)) = maxI d.snd.snd.snd.snd.snd.fst (k + (1 : Int)))) (l = l ∧ (sucD cd k.toNat)[(1 : Nat)]? = some (maxI d.snd.snd.snd.snd.snd.fst (k + (1 : Int)), ()) ∧ (2 : Nat) = lenL (sucD cd k.toNat) ∧ True) ((1 : Nat) = lenL (sucD cd k.toNat)) ∧ br (false && !decide (minI d.snd.snd.snd.snd.snd.fst (k + (1 : Int)) = maxI d.snd.snd.snd.snd.snd.fst (k + (1 : Int)))) False True) ∧ (((InR IntKind.i64 (k + (1 : Int)) ∧ (InR IntKind.i64 (k + (1 : Int)) ∧ l = l ∧ (sucD cd k.toNat)[(0 : Nat)]? = some (minI d.snd.snd.snd.snd.snd.fst (k + (1 : Int)), ()) ∧ br (true && !decide (minI d.snd.snd.snd.snd.snd.fst (k + (1 : Int)) = maxI d.snd.snd.snd.snd.snd.fst (k + (1 : Int)))) (l = l ∧ (sucD cd k.toNat)[(1 : Nat)]? = some (maxI d.snd.snd.snd.snd.snd.fst (k + (1 : Int)), ()) ∧ (2 : Nat) = lenL (sucD cd k.toNat) ∧ True) ((1 : Nat) = lenL (sucD cd k.toNat)) ∧ br (false && !decide (minI d.snd.snd.snd.snd.snd.fst (k + (1 : Int)) = maxI d.snd.snd.snd.snd.snd.fst (k + (1 : Int)))) False True) ∧ InR IntKind.i64 (k + (1 : Int)) ∧ (l = l ∧ (sucD cd k.toNat)[(0 : Nat)]? = some (minI d.snd.snd.snd.snd.snd.fst (k + (1 : Int)), ()) ∧ br (true && !decide (minI d.snd.snd.snd.snd.snd.fst (k + (1 : Int)) = maxI d.snd.snd.snd.snd.snd.fst (k + (1 : Int)))) (l = l ∧ (sucD cd k.toNat)[(1 : Nat)]? = some (maxI d.snd.snd.snd.snd.snd.fst (k + (1 : Int)), ()) ∧ (2 : Nat) = lenL (sucD cd k.toNat) ∧ True) ((1 : Nat) = lenL (sucD cd k.toNat)) ∧ br (false && !decide (minI d.snd.snd.snd.snd.snd.fst (k + (1 : Int)) = maxI d.snd.snd.snd.snd.snd.fst (k + (1 : Int)))) False True) ∧ l = l ∧ (sucD cd k.toNat)[(0 : Nat)]? = some (minI d.snd.snd.snd.snd.snd.fst (k + (1 : Int)), ()) ∧ br (true && !decide (minI d.snd.snd.snd.snd.snd.fst (k + (1 : Int)) = maxI d.snd.snd.snd.snd.snd.fst (k + (1 : Int)))) (l = l ∧ (sucD cd k.toNat)[(1 : Nat)]? = some (maxI d.snd.snd.snd.snd.snd.fst (k + (1 : Int)), ()) ∧ (2 : Nat) = lenL (sucD cd k.toNat) ∧ True) ((1 : Nat) = lenL (sucD cd k.toNat)) ∧ br (false && !decide (minI d.snd.snd.snd.snd.snd.fst (k + (1 : Int)) = maxI d.snd.snd.snd.snd.snd.fst (k + (1 : Int)))) False True) ∧ InR IntKind.i64 (k + (1 : Int)) ∧ (InR IntKind.i64 (k + (1 : Int)) ∧ (l = l ∧ (sucD cd k.toNat)[(0 : Nat)]? = some (minI d.snd.snd.snd.snd.snd.fst (k + (1 : Int)), ()) ∧ br (true && !decide (minI d.snd.snd.snd.snd.snd.fst (k + (1 : Int)) = maxI d.snd.snd.snd.snd.snd.fst (k + (1 : Int)))) (l = l ∧ (sucD cd k.toNat)[(1 : Nat)]? = some (maxI d.snd.snd.snd.snd.snd.fst (k + (1 : Int)), ()) ∧ (2 : Nat) = lenL (sucD cd k.toNat) ∧ True) ((1 : Nat) = lenL (sucD cd k.toNat)) ∧ br (false && !decide (minI d.snd.snd.snd.snd.snd.fst (k + (1 : Int)) = maxI d.snd.snd.snd.snd.snd.fst (k + (1 : Int)))) False True) ∧ l = l ∧ (sucD cd k.toNat)[(0 : Nat)]? = some (minI d.snd.snd.snd.snd.snd.fst (k + (1 : Int)), ()) ∧ br (true && !decide (minI d.snd.snd.snd.snd.snd.fst (k + (1 : Int)) = maxI d.snd.snd.snd.snd.snd.fst (k + (1 : Int)))) (l = l ∧ (sucD cd k.toNat)[(1 : Nat)]? = some (maxI d.snd.snd.snd.snd.snd.fst (k + (1 : Int)), ()) ∧ (2 : Nat) = lenL (sucD cd k.toNat) ∧ True) ((1 : Nat) = lenL (sucD cd k.toNat)) ∧ br (false && !decide (minI d.snd.snd.snd.snd.snd.fst (k + (1 : Int)) = maxI d.snd.snd.snd.snd.snd.fst (k + (1 : Int)))) False True) ∧ InR IntKind.i64 (k + (1 : Int)) ∧ l = l ∧ (sucD cd k.toNat)[(0 : Nat)]? = some (minI d.snd.snd.snd.snd.snd.fst (k + (1 : Int)), ()) ∧ br (true && !decide (minI d.snd.snd.snd.snd.snd.fst (k + (1 : Int)) = maxI d.snd.snd.snd.snd.snd.fst (k + (1 : Int)))) (l = l ∧ (sucD cd k.toNat)[(1 : Nat)]? = some (maxI d.snd.snd.snd.snd.snd.fst (k + (1 : Int)), ()) ∧ (2 : Nat) = lenL (sucD cd k.toNat) ∧ True) ((1 : Nat) = lenL (sucD cd k.toNat)) ∧ br (false && !decide (minI d.snd.snd.snd.snd.snd.fst (k + (1 : Int)) = maxI d.snd.snd.snd.snd.snd.fst (k + (1 : Int)))) False True) ∧ (InR IntKind.i64 (k + (1 : Int)) ∧ ((InR IntKind.i64 (k + (1 : Int)) ∧ l = l ∧ (sucD cd k.toNat)[(0 : Nat)]? = some (minI d.snd.snd.snd.snd.snd.fst (k + (1 : Int)), ()) ∧ br (true && !decide (minI d.snd.snd.snd.snd.snd.fst (k + (1 : Int)) = maxI d.snd.snd.snd.snd.snd.fst (k + (1 : Int)))) (l = l ∧ (sucD cd k.toNat)[(1 : Nat)]? = some (maxI d.snd.snd.snd.snd.snd.fst (k + (1 : Int)), ()) ∧ (2 : Nat) = lenL (sucD cd k.toNat) ∧ True) ((1 : Nat) = lenL (sucD cd k.toNat)) ∧ br (false && !decide (minI d.snd.snd.snd.snd.snd.fst (k + (1 : Int)) = maxI d.snd.snd.snd.snd.snd.fst (k + (1 : Int)))) False True) ∧ InR IntKind.i64 (k + (1 : Int)) ∧ (l = l ∧ (sucD cd k.toNat)[(0 : Nat)]? = some (minI d.snd.snd.snd.snd.snd.fst (k + (1 : Int)), ()) ∧ br (true && !decide (minI d.snd.snd.snd.snd.snd.fst (k + (1 : Int)) = maxI d.snd.snd.snd.snd.snd.fst (k + (1 : Int)))) (l = l ∧ (sucD cd k.toNat)[(1 : Nat)]? = some (maxI d.snd.snd.snd.snd.snd.fst (k + (1 : Int)), ()) ∧ (2 : Nat) = lenL (sucD cd k.toNat) ∧ True) ((1 : Nat) = lenL (sucD cd k.toNat)) ∧ br (false && !decide (minI d.snd.snd.snd.snd.snd.fst (k + (1 : Int)) = maxI d.snd.snd.snd.snd.snd.fst (k + (1 : Int)))) False True) ∧ l = l ∧ (sucD cd k.toNat)[(0 : Nat)]? = some (minI d.snd.snd.snd.snd.snd.fst (k + (1 : Int)), ()) ∧ br (true && !decide (minI d.snd.snd.snd.snd.snd.fst (k + (1 : Int)) = maxI d.snd.snd.snd.snd.snd.fst (k + (1 : Int)))) (l = l ∧ (sucD cd k.toNat)[(1 : Nat)]? = some (maxI d.snd.snd.snd.snd.snd.fst (k + (1 : Int)), ()) ∧ (2 : Nat) = lenL (sucD cd k.toNat) ∧ True) ((1 : Nat) = lenL (sucD cd k.toNat)) ∧ br (false && !decide (minI d.snd.snd.snd.snd.snd.fst (k + (1 : Int)) = maxI d.snd.snd.snd.snd.snd.fst (k + (1 : Int)))) False True) ∧ InR IntKind.i64 (k + (1 : Int)) ∧ ((l = l ∧ (sucD cd k.toNat)[(0 : Nat)]? = some (minI d.snd.snd.snd.snd.snd.fst (k + (1 : Int)), ()) ∧ br (true && !decide (minI d.snd.snd.snd.snd.snd.fst (k + (1 : Int)) = maxI d.snd.snd.snd.snd.snd.fst (k + (1 : Int)))) (l = l ∧ (sucD cd k.toNat)[(1 : Nat)]? = some (maxI d.snd.snd.snd.snd.snd.fst (k + (1 : Int)), ()) ∧ (2 : Nat) = lenL (sucD cd k.toNat) ∧ True) ((1 : Nat) = lenL (sucD cd k.toNat)) ∧ br (false && !decide (minI d.snd.snd.snd.snd.snd.fst (k + (1 : Int)) = maxI d.snd.snd.snd.snd.snd.fst (k + (1 : Int)))) False True) ∧ l = l ∧ (sucD cd k.toNat)[(0 : Nat)]? = some (minI d.snd.snd.snd.snd.snd.fst (k + (1 : Int)), ()) ∧ br (true && !decide (minI d.snd.snd.snd.snd.snd.fst (k + (1 : Int)) = maxI d.snd.snd.snd.snd.snd.fst (k + (1 : Int)))) (l = l ∧ (sucD cd k.toNat)[(1 : Nat)]? = some (maxI d.snd.snd.snd.snd.snd.fst (k + (1 : Int)), ()) ∧ (2 : Nat) = lenL (sucD cd k.toNat) ∧ True) ((1 : Nat) = lenL (sucD cd k.toNat)) ∧ br (false && !decide (minI d.snd.snd.snd.snd.snd.fst (k + (1 : Int)) = maxI d.snd.snd.snd.snd.snd.fst (k + (1 : Int)))) False True) ∧ l = l ∧ (sucD cd k.toNat)[(0 : Nat)]? = some (minI d.snd.snd.snd.snd.snd.fst (k + (1 : Int)), ()) ∧ br (true && !decide (minI d.snd.snd.snd.snd.snd.fst (k + (1 : Int)) = maxI d.snd.snd.snd.snd.snd.fst (k + (1 : Int)))) (l = l ∧ (sucD cd k.toNat)[(1 : Nat)]? = some (maxI d.snd.snd.snd.snd.snd.fst (k + (1 : Int)), ()) ∧ (2 : Nat) = lenL (sucD cd k.toNat) ∧ True) ((1 : Nat) = lenL (sucD cd k.toNat)) ∧ br (false && !decide (minI d.snd.snd.snd.snd.snd.fst (k + (1 : Int)) = maxI d.snd.snd.snd.snd.snd.fst (k + (1 : Int)))) False True) ∧ InR IntKind.i64 (k + (1 : Int)) ∧ ((InR IntKind.i64 (k + (1 : Int)) ∧ (l = l ∧ (sucD cd k.toNat)[(0 : Nat)]? = some (minI d.snd.snd.snd.snd.snd.fst (k + (1 : Int)), ()) ∧ br (true && !decide (minI d.snd.snd.snd.snd.snd.fst (k + (1 : Int)) = maxI d.snd.snd.snd.snd.snd.fst (k + (1 : Int)))) (l = l ∧ (sucD cd k.toNat)[(1 : Nat)]? = some (maxI d.snd.snd.snd.snd.snd.fst (k + (1 : Int)), ()) ∧ (2 : Nat) = lenL (sucD cd k.toNat) ∧ True) ((1 : Nat) = lenL (sucD cd k.toNat)) ∧ br (false && !decide (minI d.snd.snd.snd.snd.snd.fst (k + (1 : Int)) = maxI d.snd.snd.snd.snd.snd.fst (k + (1 : Int)))) False True) ∧ l = l ∧ (sucD cd k.toNat)[(0 : Nat)]? = some (minI d.snd.snd.snd.snd.snd.fst (k + (1 : Int)), ()) ∧ br (true && !decide (minI d.snd.snd.snd.snd.snd.fst (k + (1 : Int)) = maxI d.snd.snd.snd.snd.snd.fst (k + (1 : Int)))) (l = l ∧ (sucD cd k.toNat)[(1 : Nat)]? = some (maxI d.snd.snd.snd.snd.snd.fst (k + (1 : Int)), ()) ∧ (2 : Nat) = lenL (sucD cd k.toNat) ∧ True) ((1 : Nat) = lenL (sucD cd k.toNat)) ∧ br (false && !decide (minI d.snd.snd.snd.snd.snd.fst (k + (1 : Int)) = maxI d.snd.snd.snd.snd.snd.fst (k + (1 : Int)))) False True) ∧ InR IntKind.i64 (k + (1 : Int)) ∧ l = l ∧ (sucD cd k.toNat)[(0 : Nat)]? = some (minI d.snd.snd.snd.snd.snd.fst (k + (1 : Int)), ()) ∧ br (true && !decide (minI d.snd.snd.snd.snd.snd.fst (k + (1 : Int)) = maxI d.snd.snd.snd.snd.snd.fst (k + (1 : Int)))) (l = l ∧ (sucD cd k.toNat)[(1 : Nat)]? = some (maxI d.snd.snd.snd.snd.snd.fst (k + (1 : Int)), ()) ∧ (2 : Nat) = lenL (sucD cd k.toNat) ∧ True) ((1 : Nat) = lenL (sucD cd k.toNat)) ∧ br (false && !decide (minI d.snd.snd.snd.snd.snd.fst (k + (1 : Int)) = maxI d.snd.snd.snd.snd.snd.fst (k + (1 : Int)))) False True) ∧ (InR IntKind.i64 (k + (1 : Int)) ∧ ((l = l ∧ (sucD cd k.toNat)[(0 : Nat)]? = some (minI d.snd.snd.snd.snd.snd.fst (k + (1 : Int)), ()) ∧ br (true && !decide (minI d.snd.snd.snd.snd.snd.fst (k + (1 : Int)) = maxI d.snd.snd.snd.snd.snd.fst (k + (1 : Int)))) (l = l ∧ (sucD cd k.toNat)[(1 : Nat)]? = some (maxI d.snd.snd.snd.snd.snd.fst (k + (1 : Int)), ()) ∧ (2 : Nat) = lenL (sucD cd k.toNat) ∧ True) ((1 : Nat) = lenL (sucD cd k.toNat)) ∧ br (false && !decide (minI d.snd.snd.snd.snd.snd.fst (k + (1 : Int)) = maxI d.snd.snd.snd.snd.snd.fst (k + (1 : Int)))) False True) ∧ l = l ∧ (sucD cd k.toNat)[(0 : Nat)]? = some (minI d.snd.snd.snd.snd.snd.fst (k + (1 : Int)), ()) ∧ br (true && !decide (minI d.snd.snd.snd.snd.snd.fst (k + (1 : Int)) = maxI d.snd.snd.snd.snd.snd.fst (k + (1 : Int)))) (l = l ∧ (sucD cd k.toNat)[(1 : Nat)]? = some (maxI d.snd.snd.snd.snd.snd.fst (k + (1 : Int)), ()) ∧ (2 : Nat) = lenL (sucD cd k.toNat) ∧ True) ((1 : Nat) = lenL (sucD cd k.toNat)) ∧ br (false && !decide (minI d.snd.snd.snd.snd.snd.fst (k + (1 : Int)) = maxI d.snd.snd.snd.snd.snd.fst (k + (1 : Int)))) False True) ∧ l = l ∧ (sucD cd k.toNat)[(0 : Nat)]? = some (minI d.snd.snd.snd.snd.snd.fst (k + (1 : Int)), ()) ∧ br (true && !decide (minI d.snd.snd.snd.snd.snd.fst (k + (1 : Int)) = maxI d.snd.snd.snd.snd.snd.fst (k + (1 : Int)))) (l = l ∧ (sucD cd k.toNat)[(1 : Nat)]? = some (maxI d.snd.snd.snd.snd.snd.fst (k + (1 : Int)), ()) ∧ (2 : Nat) = lenL (sucD cd k.toNat) ∧ True) ((1 : Nat) = lenL (sucD cd k.toNat)) ∧ br (false && !decide (minI d.snd.snd.snd.snd.snd.fst (k + (1 : Int)) = maxI d.snd.snd.snd.snd.snd.fst (k + (1 : Int)))) False True) ∧ InR IntKind.i64 (k + (1 : Int)) ∧ l = l ∧ (sucD cd k.toNat)[(0 : Nat)]? = some (minI d.snd.snd.snd.snd.snd.fst (k + (1 : Int)), ()) ∧ br (true && !decide (minI d.snd.snd.snd.snd.snd.fst (k + (1 : Int)) = maxI d.snd.snd.snd.snd.snd.fst (k + (1 : Int)))) (l = l ∧ (sucD cd k.toNat)[(1 : Nat)]? = some (maxI d.snd.snd.snd.snd.snd.fst (k + (1 : Int)), ()) ∧ (2 : Nat) = lenL (sucD cd k.toNat) ∧ True) ((1 : Nat) = lenL (sucD cd k.toNat)) ∧ br (false && !decide (minI d.snd.snd.snd.snd.snd.fst (k + (1 : Int)) = maxI d.snd.snd.snd.snd.snd.fst (k + (1 : Int)))) False True) ∧ InR IntKind.i64 (k + (1 : Int)) ∧ ((InR IntKind.i64 (k + (1 : Int)) ∧ (l = l ∧ (sucD cd k.toNat)[(0 : Nat)]? = some (minI d.snd.snd.snd.snd.snd.fst (k + (1 : Int)), ()) ∧ br (true && !decide (minI d.snd.snd.snd.snd.snd.fst (k + (1 : Int)) = maxI d.snd.snd.snd.snd.snd.fst (k + (1 : Int)))) (l = l ∧ (sucD cd k.toNat)[(1 : Nat)]? = some (maxI d.snd.snd.snd.snd.snd.fst (k + (1 : Int)), ()) ∧ (2 : Nat) = lenL (sucD cd k.toNat) ∧ True) ((1 : Nat) = lenL (sucD cd k.toNat)) ∧ br (false && !decide (minI d.snd.snd.snd.snd.snd.fst (k + (1 : Int)) = maxI d.snd.snd.snd.snd.snd.fst (k + (1 : Int)))) False True) ∧ (l = l ∧ (sucD cd k.toNat)[(0 : Nat)]? = some (minI d.snd.snd.snd.snd.snd.fst (k + (1 : Int)), ()) ∧ br (true && !decide (minI d.snd.snd.snd.snd.snd.fst (k + (1 : Int)) = maxI d.snd.snd.snd.snd.snd.fst (k + (1 : Int)))) (l = l ∧ (sucD cd k.toNat)[(1 : Nat)]? = some (maxI d.snd.snd.snd.snd.snd.fst (k + (1 : Int)), ()) ∧ (2 : Nat) = lenL (sucD cd k.toNat) ∧ True) ((1 : Nat) = lenL (sucD cd k.toNat)) ∧ br (false && !decide (minI d.snd.snd.snd.snd.snd.fst (k + (1 : Int)) = maxI d.snd.snd.snd.snd.snd.fst (k + (1 : Int)))) False True) ∧ l = l ∧ (sucD cd k.toNat)[(0 : Nat)]? = some (minI d.snd.snd.snd.snd.snd.fst (k + (1 : Int)), ()) ∧ br (true && !decide (minI d.snd.snd.snd.snd.snd.fst (k + (1 : Int)) = maxI d.snd.snd.snd.snd.snd.fst (k + (1 : Int)))) (l = l ∧ (sucD cd k.toNat)[(1 : Nat)]? = some (maxI d.snd.snd.snd.snd.snd.fst (k + (1 : Int)), ()) ∧ (2 : Nat) = lenL (sucD cd k.toNat) ∧ True) ((1 : Nat) = lenL (sucD cd k.toNat)) ∧ br (false && !decide (minI d.snd.snd.snd.snd.snd.fst (k + (1 : Int)) = maxI d.snd.snd.snd.snd.snd.fst (k + (1 : Int)))) False True) ∧ (InR IntKind.i64 (k + (1 : Int)) ∧ (l = l ∧ (sucD cd k.toNat)[(0 : Nat)]? = some (minI d.snd.snd.snd.snd.snd.fst (k + (1 : Int)), ()) ∧ br (true && !decide (minI d.snd.snd.snd.snd.snd.fst (k + (1 : Int)) = maxI d.snd.snd.snd.snd.snd.fst (k + (1 : Int)))) (l = l ∧ (sucD cd k.toNat)[(1 : Nat)]? = some (maxI d.snd.snd.snd.snd.snd.fst (k + (1 : Int)), ()) ∧ (2 : Nat) = lenL (sucD cd k.toNat) ∧ True) ((1 : Nat) = lenL (sucD cd k.toNat)) ∧ br (false && !decide (minI d.snd.snd.snd.snd.snd.fst (k + (1 : Int)) = maxI d.snd.snd.snd.snd.snd.fst (k + (1 : Int)))) False True) ∧ l = l ∧ (sucD cd k.toNat)[(0 : Nat)]? = some (minI d.snd.snd.snd.snd.snd.fst (k + (1 : Int)), ()) ∧ br (true && !decide (minI d.snd.snd.snd.snd.snd.fst (k + (1 : Int)) = maxI d.snd.snd.snd.snd.snd.fst (k + (1 : Int)))) (l = l ∧ (sucD cd k.toNat)[(1 : Nat)]? = some (maxI d.snd.snd.snd.snd.snd.fst (k + (1 : Int)), ()) ∧ (2 : Nat) = lenL (sucD cd k.toNat) ∧ True) ((1 : Nat) = lenL (sucD cd k.toNat)) ∧ br (false && !decide (minI d.snd.snd.snd.snd.snd.fst (k + (1 : Int)) = maxI d.snd.snd.snd.snd.snd.fst (k + (1 : Int)))) False True) ∧ InR IntKind.i64 (k + (1 : Int)) ∧ l = l ∧ (sucD cd k.toNat)[(0 : Nat)]? = some (minI d.snd.snd.snd.snd.snd.fst (k + (1 : Int)), ()) ∧ br (true && !decide (minI d.snd.snd.snd.snd.snd.fst (k + (1 : Int)) = maxI d.snd.snd.snd.snd.snd.fst (k + (1 : Int)))) (l = l ∧ (sucD cd k.toNat)[(1 : Nat)]? = some (maxI d.snd.snd.snd.snd.snd.fst (k + (1 : Int)), ()) ∧ (2 : Nat) = lenL (sucD cd k.toNat) ∧ True) ((1 : Nat) = lenL (sucD cd k.toNat)) ∧ br (false && !decide (minI d.snd.snd.snd.snd.snd.fst (k + (1 : Int)) = maxI d.snd.snd.snd.snd.snd.fst (k + (1 : Int)))) False True) ∧ (InR IntKind.i64 (k + (1 : Int)) ∧ ((l = l ∧ (sucD cd k.toNat)[(0 : Nat)]? = some (minI d.snd.snd.snd.snd.snd.fst (k + (1 : Int)), ()) ∧ br (true && !decide (minI d.snd.snd.snd.snd.snd.fst (k + (1 : Int)) = maxI d.snd.snd.snd.snd.snd.fst (k + (1 : Int)))) (l = l ∧ (sucD cd k.toNat)[(1 : Nat)]? = some (maxI d.snd.snd.snd.snd.snd.fst (k + (1 : Int)), ()) ∧ (2 : Nat) = lenL (sucD cd k.toNat) ∧ True) ((1 : Nat) = lenL (sucD cd k.toNat)) ∧ br (false && !decide (minI d.snd.snd.snd.snd.snd.fst (k + (1 : Int)) = maxI d.snd.snd.snd.snd.snd.fst (k + (1 : Int)))) False True) ∧ (l = l ∧ (sucD cd k.toNat)[(0 : Nat)]? = some (minI d.snd.snd.snd.snd.snd.fst (k + (1 : Int)), ()) ∧ br (true && !decide (minI d.snd.snd.snd.snd.snd.fst (k + (1 : Int)) = maxI d.snd.snd.snd.snd.snd.fst (k + (1 : Int)))) (l = l ∧ (sucD cd k.toNat)[(1 : Nat)]? = some (maxI d.snd.snd.snd.snd.snd.fst (k + (1 : Int)), ()) ∧ (2 : Nat) = lenL (sucD cd k.toNat) ∧ True) ((1 : Nat) = lenL (sucD cd k.toNat)) ∧ br (false && !decide (minI d.snd.snd.snd.snd.snd.fst (k + (1 : Int)) = maxI d.snd.snd.snd.snd.snd.fst (k + (1 : Int)))) False True) ∧ l = l ∧ (sucD cd k.toNat)[(0 : Nat)]? = some (minI d.snd.snd.snd.snd.snd.fst (k + (1 : Int)), ()) ∧ br (true && !decide (minI d.snd.snd.snd.snd.snd.fst (k + (1 : Int)) = maxI d.snd.snd.snd.snd.snd.fst (k + (1 : Int)))) (l = l ∧ (sucD cd k.toNat)[(1 : Nat)]? = some (maxI d.snd.snd.snd.snd.snd.fst (k + (1 : Int)), ()) ∧ (2 : Nat) = lenL (sucD cd k.toNat) ∧ True) ((1 : Nat) = lenL (sucD cd k.toNat)) ∧ br (false && !decide (minI d.snd.snd.snd.snd.snd.fst (k + (1 : Int)) = maxI d.snd.snd.snd.snd.snd.fst (k + (1 : Int)))) False True) ∧ ((l = l ∧ (sucD cd k.toNat)[(0 : Nat)]? = some (minI d.snd.snd.snd.snd.snd.fst (k + (1 : Int)), ()) ∧ br (true && !decide (minI d.snd.snd.snd.snd.snd.fst (k + (1 : Int)) = maxI d.snd.snd.snd.snd.snd.fst (k + (1 : Int)))) (l = l ∧ (sucD cd k.toNat)[(1 : Nat)]? = some (maxI d.snd.snd.snd.snd.snd.fst (k + (1 : Int)), ()) ∧ (2 : Nat) = lenL (sucD cd k.toNat) ∧ True) ((1 : Nat) = lenL (sucD cd k.toNat)) ∧ br (false && !decide (minI d.snd.snd.snd.snd.snd.fst (k + (1 : Int)) = maxI d.snd.snd.snd.snd.snd.fst (k + (1 : Int)))) False True) ∧ l = l ∧ (sucD cd k.toNat)[(0 : Nat)]? = some (minI d.snd.snd.snd.snd.snd.fst (k + (1 : Int)), ()) ∧ br (true && !decide (minI d.snd.snd.snd.snd.snd.fst (k + (1 : Int)) = maxI d.snd.snd.snd.snd.snd.fst (k + (1 : Int)))) (l = l ∧ (sucD cd k.toNat)[(1 : Nat)]? = some (maxI d.snd.snd.snd.snd.snd.fst (k + (1 : Int)), ()) ∧ (2 : Nat) = lenL (sucD cd k.toNat) ∧ True) ((1 : Nat) = lenL (sucD cd k.toNat)) ∧ br (false && !decide (minI d.snd.snd.snd.snd.snd.fst (k + (1 : Int)) = maxI d.snd.snd.snd.snd.snd.fst (k + (1 : Int)))) False True) ∧ l = l ∧ (sucD cd k.toNat)[(0 : Nat)]? = some (minI d.snd.snd.snd.snd.snd.fst (k + (1 : Int)), ()) ∧ br (true && !decide (minI d.snd.snd.snd.snd.snd.fst (k + (1 : Int)) = maxI d.snd.snd.snd.snd.snd.fst (k + (1 : Int)))) (l = l ∧ (sucD cd k.toNat)[(1 : Nat)]? = some (maxI d.snd.snd.snd.snd.snd.fst (k + (1 : Int)), ()) ∧ (2 : Nat) = lenL (sucD cd k.toNat) ∧ True) ((1 : Nat) = lenL (sucD cd k.toNat)) ∧ br (false && !decide (minI d.snd.snd.snd.snd.snd.fst (k + (1 : Int)) = maxI d.snd.snd.snd.snd.snd.fst (k + (1 : Int)))) False True) ∧ ((InR IntKind.i64 (k + (1 : Int)) ∧ (l = l ∧ (sucD cd k.toNat)[(0 : Nat)]? = some (minI d.snd.snd.snd.snd.snd.fst (k + (1 : Int)), ()) ∧ br (true && !decide (minI d.snd.snd.snd.snd.snd.fst (k + (1 : Int)) = maxI d.snd.snd.snd.snd.snd.fst (k + (1 : Int)))) (l = l ∧ (sucD cd k.toNat)[(1 : Nat)]? = some (maxI d.snd.snd.snd.snd.snd.fst (k + (1 : Int)), ()) ∧ (2 : Nat) = lenL (sucD cd k.toNat) ∧ True) ((1 : Nat) = lenL (sucD cd k.toNat)) ∧ br (false && !decide (minI d.snd.snd.snd.snd.snd.fst (k + (1 : Int)) = maxI d.snd.snd.snd.snd.snd.fst (k + (1 : Int)))) False True) ∧ l = l ∧ (sucD cd k.toNat)[(0 : Nat)]? = some (minI d.snd.snd.snd.snd.snd.fst (k + (1 : Int)), ()) ∧ br (true && !decide (minI d.snd.snd.snd.snd.snd.fst (k + (1 : Int)) = maxI d.snd.snd.snd.snd.snd.fst (k + (1 : Int)))) (l = l ∧ (sucD cd k.toNat)[(1 : Nat)]? = some (maxI d.snd.snd.snd.snd.snd.fst (k + (1 : Int)), ()) ∧ (2 : Nat) = lenL (sucD cd k.toNat) ∧ True) ((1 : Nat) = lenL (sucD cd k.toNat)) ∧ br (false && !decide (minI d.snd.snd.snd.snd.snd.fst (k + (1 : Int)) = maxI d.snd.snd.snd.snd.snd.fst (k + (1 : Int)))) False True) ∧ InR IntKind.i64 (k + (1 : Int)) ∧ l = l ∧ (sucD cd k.toNat)[(0 : Nat)]? = some (minI d.snd.snd.snd.snd.snd.fst (k + (1 : Int)), ()) ∧ br (true && !decide (minI d.snd.snd.snd.snd.snd.fst (k + (1 : Int)) = maxI d.snd.snd.snd.snd.snd.fst (k + (1 : Int)))) (l = l ∧ (sucD cd k.toNat)[(1 : Nat)]? = some (maxI d.snd.snd.snd.snd.snd.fst (k + (1 : Int)), ()) ∧ (2 : Nat) = lenL (sucD cd k.toNat) ∧ True) ((1 : Nat) = lenL (sucD cd k.toNat)) ∧ br (false && !decide (minI d.snd.snd.snd.snd.snd.fst (k + (1 : Int)) = maxI d.snd.snd.snd.snd.snd.fst (k + (1 : Int)))) False True) ∧ (InR IntKind.i64 (k + (1 : Int)) ∧ ((l = l ∧ (sucD cd k.toNat)[(0 : Nat)]? = some (minI d.snd.snd.snd.snd.snd.fst (k + (1 : Int)), ()) ∧ br (true && !decide (minI d.snd.snd.snd.snd.snd.fst (k + (1 : Int)) = maxI d.snd.snd.snd.snd.snd.fst (k + (1 : Int)))) (l = l ∧ (sucD cd k.toNat)[(1 : Nat)]? = some (maxI d.snd.snd.snd.snd.snd.fst (k + (1 : Int)), ()) ∧ (2 : Nat) = lenL (sucD cd k.toNat) ∧ True) ((1 : Nat) = lenL (sucD cd k.toNat)) ∧ br (false && !decide (minI d.snd.snd.snd.snd.snd.fst (k + (1 : Int)) = maxI d.snd.snd.snd.snd.snd.fst (k + (1 : Int)))) False True) ∧ l = l ∧ (sucD cd k.toNat)[(0 : Nat)]? = some (minI d.snd.snd.snd.snd.snd.fst (k + (1 : Int)), ()) ∧ br (true && !decide (minI d.snd.snd.snd.snd.snd.fst (k + (1 : Int)) = maxI d.snd.snd.snd.snd.snd.fst (k + (1 : Int)))) (l = l ∧ (sucD cd k.toNat)[(1 : Nat)]? = some (maxI d.snd.snd.snd.snd.snd.fst (k + (1 : Int)), ()) ∧ (2 : Nat) = lenL (sucD cd k.toNat) ∧ True) ((1 : Nat) = lenL (sucD cd k.toNat)) ∧ br (false && !decide (minI d.snd.snd.snd.snd.snd.fst (k + (1 : Int)) = maxI d.snd.snd.snd.snd.snd.fst (k + (1 : Int)))) False True) ∧ l = l ∧ (sucD cd k.toNat)[(0 : Nat)]? = some (minI d.snd.snd.snd.snd.snd.fst (k + (1 : Int)), ()) ∧ br (true && !decide (minI d.snd.snd.snd.snd.snd.fst (k + (1 : Int)) = maxI d.snd.snd.snd.snd.snd.fst (k + (1 : Int)))) (l = l ∧ (sucD cd k.toNat)[(1 : Nat)]? = some (maxI d.snd.snd.snd.snd.snd.fst (k + (1 : Int)), ()) ∧ (2 : Nat) = lenL (sucD cd k.toNat) ∧ True) ((1 : Nat) = lenL (sucD cd k.toNat)) ∧ br (false && !decide (minI d.snd.snd.snd.snd.snd.fst (k + (1 : Int)) = maxI d.snd.snd.snd.snd.snd.fst (k + (1 : Int)))) False True) ∧ InR IntKind.i64 (k + (1 : Int)) ∧ l = l ∧ (sucD cd k.toNat)[(0 : Nat)]? = some (minI d.snd.snd.snd.snd.snd.fst (k + (1 : Int)), ()) ∧ br (true && !decide (minI d.snd.snd.snd.snd.snd.fst (k + (1 : Int)) = maxI d.snd.snd.snd.snd.snd.fst (k + (1 : Int)))) (l = l ∧ (sucD cd k.toNat)[(1 : Nat)]? = some (maxI d.snd.snd.snd.snd.snd.fst (k + (1 : Int)), ()) ∧ (2 : Nat) = lenL (sucD cd k.toNat) ∧ True) ((1 : Nat) = lenL (sucD cd k.toNat)) ∧ br (false && !decide (minI d.snd.snd.snd.snd.snd.fst (k + (1 : Int)) = maxI d.snd.snd.snd.snd.snd.fst (k + (1 : Int)))) False True) (br (decide (d.fst = (7 : Int))) (l = l ∧ (sucD cd k.toNat)[(0 : Nat)]? = some ((↑cd.length : Int), ()) ∧ (1 : Nat) = lenL (sucD cd k.toNat) ∧ True) (InR IntKind.i64 (k + (1 : Int)) ∧ l = l ∧ (sucD cd k.toNat)[(0 : Nat)]? = some (k + (1 : Int), ()) ∧ (1 : Nat) = lenL (sucD cd k.toNat) ∧ True))) := by
  obtain ⟨h0, h1, h2⟩ : 0 ≤ k ∧ k < cd.length ∧ cd.length ≤ 64 := hpre
  refine ⟨⟨h0, h1⟩, fun d hd => ?_⟩
  have hd' : cd[k.toNat]? = some d := hd
  have hs : sucL cd k.toNat = sucI cd.length k.toNat d := cf_suc hd'
  have hk : ((k.toNat : Nat) : Int) = k := by omega
  have hR : InR .i64 (k + 1) := InR_i64.2 (by omega)
  refine br_iff.2 ⟨fun h => ?_, fun h => br_iff.2 ⟨fun h5 => ?_, fun h5 => br_iff.2 ⟨fun h7 => ?_, fun h7 => ?_⟩⟩⟩
  · simp only [decide_eq_true_eq] at h
    have e : sucD cd k.toNat = [(nI d, ())] := by unfold sucD; rw [hs]; unfold sucI; rw [if_pos h]; rfl
    rw [e]; exact ⟨rfl, rfl, rfl, trivial⟩
  · simp only [decide_eq_true_eq] at h5
    have A : sucD cd k.toNat = (if minI (nI d) (k + 1) = maxI (nI d) (k + 1) then [minI (nI d) (k + 1)] else [minI (nI d) (k + 1), maxI (nI d) (k + 1)]).map fun s => (s, ()) := by
      unfold sucD; rw [hs, suc_br h5, hk]
    have B0 : (sucD cd k.toNat)[0]? = some (minI (nI d) (k + 1), ()) := by rw [A]; split <;> rfl
    have B1 : br (true && !decide (minI (nI d) (k + 1) = maxI (nI d) (k + 1))) (l = l ∧ (sucD cd k.toNat)[1]? = some (maxI (nI d) (k + 1), ()) ∧ 2 = lenL (sucD cd k.toNat) ∧ True) (1 = lenL (sucD cd k.toNat)) := by
      refine br_iff.2 ⟨fun g => ?_, fun g => ?_⟩
      · have g : ¬ minI (nI d) (k + 1) = maxI (nI d) (k + 1) := by simpa using g
        rw [A, if_neg g]; exact ⟨rfl, rfl, rfl, trivial⟩
      · have g : minI (nI d) (k + 1) = maxI (nI d) (k + 1) := by simpa using g
        rw [A, if_pos g]; rfl
    have B2 : br (false && !decide (minI (nI d) (k + 1) = maxI (nI d) (k + 1))) False True := trivial
    repeat' (first | exact hR | exact B0 | exact B1 | exact B2 | exact rfl | refine And.intro ?_ ?_)
  · simp only [decide_eq_true_eq, decide_eq_false_iff_not] at h h5 h7
    have e : sucD cd k.toNat = [((cd.length : Int), ())] := by unfold sucD; rw [hs]; unfold sucI; rw [if_neg h, if_neg h5, if_pos h7]; rfl
    rw [e]; exact ⟨rfl, rfl, rfl, trivial⟩
  · simp only [decide_eq_true_eq, decide_eq_false_iff_not] at h h5 h7
    have e : sucD cd k.toNat = [(k + 1, ())] := by unfold sucD; rw [hs]; unfold sucI; rw [if_neg h, if_neg h5, if_neg h7, hk]; rfl
    rw [e]; exact ⟨hR, rfl, rfl, rfl, trivial⟩
set_option maxRecDepth 100000 in
theorem f62_gv : MkOK Tryd.prog cx0.gd 62 mk62 := by
  intro d h lb hd hg cap
  obtain ⟨⟨nm, cd, ⟨⟩⟩, k, ⟨⟩⟩ := d
  exact gives_of (E := envA Tryd.prog cx0 54 cl62 il62 hl62 ml62 [] [] fun _ => none) (envA_ok (by kernel_rfl) tis_ok trivial trivial trivial trivial) rfl Tryd.func62 (body := bodyOf Tryd.f62) (by kernel_rfl) (by kernel_rfl) rfl rfl rfl rfl ⟨ann62 nm cd k, fun l => cast (by kernel_rfl) (f62_vc nm cd k l hd)⟩ hg cap
@[reducible] noncomputable def ctSuc : CT := { ps := [shF, .int .i64], pre := fun d => 0 ≤ d.2.1 ∧ d.2.1 < d.1.2.1.length ∧ d.1.2.1.length ≤ 64, res := fun d => ([], .one (.c (.abs (.seq Tryd.prog [.int .i64] (sucD d.1.2.1 d.2.1.toNat))))) }
@[reducible] noncomputable def cl54 : List (Nat × CT) := []
@[reducible] noncomputable def ann54 (nm : ByteArray) (l : List ID) (k : Int) : Nat → Option (St → Ann) := fun _ => none
@[reducible] def il54 : List (Nat × IP) := []
@[reducible] def hl54 : List (Nat × Nat × CT) := []
@[reducible] noncomputable def ml54 : List (Nat × MK) := [(62, mk62)]
set_option maxRecDepth 100000 in
theorem f54_vc (nm : ByteArray) (l : List ID) (k : Int) (hpre : ctSuc.pre ((nm, l, ()), k, ())) :
    ((0 : I6.den) ≤ k ∧ k < (↑l.length : I6.den) ∧ l.length ≤ (64 : Nat)) ∧ ([] : List Go.Eng.Res) = [] ∧ Ent.one (SV.c (SC.abs (Abs.seq Tryd.prog [Sh.int IntKind.i64] (sucD l k.toNat)))) = Ent.one (SV.c (SC.abs (Abs.seq Tryd.prog [Sh.int IntKind.i64] (sucD l k.toNat)))) := by
  exact ⟨hpre, rfl, rfl⟩
set_option maxHeartbeats 2000000 in
set_option maxRecDepth 100000 in
theorem f54_met : Go.Eng.Met Tryd.prog cx0.gd 54 ctSuc :=
  (met_all (cx := cx0) (n := 6) (cl := cl54) (il := il54) (hl := hl54) (ml := ml54) (rc := []) (lits := []) (suf := []) (by kernel_rfl) tis_ok trivial trivial trivial ⟨f62_gv, trivial⟩ Tryd.func54 (by kernel_rfl) (by kernel_rfl) rfl (by kernel_rfl) (by kernel_rfl) (by simp) fun d hd => by
    obtain ⟨⟨nm, l, ⟨⟩⟩, k, ⟨⟩⟩ := d
    exact ex_of (ann54 nm l k) (f54_vc nm l k hd) (by kernel_rfl)).met
@[reducible] def sqApp : SQ := { ss := [.int .i64], ct := fun L => { ps := [.any], pre := fun d => d.1 = .slice none 0 0 ∧ L.length ≤ 1000, res := fun _ => ([.row 3 (.int .i64) (L.map (·.1))], .one (.c (.row 0))) } }

@[reducible] def cl61 : List (Nat × CT) := []
@[reducible] def ann61 (L : List (dens [.int .i64])) : Nat → Option (St → Ann) := fun k => match k with
  | 3 => some fun _ => .rng { α := Nat, nilC := [(0, 0, 3, .int .i64)], res := fun n => [(1, .row 3 (.int .i64) ((L.map (·.1)).take n))], inv := fun i n => n = i }
  | _ => none
@[reducible] def ql61 : List (Nat × SQ) := []
set_option maxRecDepth 100000 in
theorem f61_vc (L : List (dens [.int .i64])) (hpre : (sqApp.ct L).pre (.slice none 0 0, ())) :
    some Tryd.prog = some Tryd.prog ∧ (∃ x, x = (0 : Nat) ∧ [(([] : Go.Eng.Gd), Res.blk (34 : Nat) [SC.row (Nat.succ (0 : Nat))]), (([] : Go.Eng.Gd), Res.row (3 : TypeId) I6 [])] = [(([] : Go.Eng.Gd), Res.blk (34 : Nat) [SC.row (Nat.succ (0 : Nat))]), (([] : Go.Eng.Gd), Res.row (3 : TypeId) I6 (List.take x (List.map (fun x => x.fst) L)))]) ∧ (∀ (i x : Nat) (d : I6.den × dens []), x = i → L[i]? = some d → InA (List.length (List.take x (List.map (fun x => x.fst) L)) + List.length ([d.fst])) (8 : Nat) ∧ ∃ x', x' = i + (1 : Nat) ∧ [(([] : Go.Eng.Gd), Res.blk (34 : Nat) [SC.row (Nat.succ (0 : Nat))]), (([] : Go.Eng.Gd), Res.row (3 : TypeId) I6 (List.take x (List.map (fun x => x.fst) L) ++ [d.fst]))] = [(([] : Go.Eng.Gd), Res.blk (34 : Nat) [SC.row (Nat.succ (0 : Nat))]), (([] : Go.Eng.Gd), Res.row (3 : TypeId) I6 (List.take x' (List.map (fun x => x.fst) L)))]) ∧ ∀ (x : Nat), x = lenL L → [Res.row (3 : TypeId) I6 (List.map (fun x => x.fst) L)] = [Res.row (3 : TypeId) I6 (List.take x (List.map (fun x => x.fst) L))] ∧ Ent.one (SV.c (SC.row (0 : Nat))) = Ent.one (SV.c (SC.row (0 : Nat))) := by
  have hp : L.length ≤ 1000 := hpre.2
  refine ⟨rfl, ⟨0, rfl, rfl⟩, fun i x d hx hd => ?_, fun x hx => ?_⟩
  · subst hx
    have hlt := (List.getElem?_eq_some_iff.1 hd).1
    have e : (L.map fun x => x.1).take (x + 1) = (L.map fun x => x.1).take x ++ [d.1] := by
      rw [List.take_add_one, List.getElem?_map, hd]; rfl
    refine ⟨?_, x + 1, rfl, ?_⟩
    · unfold InA
      have h1 : ((L.map fun x => x.1).take x).length ≤ 1000 := by rw [List.length_take, List.length_map]; omega
      have h2 : ([d.1] : List Int).length = 1 := rfl
      exact Nat.le_trans (Nat.mul_le_mul_right 8 (Nat.add_le_add h1 (Nat.le_of_eq h2))) (by decide)
    · rw [e]
  · have e : (L.map fun x => x.1).take x = L.map fun x => x.1 := List.take_of_length_le (by rw [List.length_map, hx, lenL_eq]; exact Nat.le_refl _)
    rw [e]; exact ⟨rfl, rfl⟩
set_option maxHeartbeats 2000000 in
set_option maxRecDepth 100000 in
theorem f61_sq : MetS Tryd.prog cx0.gd 61 sqApp :=
  met_sq (cx := cx0) (n := 13) (cl := cl61) (ql := ql61) (rc := []) (by kernel_rfl) tis_ok trivial trivial Tryd.func61 (by kernel_rfl) (by kernel_rfl) (fun _ => rfl) (by kernel_rfl) (by kernel_rfl) fun L d hd => by
    obtain ⟨v, ⟨⟩⟩ := d
    have hv : v = .slice none 0 0 := hd.1
    subst hv
    exact ex_of (ann61 L) (f61_vc L hd) (by kernel_rfl)
@[reducible] def sqCol : SQ := { ss := [.int .i64], ct := fun L => { ps := [], pre := fun _ => L.length ≤ 1000, res := fun _ => ([.row 3 (.int .i64) (L.map (·.1))], .one (.c (.row 0))) } }

@[reducible] def cl53 : List (Nat × CT) := []
@[reducible] def ann53 (L : List (dens [.int .i64])) : Nat → Option (St → Ann) := fun _ => none
@[reducible] def ql53 : List (Nat × SQ) := [(61, sqApp)]
set_option maxRecDepth 100000 in
theorem f53_vc (L : List (dens [.int .i64])) (hpre : (sqCol.ct L).pre ()) :
    some Tryd.prog = some Tryd.prog ∧ (Value.slice none (0 : Nat) (0 : Nat) = Value.slice none (0 : Nat) (0 : Nat) ∧ (L).length ≤ (1000 : Nat)) ∧ [Res.row (3 : TypeId) I6 (List.map (fun x => x.fst) L)] = [Res.row (3 : TypeId) I6 (List.map (fun x => x.fst) (L))] ∧ Ent.one (SV.c (SC.row (0 : Nat))) = Ent.one (SV.c (SC.row (0 : Nat))) := by
  exact ⟨rfl, ⟨rfl, hpre⟩, rfl, rfl⟩
set_option maxHeartbeats 2000000 in
set_option maxRecDepth 100000 in
theorem f53_sq : MetS Tryd.prog cx0.gd 53 sqCol :=
  met_sq (cx := cx0) (n := 5) (cl := cl53) (ql := ql53) (rc := []) (by kernel_rfl) tis_ok trivial ⟨f61_sq, trivial⟩ Tryd.func53 (by kernel_rfl) (by kernel_rfl) (fun _ => rfl) (by kernel_rfl) (by kernel_rfl) fun L d hd => by
    obtain ⟨⟩ := d
    exact ex_of (ann53 L) (f53_vc L hd) (by kernel_rfl)
end Go.Proofs.YtpfdgbddpdngbaaDoor
set_option linter.unusedSimpArgs false
set_option linter.unusedVariables false
namespace Go.Proofs.YtpfdgbddpdngbaaDoor
open Go Go.Eng
def srtM (n : Nat) (m : List (Int × Bool)) : List Int := (rngI n).filter fun i => mgetD m i false
def ldrS (k : Nat) (i : ID) (m : List (Int × Bool)) : List (Int × Bool) :=
  if i.1 = 4 ∨ i.1 = 5 then mput (mput m (nI i) true) ((k : Int) + 1) true else if i.1 = 7 then mput m ((k : Int) + 1) true else m
def ldrM (l : List ID) : Nat → List (Int × Bool)
  | 0 => [(0, true)]
  | k + 1 => match l[k]? with
    | some i => ldrS k i (ldrM l k)
    | none => ldrM l k
theorem ldrM_succ {l : List ID} {k : Nat} {i : ID} (h : l[k]? = some i) : ldrM l (k + 1) = ldrS k i (ldrM l k) := by
  simp only [ldrM, h]
theorem flt_rng (n : Nat) (p : Int → Bool) {k : Nat} : (rngI (k + 1)).filter p = (rngI k).filter p ++ (if p k = true then [(k : Int)] else []) := by
  unfold rngI
  rw [List.range_succ, List.map_append, List.filter_append]
  congr 1
  simp only [List.map_cons, List.map_nil, List.filter_cons, List.filter_nil]
theorem flt_len (n : Nat) (p : Int → Bool) : ((rngI n).filter p).length ≤ n := by
  have := List.length_filter_le p (rngI n)
  rwa [rngI_len] at this

@[reducible] def mpOf (s : St) (i : Nat) : List (Int × Bool) := match nthL s.T i with
  | some ([], .mp .i64 .bool m) => m
  | _ => []
@[reducible] def itOf (s : St) (i : Nat) : List (Int × Bool) := match nthL s.T i with
  | some ([], .it .i64 .bool m _) => m
  | _ => []
def addM (m dn : List (Int × Bool)) : List (Int × Bool) := dn.foldl (fun m x => mput m x.1 true) m
def outM (m dn : List (Int × Bool)) : Prop := (dn.map (·.1)).Nodup ∧ ∀ x ∈ dn, x ∈ m
theorem addM_snoc (m dn : List (Int × Bool)) (x : Int × Bool) : addM m (dn ++ [x]) = mput (addM m dn) x.1 true := by
  unfold addM; rw [List.foldl_append]; rfl
theorem make_congr {a b : List Int} (h : ∀ x, x ∈ a ↔ x ∈ b) : makeI a = makeI b :=
  ss_ext (make_ss a) (make_ss b) fun x => by rw [make_mem, make_mem]; exact h x
theorem make_id {a : List Int} (h : SS a) : makeI a = a := ss_ext (make_ss a) h fun x => make_mem
theorem addM_mpS : ∀ (dn : List (Int × Bool)) {s : List Int}, SS s → addM (mpS s) dn = mpS (makeI (s ++ keysM dn))
  | [], s, h => by simp only [addM, List.foldl_nil, keysM, List.map_nil, List.append_nil, make_id h]
  | x :: dn, s, h => by
    show addM (mput (mpS s) x.1 true) dn = _
    rw [mput_mpS h, addM_mpS dn (make_ss _)]
    congr 1
    refine make_congr fun y => ?_
    simp only [List.mem_append, make_mem, keysM, List.map_cons, List.mem_cons, List.not_mem_nil, or_false]
    exact or_assoc
theorem outM_nil (m : List (Int × Bool)) : outM m [] := ⟨List.nodup_nil, fun x hx => by cases hx⟩
theorem outM_snoc {m dn : List (Int × Bool)} {n : Int} {v : Bool} (h : outM m dn) (hm : (n, v) ∈ m) (hn : ∀ y ∈ dn, y.1 ≠ n) : outM m (dn ++ [(n, v)]) := by
  refine ⟨?_, fun x hx => ?_⟩
  · rw [List.map_append, List.nodup_append]
    refine ⟨h.1, by simp, ?_⟩
    intro a ha b hb
    simp at hb; subst hb
    obtain ⟨x, hx, rfl⟩ := List.mem_map.1 ha
    exact hn x hx
  · rcases List.mem_append.1 hx with hx | hx
    · exact h.2 x hx
    · simp at hx; subst hx; exact hm
theorem nd_len {α : Type} [DecidableEq α] : ∀ {a b : List α}, a.Nodup → (∀ x ∈ a, x ∈ b) → a.length ≤ b.length
  | [], _, _, _ => Nat.zero_le _
  | x :: a, b, h, hs => by
    obtain ⟨h1, h2⟩ := List.nodup_cons.1 h
    have hx := hs x (by simp)
    have := nd_len (a := a) (b := b.erase x) h2 fun y hy => (List.mem_erase_of_ne (fun e => h1 (by rw [← e]; exact hy))).2 (hs y (by simp [hy]))
    rw [List.length_erase_of_mem hx] at this
    have hb := List.length_pos_of_mem hx
    simp only [List.length_cons]; omega
theorem outM_lt {m dn : List (Int × Bool)} {n : Int} {v : Bool} (h : outM m dn) (hm : (n, v) ∈ m) (hn : ∀ y ∈ dn, y.1 ≠ n) : dn.length < m.length := by
  have h2 := outM_snoc h hm hn
  have nd : (dn ++ [(n, v)]).Nodup := keys_nodup h2.1
  have := nd_len nd h2.2
  simp at this; omega
/-- What lives after an instruction, of the first successors. -/
def aftP (l : List ID) (bf : List (List (Int × Bool))) (at' : Nat) (k : Nat) : List Int := makeI (((sucL l at').take k).flatMap (rowL (bf.map keysM)))
theorem aftP_zero (l : List ID) (bf : List (List (Int × Bool))) (a : Nat) : aftP l bf a 0 = [] := by simp [aftP, makeI]
theorem aftP_all {l : List ID} {bf : List (List (Int × Bool))} {a k : Nat} (h : (sucL l a).length ≤ k) : aftP l bf a k = aftL (cfL l) (bf.map keysM) a := by
  unfold aftP aftL; rw [List.take_of_length_le h]; rfl
theorem aftP_ss (l : List ID) (bf : List (List (Int × Bool))) (a k : Nat) : SS (aftP l bf a k) := make_ss _
theorem aftP_succ {l : List ID} {bf : List (List (Int × Bool))} {a k : Nat} {s : Int} (h : (sucL l a)[k]? = some s) : aftP l bf a (k + 1) = makeI (aftP l bf a k ++ rowL (bf.map keysM) s) := by
  unfold aftP
  rw [List.take_add_one, h]
  refine make_congr fun x => ?_
  rw [List.flatMap_append, List.mem_append, List.mem_append, make_mem]
  simp
theorem rowL_keys {bf : List (List (Int × Bool))} {s : Int} {m : List (Int × Bool)} (h : bf[s.toNat]? = some m) : rowL (bf.map keysM) s = keysM m := by
  unfold rowL
  rw [List.getD_eq_getElem?_getD, List.getElem?_map, h]; rfl
theorem rowL_out {bf : List (List (Int × Bool))} {s : Int} (h : bf.length ≤ s.toNat) : rowL (bf.map keysM) s = [] := by
  unfold rowL
  rw [List.getD_eq_getElem?_getD, List.getElem?_eq_none (by simpa using h)]; rfl
end Go.Proofs.YtpfdgbddpdngbaaDoor
