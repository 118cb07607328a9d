/- Part 6 of the proof. Conditions: the rows'. -/
import Derived.Test.YtaagmchgokmdgaaDoorB5
import Derived.Test.YtaagmchgokmdgaaDoorProg
import Derived.Shelf.Small.Bits
import Derived.Shelf.Small.Wraps
import Derived.Shelf.Strconv.Itoa0
import Derived.Shelf.Sort.Plain
import Derived.Shelf.Slices.Turned
import Derived.Shelf.Slices.Equal
import Derived.Ground.Names2Prog
import Derived.Shelf.Slices.Clone
import Derived.Shelf.Slices.CompactI
import Derived.Shelf.Slices.SearchI
import Derived.Shelf.Slices.Cells
import Derived.Shelf.Slices.In.SortNone
import Derived.Shelf.Slices.Empties2
import Derived.Ground.SlgnProg
import Derived.Shelf.SlicesE.Clone
set_option linter.unusedSimpArgs false
set_option linter.unusedVariables false
set_option maxRecDepth 1000000
set_option maxHeartbeats 8000000
namespace Go.Proofs.YtaagmchgokmdgaaDoor
open Go Go.lZ
abbrev dA:=Go.lZ.Met Tryd.prog
variable {l:List Int}
abbrev ti3:TI:={ desc:=.int .i64,size:=1,bytes:=8,zero:=[.int .i64 0],jF:=some (.int .i64) }
theorem YE:aS Tryd.prog 3 ti3:=aS.of_eq (by kernel_rfl) (by kernel_rfl) rfl rfl (aZ (i:=ti3) (s0:=(.int .i64)) rfl rfl rfl rfl)
abbrev ti4:TI:={ desc:=.bool,size:=1,bytes:=1,zero:=[.bool false],jF:=some .bool }
theorem YF:aS Tryd.prog 4 ti4:=aS.of_eq (by kernel_rfl) (by kernel_rfl) rfl rfl (aZ (i:=ti4) (s0:=.bool) rfl rfl rfl rfl)
abbrev ti5:TI:={ desc:=.int .u8,size:=1,bytes:=1,zero:=[.int .u8 0],jF:=some (.int .u8) }
theorem YG:aS Tryd.prog 5 ti5:=aS.of_eq (by kernel_rfl) (by kernel_rfl) rfl rfl (aZ (i:=ti5) (s0:=(.int .u8)) rfl rfl rfl rfl)
abbrev ti9:TI:={ desc:=.string,size:=1,bytes:=16,zero:=[.string ⟨#[]⟩],jF:=some .str }
theorem YH:aS Tryd.prog 9 ti9:=aS.of_eq (by kernel_rfl) (by kernel_rfl) rfl rfl (aZ (i:=ti9) (s0:=.str) rfl rfl rfl rfl)
abbrev YJ:TI:={ desc:=.int .i32,size:=1,bytes:=4,zero:=[.int .i32 0],jF:=some (.int .i32) }
theorem Uo:aS Tryd.prog 21 YJ:=aS.of_eq (by kernel_rfl) (by kernel_rfl) rfl rfl (aZ (i:=YJ) (s0:=(.int .i32)) rfl rfl rfl rfl)
abbrev YK:TI:={ desc:=.slice 42,size:=1,bytes:=24,zero:=[.slice none 0 0],jF:=some (.sl (.pair .str (.pair (.int .i64) .unit))) }
theorem Ur:aS Tryd.prog 22 YK:=aS.of_eq (by kernel_rfl) (by kernel_rfl) rfl rfl (aZ (i:=YK) (s0:=(.sl (.pair .str (.pair (.int .i64) .unit)))) rfl rfl rfl rfl)
abbrev YL:TI:={ desc:=.slice 9,size:=1,bytes:=24,zero:=[.slice none 0 0],jF:=some (.sl .str) }
theorem Us:aS Tryd.prog 23 YL:=aS.of_eq (by kernel_rfl) (by kernel_rfl) rfl rfl (aZ (i:=YL) (s0:=(.sl .str)) rfl rfl rfl rfl)
abbrev YM:TI:={ desc:=.slice 35,size:=1,bytes:=24,zero:=[.slice none 0 0],jF:=some (.sl (.pair .str (.pair (.sl (.pair (.int .i64) (.pair (.int .i64) (.pair (.int .i64) (.pair (.int .i64) (.pair (.int .i64) (.pair (.int .i64) (.pair (.int .i64) (.pair (.int .i64) .unit))))))))) .unit))) }
theorem Ut:aS Tryd.prog 24 YM:=aS.of_eq (by kernel_rfl) (by kernel_rfl) rfl rfl (aZ (i:=YM) (s0:=(.sl (.pair .str (.pair (.sl (.pair (.int .i64) (.pair (.int .i64) (.pair (.int .i64) (.pair (.int .i64) (.pair (.int .i64) (.pair (.int .i64) (.pair (.int .i64) (.pair (.int .i64) .unit))))))))) .unit)))) rfl rfl rfl rfl)
abbrev YN:TI:={ desc:=.slice 44,size:=1,bytes:=24,zero:=[.slice none 0 0],jF:=some (.sl (.pair (.int .i64) (.pair (.int .i64) .unit))) }
theorem Uu:aS Tryd.prog 25 YN:=aS.of_eq (by kernel_rfl) (by kernel_rfl) rfl rfl (aZ (i:=YN) (s0:=(.sl (.pair (.int .i64) (.pair (.int .i64) .unit)))) rfl rfl rfl rfl)
abbrev YO:TI:={ desc:=.struct #[jX 22 0,jX 23 1,jX 23 2,jX 24 3,jX 25 4],size:=5,bytes:=120,zero:=[.slice none 0 0,.slice none 0 0,.slice none 0 0,.slice none 0 0,.slice none 0 0],jF:=some (.pair (.sl (.pair .str (.pair (.int .i64) .unit))) (.pair (.sl .str) (.pair (.sl .str) (.pair (.sl (.pair .str (.pair (.sl (.pair (.int .i64) (.pair (.int .i64) (.pair (.int .i64) (.pair (.int .i64) (.pair (.int .i64) (.pair (.int .i64) (.pair (.int .i64) (.pair (.int .i64) .unit))))))))) .unit))) (.pair (.sl (.pair (.int .i64) (.pair (.int .i64) .unit))) .unit))))) }
theorem Uw:aS Tryd.prog 26 YO:=aS.of_eq (by kernel_rfl) (by kernel_rfl) rfl rfl (aZ (i:=YO) (s0:=(.pair (.sl (.pair .str (.pair (.int .i64) .unit))) (.pair (.sl .str) (.pair (.sl .str) (.pair (.sl (.pair .str (.pair (.sl (.pair (.int .i64) (.pair (.int .i64) (.pair (.int .i64) (.pair (.int .i64) (.pair (.int .i64) (.pair (.int .i64) (.pair (.int .i64) (.pair (.int .i64) .unit))))))))) .unit))) (.pair (.sl (.pair (.int .i64) (.pair (.int .i64) .unit))) .unit)))))) rfl rfl rfl rfl)
abbrev YP:TI:={ desc:=.struct #[jX 22 0,jX 23 1,jX 23 2,jX 24 3,jX 25 4],size:=5,bytes:=120,zero:=[.slice none 0 0,.slice none 0 0,.slice none 0 0,.slice none 0 0,.slice none 0 0],jF:=some (.pair (.sl (.pair .str (.pair (.int .i64) .unit))) (.pair (.sl .str) (.pair (.sl .str) (.pair (.sl (.pair .str (.pair (.sl (.pair (.int .i64) (.pair (.int .i64) (.pair (.int .i64) (.pair (.int .i64) (.pair (.int .i64) (.pair (.int .i64) (.pair (.int .i64) (.pair (.int .i64) .unit))))))))) .unit))) (.pair (.sl (.pair (.int .i64) (.pair (.int .i64) .unit))) .unit))))) }
theorem Ux:aS Tryd.prog 27 YP:=aS.of_eq (by kernel_rfl) (by kernel_rfl) rfl rfl (aZ (i:=YP) (s0:=(.pair (.sl (.pair .str (.pair (.int .i64) .unit))) (.pair (.sl .str) (.pair (.sl .str) (.pair (.sl (.pair .str (.pair (.sl (.pair (.int .i64) (.pair (.int .i64) (.pair (.int .i64) (.pair (.int .i64) (.pair (.int .i64) (.pair (.int .i64) (.pair (.int .i64) (.pair (.int .i64) .unit))))))))) .unit))) (.pair (.sl (.pair (.int .i64) (.pair (.int .i64) .unit))) .unit)))))) rfl rfl rfl rfl)
abbrev YQ:TI:={ desc:=.slice 40,size:=1,bytes:=24,zero:=[.slice none 0 0],jF:=some (.sl (.pair (.int .i64) (.pair (.int .i64) (.pair (.int .i64) (.pair (.int .i64) (.pair (.int .i64) (.pair (.int .i64) (.pair (.int .i64) (.pair (.int .i64) .unit))))))))) }
theorem Uy:aS Tryd.prog 33 YQ:=aS.of_eq (by kernel_rfl) (by kernel_rfl) rfl rfl (aZ (i:=YQ) (s0:=(.sl (.pair (.int .i64) (.pair (.int .i64) (.pair (.int .i64) (.pair (.int .i64) (.pair (.int .i64) (.pair (.int .i64) (.pair (.int .i64) (.pair (.int .i64) .unit)))))))))) rfl rfl rfl rfl)
abbrev YR:TI:={ desc:=.struct #[jX 9 0,jX 33 1],size:=2,bytes:=40,zero:=[.string ⟨#[]⟩,.slice none 0 0],jF:=some (.pair .str (.pair (.sl (.pair (.int .i64) (.pair (.int .i64) (.pair (.int .i64) (.pair (.int .i64) (.pair (.int .i64) (.pair (.int .i64) (.pair (.int .i64) (.pair (.int .i64) .unit))))))))) .unit)) }
theorem Uz:aS Tryd.prog 34 YR:=aS.of_eq (by kernel_rfl) (by kernel_rfl) rfl rfl (aZ (i:=YR) (s0:=(.pair .str (.pair (.sl (.pair (.int .i64) (.pair (.int .i64) (.pair (.int .i64) (.pair (.int .i64) (.pair (.int .i64) (.pair (.int .i64) (.pair (.int .i64) (.pair (.int .i64) .unit))))))))) .unit))) rfl rfl rfl rfl)
abbrev YT:TI:={ desc:=.struct #[jX 9 0,jX 33 1],size:=2,bytes:=40,zero:=[.string ⟨#[]⟩,.slice none 0 0],jF:=some (.pair .str (.pair (.sl (.pair (.int .i64) (.pair (.int .i64) (.pair (.int .i64) (.pair (.int .i64) (.pair (.int .i64) (.pair (.int .i64) (.pair (.int .i64) (.pair (.int .i64) .unit))))))))) .unit)) }
theorem UA:aS Tryd.prog 35 YT:=aS.of_eq (by kernel_rfl) (by kernel_rfl) rfl rfl (aZ (i:=YT) (s0:=(.pair .str (.pair (.sl (.pair (.int .i64) (.pair (.int .i64) (.pair (.int .i64) (.pair (.int .i64) (.pair (.int .i64) (.pair (.int .i64) (.pair (.int .i64) (.pair (.int .i64) .unit))))))))) .unit))) rfl rfl rfl rfl)
abbrev YU:TI:={ desc:=.int .i64,size:=1,bytes:=8,zero:=[.int .i64 0],jF:=some (.int .i64) }
theorem UC:aS Tryd.prog 36 YU:=aS.of_eq (by kernel_rfl) (by kernel_rfl) rfl rfl (aZ (i:=YU) (s0:=(.int .i64)) rfl rfl rfl rfl)
abbrev YV:TI:={ desc:=.int .i64,size:=1,bytes:=8,zero:=[.int .i64 0],jF:=some (.int .i64) }
theorem UD:aS Tryd.prog 37 YV:=aS.of_eq (by kernel_rfl) (by kernel_rfl) rfl rfl (aZ (i:=YV) (s0:=(.int .i64)) rfl rfl rfl rfl)
abbrev YW:TI:={ desc:=.int .i64,size:=1,bytes:=8,zero:=[.int .i64 0],jF:=some (.int .i64) }
theorem UE:aS Tryd.prog 38 YW:=aS.of_eq (by kernel_rfl) (by kernel_rfl) rfl rfl (aZ (i:=YW) (s0:=(.int .i64)) rfl rfl rfl rfl)
abbrev YX:TI:={ desc:=.struct #[jX 36 0,jX 3 1,jX 3 2,jX 3 3,jX 3 4,jX 3 5,jX 37 6,jX 38 7],size:=8,bytes:=64,zero:=[.int .i64 0,.int .i64 0,.int .i64 0,.int .i64 0,.int .i64 0,.int .i64 0,.int .i64 0,.int .i64 0],jF:=some (.pair (.int .i64) (.pair (.int .i64) (.pair (.int .i64) (.pair (.int .i64) (.pair (.int .i64) (.pair (.int .i64) (.pair (.int .i64) (.pair (.int .i64) .unit)))))))),AB:=[.i,.i,.i,.i,.i,.i,.i,.i] }
theorem UF:aS Tryd.prog 39 YX:=aS.of_eq (by kernel_rfl) (by kernel_rfl) rfl rfl (aZ (i:=YX) (s0:=(.pair (.int .i64) (.pair (.int .i64) (.pair (.int .i64) (.pair (.int .i64) (.pair (.int .i64) (.pair (.int .i64) (.pair (.int .i64) (.pair (.int .i64) .unit))))))))) rfl rfl rfl rfl) (λ_=>by kernel_rfl)
abbrev YZ:TI:={ desc:=.struct #[jX 36 0,jX 3 1,jX 3 2,jX 3 3,jX 3 4,jX 3 5,jX 37 6,jX 38 7],size:=8,bytes:=64,zero:=[.int .i64 0,.int .i64 0,.int .i64 0,.int .i64 0,.int .i64 0,.int .i64 0,.int .i64 0,.int .i64 0],jF:=some (.pair (.int .i64) (.pair (.int .i64) (.pair (.int .i64) (.pair (.int .i64) (.pair (.int .i64) (.pair (.int .i64) (.pair (.int .i64) (.pair (.int .i64) .unit)))))))),AB:=[.i,.i,.i,.i,.i,.i,.i,.i] }
theorem UG:aS Tryd.prog 40 YZ:=aS.of_eq (by kernel_rfl) (by kernel_rfl) rfl rfl (aZ (i:=YZ) (s0:=(.pair (.int .i64) (.pair (.int .i64) (.pair (.int .i64) (.pair (.int .i64) (.pair (.int .i64) (.pair (.int .i64) (.pair (.int .i64) (.pair (.int .i64) .unit))))))))) rfl rfl rfl rfl) (λ_=>by kernel_rfl)
abbrev Y0:TI:={ desc:=.struct #[jX 9 0,jX 3 1],size:=2,bytes:=24,zero:=[.string ⟨#[]⟩,.int .i64 0],jF:=some (.pair .str (.pair (.int .i64) .unit)),AB:=[.s,.i] }
theorem UH:aS Tryd.prog 41 Y0:=aS.of_eq (by kernel_rfl) (by kernel_rfl) rfl rfl (aZ (i:=Y0) (s0:=(.pair .str (.pair (.int .i64) .unit))) rfl rfl rfl rfl) (λ_=>by kernel_rfl)
abbrev Y1:TI:={ desc:=.struct #[jX 9 0,jX 3 1],size:=2,bytes:=24,zero:=[.string ⟨#[]⟩,.int .i64 0],jF:=some (.pair .str (.pair (.int .i64) .unit)),AB:=[.s,.i] }
theorem UJ:aS Tryd.prog 42 Y1:=aS.of_eq (by kernel_rfl) (by kernel_rfl) rfl rfl (aZ (i:=Y1) (s0:=(.pair .str (.pair (.int .i64) .unit))) rfl rfl rfl rfl) (λ_=>by kernel_rfl)
abbrev Y2:TI:={ desc:=.struct #[jX 3 0,jX 3 1],size:=2,bytes:=16,zero:=[.int .i64 0,.int .i64 0],jF:=some (.pair (.int .i64) (.pair (.int .i64) .unit)),AB:=[.i,.i] }
theorem UK:aS Tryd.prog 43 Y2:=aS.of_eq (by kernel_rfl) (by kernel_rfl) rfl rfl (aZ (i:=Y2) (s0:=(.pair (.int .i64) (.pair (.int .i64) .unit))) rfl rfl rfl rfl) (λ_=>by kernel_rfl)
abbrev Y3:TI:={ desc:=.struct #[jX 3 0,jX 3 1],size:=2,bytes:=16,zero:=[.int .i64 0,.int .i64 0],jF:=some (.pair (.int .i64) (.pair (.int .i64) .unit)),AB:=[.i,.i] }
theorem UL:aS Tryd.prog 44 Y3:=aS.of_eq (by kernel_rfl) (by kernel_rfl) rfl rfl (aZ (i:=Y3) (s0:=(.pair (.int .i64) (.pair (.int .i64) .unit))) rfl rfl rfl rfl) (λ_=>by kernel_rfl)
abbrev Y4:TI:={ desc:=.slice 3,size:=1,bytes:=24,zero:=[.slice none 0 0],jF:=some (.sl (.int .i64)) }
theorem UM:aS Tryd.prog 45 Y4:=aS.of_eq (by kernel_rfl) (by kernel_rfl) rfl rfl (aZ (i:=Y4) (s0:=(.sl (.int .i64))) rfl rfl rfl rfl)
abbrev Y5:TI:={ desc:=.int .i64,size:=1,bytes:=8,zero:=[.int .i64 0],jF:=some (.int .i64) }
theorem UN:aS Tryd.prog 46 Y5:=aS.of_eq (by kernel_rfl) (by kernel_rfl) rfl rfl (aZ (i:=Y5) (s0:=(.int .i64)) rfl rfl rfl rfl)
abbrev Y6:TI:={ desc:=.int .i64,size:=1,bytes:=8,zero:=[.int .i64 0],jF:=some (.int .i64) }
theorem UO:aS Tryd.prog 54 Y6:=aS.of_eq (by kernel_rfl) (by kernel_rfl) rfl rfl (aZ (i:=Y6) (s0:=(.int .i64)) rfl rfl rfl rfl)
abbrev Y7:TI:={ desc:=.struct #[jX 54 0,jX 3 1],size:=2,bytes:=16,zero:=[.int .i64 0,.int .i64 0],jF:=some (.pair (.int .i64) (.pair (.int .i64) .unit)),AB:=[.i,.i] }
theorem UQ:aS Tryd.prog 55 Y7:=aS.of_eq (by kernel_rfl) (by kernel_rfl) rfl rfl (aZ (i:=Y7) (s0:=(.pair (.int .i64) (.pair (.int .i64) .unit))) rfl rfl rfl rfl) (λ_=>by kernel_rfl)
abbrev Y8:TI:={ desc:=.struct #[jX 54 0,jX 3 1],size:=2,bytes:=16,zero:=[.int .i64 0,.int .i64 0],jF:=some (.pair (.int .i64) (.pair (.int .i64) .unit)),AB:=[.i,.i] }
theorem UR:aS Tryd.prog 56 Y8:=aS.of_eq (by kernel_rfl) (by kernel_rfl) rfl rfl (aZ (i:=Y8) (s0:=(.pair (.int .i64) (.pair (.int .i64) .unit))) rfl rfl rfl rfl) (λ_=>by kernel_rfl)
abbrev Y9:TI:={ desc:=.struct #[jX 3 0,jX 3 1],size:=2,bytes:=16,zero:=[.int .i64 0,.int .i64 0],jF:=some (.pair (.int .i64) (.pair (.int .i64) .unit)),AB:=[.i,.i] }
theorem UU:aS Tryd.prog 72 Y9:=aS.of_eq (by kernel_rfl) (by kernel_rfl) rfl rfl (aZ (i:=Y9) (s0:=(.pair (.int .i64) (.pair (.int .i64) .unit))) rfl rfl rfl rfl) (λ_=>by kernel_rfl)
abbrev Za:TI:={ desc:=.struct #[jX 3 0,jX 3 1],size:=2,bytes:=16,zero:=[.int .i64 0,.int .i64 0],jF:=some (.pair (.int .i64) (.pair (.int .i64) .unit)),AB:=[.i,.i] }
theorem UW:aS Tryd.prog 73 Za:=aS.of_eq (by kernel_rfl) (by kernel_rfl) rfl rfl (aZ (i:=Za) (s0:=(.pair (.int .i64) (.pair (.int .i64) .unit))) rfl rfl rfl rfl) (λ_=>by kernel_rfl)
abbrev Zb:TI:={ desc:=.slice 23,size:=1,bytes:=24,zero:=[.slice none 0 0],jF:=some (.sl (.sl .str)) }
theorem UY:aS Tryd.prog 82 Zb:=aS.of_eq (by kernel_rfl) (by kernel_rfl) rfl rfl (aZ (i:=Zb) (s0:=(.sl (.sl .str))) rfl rfl rfl rfl)
abbrev Zc:TI:={ desc:=.int .u64,size:=1,bytes:=8,zero:=[.int .u64 0],jF:=some (.int .u64) }
theorem UZ:aS Tryd.prog 96 Zc:=aS.of_eq (by kernel_rfl) (by kernel_rfl) rfl rfl (aZ (i:=Zc) (s0:=(.int .u64)) rfl rfl rfl rfl)
abbrev Zd:TI:={ desc:=.array 7 4,size:=7,bytes:=7,zero:=[.bool false,.bool false,.bool false,.bool false,.bool false,.bool false,.bool false],jF:=some (.arr 7 .bool) }
theorem U0:aS Tryd.prog 99 Zd:=aS.of_eq (by kernel_rfl) (by kernel_rfl) rfl rfl (aZ (i:=Zd) (s0:=(.arr 7 .bool)) rfl rfl rfl rfl)
abbrev Qc:TI:={ desc:=.struct #[jX 9 0,jX 99 1],size:=8,bytes:=24,zero:=[.string ⟨#[]⟩,.bool false,.bool false,.bool false,.bool false,.bool false,.bool false,.bool false],jF:=some (.pair .str (.pair (.arr 7 .bool) .unit)) }
theorem Qd:aS Tryd.prog 100 Qc:=aS.of_eq (by kernel_rfl) (by kernel_rfl) rfl rfl (aZ (i:=Qc) (s0:=(.pair .str (.pair (.arr 7 .bool) .unit))) rfl rfl rfl rfl)
abbrev Qe:TI:={ desc:=.struct #[jX 9 0,jX 99 1],size:=8,bytes:=24,zero:=[.string ⟨#[]⟩,.bool false,.bool false,.bool false,.bool false,.bool false,.bool false,.bool false],jF:=some (.pair .str (.pair (.arr 7 .bool) .unit)) }
theorem Qg:aS Tryd.prog 101 Qe:=aS.of_eq (by kernel_rfl) (by kernel_rfl) rfl rfl (aZ (i:=Qe) (s0:=(.pair .str (.pair (.arr 7 .bool) .unit))) rfl rfl rfl rfl)
abbrev Qh:TI:={ desc:=.array 22 101,size:=176,bytes:=528,zero:=[.string ⟨#[]⟩,.bool false,.bool false,.bool false,.bool false,.bool false,.bool false,.bool false,.string ⟨#[]⟩,.bool false,.bool false,.bool false,.bool false,.bool false,.bool false,.bool false,.string ⟨#[]⟩,.bool false,.bool false,.bool false,.bool false,.bool false,.bool false,.bool false,.string ⟨#[]⟩,.bool false,.bool false,.bool false,.bool false,.bool false,.bool false,.bool false,.string ⟨#[]⟩,.bool false,.bool false,.bool false,.bool false,.bool false,.bool false,.bool false,.string ⟨#[]⟩,.bool false,.bool false,.bool false,.bool false,.bool false,.bool false,.bool false,.string ⟨#[]⟩,.bool false,.bool false,.bool false,.bool false,.bool false,.bool false,.bool false,.string ⟨#[]⟩,.bool false,.bool false,.bool false,.bool false,.bool false,.bool false,.bool false,.string ⟨#[]⟩,.bool false,.bool false,.bool false,.bool false,.bool false,.bool false,.bool false,.string ⟨#[]⟩,.bool false,.bool false,.bool false,.bool false,.bool false,.bool false,.bool false,.string ⟨#[]⟩,.bool false,.bool false,.bool false,.bool false,.bool false,.bool false,.bool false,.string ⟨#[]⟩,.bool false,.bool false,.bool false,.bool false,.bool false,.bool false,.bool false,.string ⟨#[]⟩,.bool false,.bool false,.bool false,.bool false,.bool false,.bool false,.bool false,.string ⟨#[]⟩,.bool false,.bool false,.bool false,.bool false,.bool false,.bool false,.bool false,.string ⟨#[]⟩,.bool false,.bool false,.bool false,.bool false,.bool false,.bool false,.bool false,.string ⟨#[]⟩,.bool false,.bool false,.bool false,.bool false,.bool false,.bool false,.bool false,.string ⟨#[]⟩,.bool false,.bool false,.bool false,.bool false,.bool false,.bool false,.bool false,.string ⟨#[]⟩,.bool false,.bool false,.bool false,.bool false,.bool false,.bool false,.bool false,.string ⟨#[]⟩,.bool false,.bool false,.bool false,.bool false,.bool false,.bool false,.bool false,.string ⟨#[]⟩,.bool false,.bool false,.bool false,.bool false,.bool false,.bool false,.bool false,.string ⟨#[]⟩,.bool false,.bool false,.bool false,.bool false,.bool false,.bool false,.bool false,.string ⟨#[]⟩,.bool false,.bool false,.bool false,.bool false,.bool false,.bool false,.bool false],jF:=some (.arr 22 (.pair .str (.pair (.arr 7 .bool) .unit))) }
theorem Qi:aS Tryd.prog 102 Qh:=aS.of_eq (by kernel_rfl) (by kernel_rfl) rfl rfl (aZ (i:=Qh) (s0:=(.arr 22 (.pair .str (.pair (.arr 7 .bool) .unit)))) rfl rfl rfl rfl)
abbrev Qj:TI:={ desc:=.array 7 3,size:=7,bytes:=56,zero:=[.int .i64 0,.int .i64 0,.int .i64 0,.int .i64 0,.int .i64 0,.int .i64 0,.int .i64 0],jF:=some (.arr 7 (.int .i64)),AB:=[.i] }
theorem Qk:aS Tryd.prog 103 Qj:=aS.of_eq (by kernel_rfl) (by kernel_rfl) rfl rfl (aZ (i:=Qj) (s0:=(.arr 7 (.int .i64))) rfl rfl rfl rfl) (λ_=>by kernel_rfl)
abbrev Ql:TI:={ desc:=.array 3 3,size:=3,bytes:=24,zero:=[.int .i64 0,.int .i64 0,.int .i64 0],jF:=some (.arr 3 (.int .i64)),AB:=[.i] }
theorem Qm:aS Tryd.prog 105 Ql:=aS.of_eq (by kernel_rfl) (by kernel_rfl) rfl rfl (aZ (i:=Ql) (s0:=(.arr 3 (.int .i64))) rfl rfl rfl rfl) (λ_=>by kernel_rfl)
abbrev Qn:TI:={ desc:=.int .u32,size:=1,bytes:=4,zero:=[.int .u32 0],jF:=some (.int .u32) }
theorem Qo:aS Tryd.prog 117 Qn:=aS.of_eq (by kernel_rfl) (by kernel_rfl) rfl rfl (aZ (i:=Qn) (s0:=(.int .u32)) rfl rfl rfl rfl)
abbrev Qp:TI:={ desc:=.int .u64,size:=1,bytes:=8,zero:=[.int .u64 0],jF:=some (.int .u64) }
theorem Qq:aS Tryd.prog 119 Qp:=aS.of_eq (by kernel_rfl) (by kernel_rfl) rfl rfl (aZ (i:=Qp) (s0:=(.int .u64)) rfl rfl rfl rfl)
abbrev Qr:TI:={ desc:=.array 10 9,size:=10,bytes:=160,zero:=[.string ⟨#[]⟩,.string ⟨#[]⟩,.string ⟨#[]⟩,.string ⟨#[]⟩,.string ⟨#[]⟩,.string ⟨#[]⟩,.string ⟨#[]⟩,.string ⟨#[]⟩,.string ⟨#[]⟩,.string ⟨#[]⟩],jF:=some (.arr 10 .str) }
theorem Qs:aS Tryd.prog 120 Qr:=aS.of_eq (by kernel_rfl) (by kernel_rfl) rfl rfl (aZ (i:=Qr) (s0:=(.arr 10 .str)) rfl rfl rfl rfl)
abbrev tis:List (Nat×TI):=[(3,ti3),(4,ti4),(5,ti5),(9,ti9),(21,YJ),(22,YK),(23,YL),(24,YM),(25,YN),(26,YO),(27,YP),(33,YQ),(34,YR),(35,YT),(36,YU),(37,YV),(38,YW),(39,YX),(40,YZ),(41,Y0),(42,Y1),(43,Y2),(44,Y3),(45,Y4),(46,Y5),(54,Y6),(55,Y7),(56,Y8),(72,Y9),(73,Za),(82,Zb),(96,Zc),(99,Zd),(100,Qc),(101,Qe),(102,Qh),(103,Qj),(105,Ql),(117,Qn),(119,Qp),(120,Qr)]
theorem aO:bG Tryd.prog tis:=⟨YE,YF,YG,YH,Uo,Ur,Us,Ut,Uu,Uw,Ux,Uy,Uz,UA,UC,UD,UE,UF,UG,UH,UJ,UK,UL,UM,UN,UO,UQ,UR,UU,UW,UY,UZ,U0,Qd,Qg,Qi,Qk,Qm,Qo,Qq,Qs,trivial⟩
abbrev I6:Sh:=.int .i64
abbrev iR(n:Int):Prop:=InR IntKind.i64 n
abbrev iN:SC:=SC.v (Value.slice none 0 0)
abbrev v6(n:Int):SC:=.v (.int .i64 n)
abbrev cI(n:Int):SV:=.c (.v (.int .i64 n))
abbrev g0(r:ay):Go.lZ.Gd×ay:=([],r)
abbrev rE(a b:bK):Prop:=([]:List ay)=[]/\a=b
abbrev rT(a b:List SV):Prop:=([]:List ay)=[]/\bK.l7 a=bK.l7 b
abbrev qI(a b:Int):Prop:=([]:List ay)=[]/\bK.one (.c (.v (.int .i64 a)))=bK.one (.c (.v (.int .i64 b)))
abbrev qB(a b:Bool):Prop:=([]:List ay)=[]/\bK.one (.c (.v (.bool a)))=bK.one (.c (.v (.bool b)))
abbrev sm{α:Type} (a:α):Prop:=a=a
def abL:List (List Bool):=[[true,false,false,false,true,false,false],[true,true,false,false,false,false,false],[true,true,true,false,false,true,false],[false,false,false,false,true,false,false],[false,true,false,false,true,false,false],[false,true,false,false,false,false,false],[false,false,false,false,false,false,false],[true,false,false,true,false,false,true],[false,true,false,true,false,false,true],[true,true,false,true,false,false,true],[true,true,false,true,false,false,true],[true,true,true,true,false,false,true],[false,false,false,false,false,false,false],[true,true,false,true,false,true,true],[false,false,false,true,false,false,false],[false,false,false,true,false,false,false],[true,false,false,true,false,false,false],[false,false,false,true,true,false,false],[false,false,false,true,false,false,false],[false,false,false,true,false,false,false],[true,true,false,true,false,false,false],[false,true,false,false,false,false,false]]
def D5:List ByteArray:=[⟨#[97,100,100]⟩,⟨#[115,117,98]⟩,⟨#[109,117,108]⟩,⟨#[97,110,100]⟩,⟨#[111,114]⟩,⟨#[120,111,114]⟩,⟨#[101,113]⟩,⟨#[110,101]⟩,⟨#[108,116]⟩,⟨#[108,101]⟩]
def J9:List (ByteArray×List Bool×Unit):=[(⟨#[99,111,110,115,116]⟩,[true,false,false,false,true,false,false],()),(⟨#[99,111,112,121]⟩,[true,true,false,false,false,false,false],()),(⟨#[99,97,108,99]⟩,[true,true,true,false,false,true,false],()),(⟨#[106,117,109,112]⟩,[false,false,false,false,true,false,false],()),(⟨#[98,114,97,110,99,104]⟩,[false,true,false,false,true,false,false],()),(⟨#[97,115,115,101,114,116]⟩,[false,true,false,false,false,false,false],()),(⟨#[115,116,111,112]⟩,[false,false,false,false,false,false,false],()),(⟨#[108,111,97,100]⟩,[true,false,false,true,false,false,true],()),(⟨#[115,116,111,114,101]⟩,[false,true,false,true,false,false,true],()),(⟨#[115,119,97,112]⟩,[true,true,false,true,false,false,true],()),(⟨#[102,101,116,99,104,97,100,100]⟩,[true,true,false,true,false,false,true],()),(⟨#[99,97,115]⟩,[true,true,true,true,false,false,true],()),(⟨#[102,101,110,99,101]⟩,[false,false,false,false,false,false,false],()),(⟨#[97,119,97,105,116]⟩,[true,true,false,true,false,true,true],()),(⟨#[108,111,99,107]⟩,[false,false,false,true,false,false,false],()),(⟨#[117,110,108,111,99,107]⟩,[false,false,false,true,false,false,false],()),(⟨#[116,114,121,108,111,99,107]⟩,[true,false,false,true,false,false,false],()),(⟨#[119,97,105,116]⟩,[false,false,false,true,true,false,false],()),(⟨#[115,105,103,110,97,108]⟩,[false,false,false,true,false,false,false],()),(⟨#[98,114,111,97,100,99,97,115,116]⟩,[false,false,false,true,false,false,false],()),(⟨#[115,112,97,119,110]⟩,[true,true,false,true,false,false,false],()),(⟨#[106,111,105,110]⟩,[false,true,false,false,false,false,false],())]
abbrev gd0:Nat->Option (Sigma Sh.den):=λg=>match g with
 | 0=>some ⟨.arr 22 (.pair .str (.pair (.arr 7 .bool) .unit)),J9⟩
 | 1=>some ⟨.arr 10 .str,D5⟩
 | _=>none
abbrev cZ:Cx:={ ti:=tis,gd:=gd0 }
abbrev iD:Sh:=.pair (.int .i64) (.pair (.int .i64) (.pair (.int .i64) (.pair (.int .i64) (.pair (.int .i64) (.pair (.int .i64) (.pair (.int .i64) (.pair (.int .i64) .unit)))))))
def use(op:Int) (k:Nat):Bool:=decide (1<=op) && decide (op<=22) && (abL.getD (op - 1).toNat []).getD k false
def sW(op:Int):Bool:=decide (1<=op) && decide (op<=22)
def BH(f:Int):ByteArray:=if 1<=f/\f<=10 then D5.getD (f - 1).toNat ByteArray.empty else ByteArray.empty
abbrev abM:CT:={ ps:=[.int .i64],pre:=λd=>True,res:=λd=>([],vB (sW d.1)) }
theorem Ze(op:Int):
 qB (sW op) (decide (1<=op) && decide (op<=22)):=by
 delta qB;exact⟨rfl,rfl⟩
theorem U1:dA cZ.gd 59 abM:=
 rH (cx:=cZ) (n:=9) (cl:=[]) aO trivial Tryd.func59 λd hd=>by
  obtain⟨op,⟨⟩⟩:=d;exact⟨λ_=>none,cast (by kernel_rfl) (Ze op)⟩
abbrev abN:CT:={ ps:=[iD],pre:=λd=>True,res:=λd=>([],.one (.dat (.arr 7 (.int .i64)) [d.1.2.1,d.1.2.2.1,d.1.2.2.2.1,d.1.2.2.2.2.1,d.1.2.2.2.2.2.1,d.1.2.2.2.2.2.2.1,d.1.2.2.2.2.2.2.2.1])) }
theorem Zf(op a b c obj n fn ord:Int):
 let z1:=[a,b,c,obj,n,fn,ord];rE (bK.one (SV.dat (Sh.arr 7 I6) z1)) (bK.one (SV.dat (Sh.arr 7 I6) z1)):=by
 conv=>zeta
 delta rE I6;exact⟨rfl,rfl⟩
theorem U2:dA cZ.gd 60 abN:=
 rH (cx:=cZ) (n:=18) (cl:=[]) aO trivial Tryd.func60 λd hd=>by
  obtain⟨⟨op,a,b,c,obj,n,fn,ord,⟨⟩⟩,⟨⟩⟩:=d;exact⟨λ_=>none,cast (by kernel_rfl) (Zf op a b c obj n fn ord)⟩
abbrev abO:CT:={ ps:=[.int .i64],pre:=λd=>True,res:=λd=>([],.one (.c (.v (.string (BH d.1))))) }
theorem Zg(f:Int):
 let z1:=bK.one (SV.c (SC.v (Value.string (BH f))));br (decide (f < 1) || decide (10 < f)) (rE z1 (bK.one (SV.c (SC.v (Value.string { data:=#[]:ByteArray }))))) (iR (f - 1)/\(0<=f - 1/\f - 1 < (10:Int))/\∀(d:ByteArray),D5[(f - 1).toNat]?=some d->rE z1 (bK.one (SV.c (SC.v (Value.string d))))):=by
 conv=>zeta
 delta rE iR;refine aA.2 ⟨λh=>?_,λh=>?_⟩
 .simp only[Ar,jB]at h;rw[show BH f=ByteArray.empty from if_neg (by omega)]
  exact⟨rfl,rfl⟩
 .simp only[xP,qx]at h;refine⟨aX.2 (by omega),by omega,λd hd=>⟨rfl,?_⟩⟩
  rw[show BH f=D5.getD (f - 1).toNat ByteArray.empty from if_pos (by omega),List.getD,hd];rfl
theorem U3:dA cZ.gd 61 abO:=
 rH (cx:=cZ) (n:=13) (cl:=[]) aO trivial Tryd.func61 λd hd=>by
  obtain⟨f,⟨⟩⟩:=d;exact⟨λ_=>none,cast (by kernel_rfl) (Zg f)⟩
def U4(r:Int):Bool:=decide (0<=r) && decide (r < 8)
def Ah(op a b c obj n fn ord:Int):Int:=
 if sW op=false then 8 else
 if(!use op 0 && a != 0 || !use op 1 && b != 0 || !use op 2 && c != 0 || !use op 3 && obj != 0 || !use op 4 && n != 0 || !use op 5 && fn != 0 || !use op 6 && ord != 0)=true then 9 else
 if(!U4 a || !U4 b || !U4 c)=true then 10 else
 if(decide (ord < 0) || decide (2 < ord))=true then 13 else
 if(use op 5 && decide (BH fn=(⟨#[]⟩:ByteArray)))=true then 8 else
 if(decide (op=1) && (decide (n < -2147483648) || decide (2147483647 < n)))=true then 2 else 0
theorem Qu{op:Int}{nm:ByteArray}{us:List Bool}{u:Unit} (hb:1<=op/\op<=22) (hd:J9[(op - 1).toNat]?=some (nm,us,u)):
 us=[use op 0,use op 1,use op 2,use op 3,use op 4,use op 5,use op 6]:=by
 have key:∀k:Fin 22,(J9[k.1]?).map (λr=>r.2.1)=some ([0,1,2,3,4,5,6].map λj=>(abL.getD k.1 []).getD j false):=by decide
 have h1:=key ⟨(op - 1).toNat,by omega⟩
 simp only at h1;rw[hd]at h1;simp only[Nu,A95]at h1;rw[h1];simp[use,hb.1,hb.2]
abbrev abP:CT:={ ps:=[iD],pre:=λd=>True,res:=λd=>([],.one (.c (.v (.int .i64 (Ah d.1.1 d.1.2.1 d.1.2.2.1 d.1.2.2.2.1 d.1.2.2.2.2.1 d.1.2.2.2.2.2.1 d.1.2.2.2.2.2.2.1 d.1.2.2.2.2.2.2.2.1))))) }
abbrev abQ(op a b c obj n fn ord:Int):Nat->Option (St->oO):=λk=>match k with
 | 5=>some λ_=>.yZ 8
 | 11=>some λ_=>.yZ 4
 | _=>none
theorem Zh(op a b c obj n fn ord:Int):
 let z11:=Ah op a b c obj n fn ord;let z8:=qI z11 (8:Int);let z12:=[a,b,c,obj,n,fn,ord];let z2:=(0:Int)<=(0:Int)/\(0:Int) < (7:Int);let z10:=λ(d_2:Bool) (bV:Int)=>!d_2 && !decide (bV=(0:Int));let z9:=qI z11 (9:Int);let z3:=(0:Int)<=(1:Int)/\(1:Int) < (7:Int);let z4:=(0:Int)<=(2:Int)/\(2:Int) < (7:Int);let z5:=(0:Int)<=(5:Int)/\(5:Int) < (7:Int);let z6:=(0:Int)<=(6:Int)/\(6:Int) < (7:Int);let z1:=λ(U5:Bool) (Qv:Int)=>U5 && (decide (Qv < (0:Int)) || decide (8<=Qv));let z7:=qI z11 (10:Int);True/\br (!sW op) z8 (iR (op - 1)/\(0<=op - 1/\op - 1 < (22:Int))/\∀(d:ByteArray×((Sh.arr 7 Sh.bool).pair Sh.unit).den),J9[(op - 1).toNat]?=some d->True/\((0:Int)<=(0:Int)/\0 < (z12.length:Int))/\∀(bV:Int),z12[0]?=some bV->z2/\0 < 7/\∀(d_2:Bool),(d.snd.fst)[0]?=some d_2->br (z10 d_2 bV) z9 (iR (1:Int)/\((0:Int)<=(1:Int)/\1 < (z12.length:Int))/\∀(d_3:Int),z12[1]?=some d_3->z3/\1 < 7/\∀(d_4:Bool),(d.snd.fst)[1]?=some d_4->br (z10 d_4 d_3) z9 (iR (2:Int)/\((0:Int)<=(2:Int)/\2 < (z12.length:Int))/\∀(d_5:Int),z12[2]?=some d_5->z4/\2 < 7/\∀(d_6:Bool),(d.snd.fst)[2]?=some d_6->br (z10 d_6 d_5) z9 (iR (3:Int)/\((0:Int)<=(3:Int)/\3 < (z12.length:Int))/\∀(d_7:Int),z12[3]?=some d_7->((0:Int)<=(3:Int)/\(3:Int) < (7:Int))/\3 < 7/\∀(d_8:Bool),(d.snd.fst)[3]?=some d_8->br (z10 d_8 d_7) z9 (iR (4:Int)/\((0:Int)<=(4:Int)/\4 < (z12.length:Int))/\∀(d_9:Int),z12[4]?=some d_9->((0:Int)<=(4:Int)/\(4:Int) < (7:Int))/\4 < 7/\∀(abR:Bool),(d.snd.fst)[4]?=some abR->br (z10 abR d_9) z9 (iR (5:Int)/\((0:Int)<=(5:Int)/\5 < (z12.length:Int))/\∀(abS:Int),z12[5]?=some abS->z5/\5 < 7/\∀(abT:Bool),(d.snd.fst)[5]?=some abT->br (z10 abT abS) z9 (iR (6:Int)/\((0:Int)<=(6:Int)/\6 < (z12.length:Int))/\∀(abU:Int),z12[6]?=some abU->z6/\6 < 7/\∀(abV:Bool),(d.snd.fst)[6]?=some abV->br (z10 abV abU) z9 (iR (7:Int)/\((0:Int)<=(0:Int)/\0 < (↑[a,b,c].length:Int))/\∀(Qv:Int),[a,b,c][0]?=some Qv->z2/\0 < 7/\∀(U5:Bool),(d.snd.fst)[0]?=some U5->br (z1 U5 Qv) z7 (iR (1:Int)/\((0:Int)<=(1:Int)/\1 < (↑[a,b,c].length:Int))/\∀(abW:Int),[a,b,c][1]?=some abW->z3/\1 < 7/\∀(abX:Bool),(d.snd.fst)[1]?=some abX->br (z1 abX abW) z7 (iR (2:Int)/\((0:Int)<=(2:Int)/\2 < (↑[a,b,c].length:Int))/\∀(abY:Int),[a,b,c][2]?=some abY->z4/\2 < 7/\∀(abZ:Bool),(d.snd.fst)[2]?=some abZ->br (z1 abZ abY) z7 (iR (3:Int)/\z6/\6 < 7/\∀(ab1:Bool),(d.snd.fst)[6]?=some ab1->br (ab1 && (decide (ord < 0) || decide (2 < ord))) (qI z11 (13:Int)) (z5/\5 < 7/\∀(Zi:Bool),(d.snd.fst)[5]?=some Zi->(Zi=true->True)/\br (Zi && decide (BH fn={ data:=#[]:ByteArray })) z8 (br (decide (op=1) && (decide (n < (-2147483648)) || decide (2147483647 < n))) (qI z11 (2:Int)) (qI z11 (0:Int))))))))))))))):=by
 conv=>zeta
 delta qI iR;refine⟨trivial,aA.2 ⟨λh=>?_,λh=>?_⟩⟩
 .have hk:sW op=false:=by simpa using h
  rw[show Ah op a b c obj n fn ord=8 by simp[Ah,hk]]
  exact⟨rfl,rfl⟩
 .have hk:sW op=true:=by simpa using h
  have hb:1<=op/\op<=22:=by simpa[sW]using hk
  refine⟨aX.2 (by omega),by omega,λd hd=>?_⟩
  obtain⟨nm,us,⟨⟩⟩:=d;have hu:=Qu hb hd;subst hu;clear hd;simp only[RY,List.getElem?_cons_succ,A95,forall_eq',aA,aX,Aq,Rx,true_and,bK.one.injEq,SV.c.injEq,SC.v.injEq,Value.int.injEq,Ah,hk,U4];generalize use op 0=u0;generalize use op 1=u1;generalize use op 2=u2;generalize use op 3=u3;generalize use op 4=u4;generalize use op 5=u5;generalize use op 6=u6
  repeat' (first | apply And.intro | intro _)
  all_goals first | omega | decide | skip
  all_goals simp_all
  all_goals grind
theorem U6:dA cZ.gd 54 abP:=
 rH (cx:=cZ) (n:=89) (cl:=[(59,abM),(60,abN),(61,abO)]) aO ⟨U1,U2,U3,trivial⟩ Tryd.func54 λd hd=>by
  obtain⟨⟨op,a,b,c,obj,n,fn,ord,⟨⟩⟩,⟨⟩⟩:=d;exact⟨abQ op a b c obj n fn ord,cast (by kernel_rfl) (Zh op a b c obj n fn ord)⟩
def lC(l:List Int) (x:Int):Bool:=l.any λy=>decide (y=x)
def Iw(l:List Int) (x:Int):Nat:=(l.takeWhile λy=>decide (y < x)).length
def FW(l:List Int) (x:Int):List Int:=l.take (Iw l x)++[x]++l.drop (Iw l x)
def ig(l:List Int):List Int:=l.foldl (λo x=>if lC o x then o else FW o x) []
def SS(l:List Int):Prop:=l.Pairwise (· < ·)
theorem Qw:∀{l m:List Int},SS l->SS m->(∀x,x∈l↔x∈m)->l=m
 | [],[],_,_,_=>rfl
 | [],y :: m,_,_,h=>by have:=(h y).2 (by simp);simp at this
 | x :: l,[],_,_,h=>by have:=(h x).1 (by simp);simp at this
 | x :: l,y :: m,hl,hm,h=>by
   obtain⟨h1,h2⟩:=V8.1 hl;obtain⟨h3,h4⟩:=V8.1 hm;have hxy:x=y:=by
    have a:=(h x).1 (by simp)
    have b:=(h y).2 (by simp)
    rcases iV.1 a with a | a
    .exact a
    .rcases iV.1 b with b | b
     .exact b.symm
     .have:=h3 x a;have:=h1 y b;omega
   subst hxy
   congr 1
   refine Qw h2 h4 λz=>?_
   have hz:=h z;simp only[iV]at hz;constructor
   .intro hh;rcases hz.1 (.inr hh) with rfl | h5
    .have:=h1 z hh;omega
    .exact h5
   .intro hh;rcases hz.2 (.inr hh) with rfl | h5
    .have:=h3 z hh;omega
    .exact h5
theorem FX{x:Int}:lC l x=true↔x∈l:=by
 unfold lC;rw[List.any_eq_true];constructor
 .rintro⟨y,h1,h2⟩;simp only[jB]at h2;subst h2;exact h1
 .intro h;exact⟨x,h,by simp⟩
theorem Iy{x:Int}:lC l x=false↔x∉l:=by
 rw[<-FX];simp
theorem Zj(l:List Int) (x:Int):l.take (Iw l x)=l.takeWhile λy=>decide (y < x):=by
 unfold Iw
 induction l with
 | nil=>rfl
 | cons a l ih=>
   simp only[Xl];split
   .simp[ih]
   .simp
theorem Zk(l:List Int) (x:Int):l.drop (Iw l x)=l.dropWhile λy=>decide (y < x):=by
 unfold Iw
 induction l with
 | nil=>rfl
 | cons a l ih=>
   simp only[Xl,List.dropWhile_cons];split
   .simp[ih]
   .simp
theorem Ko:∀{l:List Int}{x:Int},SS l->∀y∈l.dropWhile (λy=>decide (y < x)),x<=y
 | [],_,_,y,h=>by simp at h
 | a :: l,x,hl,y,h=>by
   obtain⟨h1,h2⟩:=V8.1 hl;simp only[List.dropWhile_cons]at h;split at h
   .exact Ko h2 y h
   .rename_i hn;simp only[jB]at hn;rcases iV.1 h with rfl | h
    .omega
    .have:=h1 y h;omega
theorem WQ:∀{l:List Int}{x:Int},∀y∈l.takeWhile (λy=>decide (y < x)),y < x
 | [],_,y,h=>by simp at h
 | a :: l,x,y,h=>by
   simp only[Xl]at h;split at h
   .rename_i hn;simp only[jB]at hn;rcases iV.1 h with rfl | h
    .exact hn
    .exact WQ y h
   .simp at h
theorem Zl{x:Int} (hl:SS l) (hx:x∉l):SS (FW l x):=by
 unfold FW SS;rw[Zj,Zk];have hp:SS (l.takeWhile (λy=>decide (y < x))++l.dropWhile (λy=>decide (y < x))):=by rw[List.takeWhile_append_dropWhile];exact hl
 obtain⟨p1,p2,p3⟩:=Xj.1 hp;rw[Am,Xj];refine⟨p1,?_,?_⟩
 .rw[List.singleton_append,V8];refine⟨λy hy=>?_,p2⟩
  have h1:=Ko hl y hy;have h2:y≠x:=λe=>hx (by rw[<-e];rw[<-List.takeWhile_append_dropWhile (p:=λy=>decide (y < x)) (l:=l)];exact List.mem_append_right _ hy)
  omega
 .intro a ha b hb;rw[List.singleton_append]at hb;rcases iV.1 hb with rfl | hb
  .exact WQ a ha
  .exact p3 a ha b hb
theorem U7{x y:Int}:y∈FW l x↔y=x\/y∈l:=by
 unfold FW;rw[zO,zO,V9]
 conv=>rhs;rw[<-Rt (Iw l x) l,zO]
 constructor
 .rintro((h | h) | h)
  .exact .inr (.inl h)
  .exact .inl h
  .exact .inr (.inr h)
 .rintro(h | h | h)
  .exact .inl (.inr h)
  .exact .inl (.inl h)
  .exact .inr h
theorem xM:∀(l o:List Int),SS o->SS (l.foldl (λo x=>if lC o x then o else FW o x) o)/\∀y,y∈l.foldl (λo x=>if lC o x then o else FW o x) o↔y∈o\/y∈l
 | [],o,h=>⟨h,λy=>by simp⟩
 | x :: l,o,h=>by
   simp only[Xe];cases hx:lC o x with
   | true=>
     simp only[if_true];obtain⟨h1,h2⟩:=xM l o h;refine⟨h1,λy=>?_⟩
     rw[h2,iV];have:=FX.1 hx;constructor
     .rintro(h | h)
      .exact .inl h
      .exact .inr (.inr h)
     .rintro(h | rfl | h)
      .exact .inl h
      .exact .inl this
      .exact .inr h
   | false=>
     simp only[Ny,Eh];obtain⟨h1,h2⟩:=xM l (FW o x) (Zl h (Iy.1 hx));refine⟨h1,λy=>?_⟩
     rw[h2,iV,U7];constructor
     .rintro((h | h) | h)
      .exact .inr (.inl h)
      .exact .inl h
      .exact .inr (.inr h)
     .rintro(h | h | h)
      .exact .inl (.inr h)
      .exact .inl (.inl h)
      .exact .inr h
theorem D6(l:List Int):SS (ig l):=(xM l [] List.Pairwise.nil).1
theorem zJ{x:Int}:x∈ig l↔x∈l:=by
 have:=(xM l [] List.Pairwise.nil).2 x;simpa[ig]using this
theorem FY{d:Array Int} (hs:∀i j,i < j->j < d.size->d[i]!<=d[j]!):∀m,m<=d.size ->
 SS (Lib.compactUpTo d m)/\(∀x,x∈Lib.compactUpTo d m↔∃j < m,d[j]! = x)
 | 0,_=>⟨by simp[Lib.compactUpTo,SS],λx=>by simp[Lib.compactUpTo]⟩
 | m+1,hm=>by
   obtain⟨h1,h2⟩:=FY hs m (by omega)
   rw[Lib.compactUpTo_succ];have le:∀x∈Lib.compactUpTo d m,∃j < m,d[j]! = x:=λx hx=>(h2 x).1 hx
   cases hk:Lib.keeps d m with
   | true=>
     simp only[if_true];constructor
     .refine Xj.2 ⟨h1,by simp,λa ha b hb=>?_⟩
      simp only[V9]at hb;subst hb;obtain⟨j,hj,rfl⟩:=le a ha;have h3:m≠0:=by omega
      simp only[Lib.keeps,jB,h3,false_or]at hk;have h4:=hs (m - 1) m (by omega) (by omega)
      by_cases hj2:j=m - 1
      .subst hj2;omega
      .have:=hs j (m - 1) (by omega) (by omega);omega
     .intro x;rw[zO,h2,V9];constructor
      .rintro(⟨j,hj,e⟩ | e)
       .exact⟨j,by omega,e⟩
       .exact⟨m,by omega,e.symm⟩
      .rintro⟨j,hj,e⟩
       by_cases hj2:j=m
       .subst hj2;exact .inr e.symm
       .exact .inl ⟨j,by omega,e⟩
   | false=>
     simp only[Ny,Eh,KE];refine⟨h1,λx=>?_⟩
     rw[h2];have h3:m≠0/\d[m]! = d[m - 1]!:=by simpa[Lib.keeps]using hk
     constructor
     .rintro⟨j,hj,e⟩;exact⟨j,by omega,e⟩
     .rintro⟨j,hj,e⟩
      by_cases hj2:j=m
      .subst hj2;exact⟨j - 1,by omega,by rw[<-h3.2];exact e⟩
      .exact⟨j,by omega,e⟩
theorem FZ(l:List Int):(gW l).Pairwise (·<=·):=by
 have h:(gW l).Pairwise (λx y=>decide (x<=y)=true):=List.pairwise_mergeSort (λa b c h1 h2=>by simp at *;omega) (λa b=>by simp;omega) l
 exact h.imp λh=>by simpa using h
theorem Qx{x:Int}:x∈gW l↔x∈l:=(List.mergeSort_perm l _).mem_iff
theorem F5(l:List Int):SS (Lib.compact (gW l))/\∀x,x∈Lib.compact (gW l)↔x∈l:=by
 have hs:∀i j,i < j->j < (gW l).toArray.size->(gW l).toArray[i]!<=(gW l).toArray[j]!:=by
  intro i j hij hj;have hj':j < (gW l).length:=by simpa using hj
  have:=List.pairwise_iff_getElem.1 (FZ l) i j (by omega) hj' hij
  rw[getElem!_pos _ i (by simp;omega),getElem!_pos _ j (by simpa using hj)]
  simpa using this
 obtain⟨h1,h2⟩:=FY hs (gW l).length (by simp)
 refine⟨h1,λx=>?_⟩
 show x∈Lib.compactUpTo (gW l).toArray (gW l).length↔_;rw[h2,<-Qx,List.mem_iff_getElem];constructor
 .rintro⟨j,hj,e⟩;exact⟨j,hj,by rw[getElem!_pos _ j (by simpa using hj)]at e;simpa using e⟩
 .rintro⟨j,hj,e⟩;exact⟨j,hj,by rw[getElem!_pos _ j (by simpa using hj)];simpa using e⟩
theorem U8(l:List Int):Lib.compact (gW l)=ig l:=
 Qw (F5 l).1 (D6 l) λx=>by rw[(F5 l).2,zJ]
end Go.Proofs.YtaagmchgokmdgaaDoor
namespace Go.Proofs
open Go.Shelf
def Tryd.lays189_ren:Go.Shelf.Ren:=⟨fun | 189=>50 | 125=>57 | 257=>56 | 128=>71 | 129=>72 | 294=>62 | 295=>63 | 296=>64 | 297=>65 | 298=>66 | 299=>67 | 216=>68 | 300=>69 | 301=>70 | 328=>73 | 329=>74 | 330=>75 | 331=>76 | 332=>77 | 215=>78 | 343=>79 | n=>n,fun | 28=>45 | 3=>3 | 46=>96 | 0=>0 | 51=>117 | 53=>119 | 4=>4 | 183=>109 | 182=>108 | 131=>114 | 5=>5 | 9=>9 | 218=>121 | 222=>125 | 228=>127 | 229=>128 | n=>n,fun | n=>n⟩
theorem Tryd.lays189:Go.Proofs.Lays.n189 Tryd.prog Tryd.lays189_ren:={
 mixed:=by kernel_rfl
 f125:=Tryd.func57.trans (qV some (by kernel_rfl))
 f128:=Tryd.func71.trans (qV some (by kernel_rfl))
 f129:=Tryd.func72.trans (qV some (by kernel_rfl))
 f189:=Tryd.func50.trans (qV some (by kernel_rfl))
 f215:=Tryd.func78.trans (qV some (by kernel_rfl))
 f216:=Tryd.func68.trans (qV some (by kernel_rfl))
 f257:=Tryd.func56.trans (qV some (by kernel_rfl))
 f294:=Tryd.func62.trans (qV some (by kernel_rfl))
 f295:=Tryd.func63.trans (qV some (by kernel_rfl))
 f296:=Tryd.func64.trans (qV some (by kernel_rfl))
 f297:=Tryd.func65.trans (qV some (by kernel_rfl))
 f298:=Tryd.func66.trans (qV some (by kernel_rfl))
 f299:=Tryd.func67.trans (qV some (by kernel_rfl))
 f300:=Tryd.func69.trans (qV some (by kernel_rfl))
 f301:=Tryd.func70.trans (qV some (by kernel_rfl))
 f328:=Tryd.func73.trans (qV some (by kernel_rfl))
 f329:=Tryd.func74.trans (qV some (by kernel_rfl))
 f330:=Tryd.func75.trans (qV some (by kernel_rfl))
 f331:=Tryd.func76.trans (qV some (by kernel_rfl))
 f332:=Tryd.func77.trans (qV some (by kernel_rfl))
 f343:=Tryd.func79.trans (qV some (by kernel_rfl))
 t0:=Tryd.underlying0
 a0:=Tryd.isAgg0
 z0:=Tryd.sizeOf0
 v0:=Tryd.zeroValue0
 t3:=Tryd.underlying3
 a3:=Tryd.isAgg3
 z3:=Tryd.sizeOf3
 v3:=Tryd.zeroValue3
 t4:=Tryd.underlying4
 a4:=Tryd.isAgg4
 z4:=Tryd.sizeOf4
 v4:=Tryd.zeroValue4
 t5:=Tryd.underlying5
 a5:=Tryd.isAgg5
 z5:=Tryd.sizeOf5
 v5:=Tryd.zeroValue5
 t9:=Tryd.underlying9
 a9:=Tryd.isAgg9
 z9:=Tryd.sizeOf9
 v9:=Tryd.zeroValue9
 t28:=Tryd.underlying45
 a28:=Tryd.isAgg45
 z28:=Tryd.sizeOf45
 v28:=Tryd.zeroValue45
 t46:=Tryd.underlying96
 a46:=Tryd.isAgg96
 z46:=Tryd.sizeOf96
 v46:=Tryd.zeroValue96
 t51:=Tryd.underlying117
 a51:=Tryd.isAgg117
 z51:=Tryd.sizeOf117
 v51:=Tryd.zeroValue117
 t53:=Tryd.underlying119
 a53:=Tryd.isAgg119
 z53:=Tryd.sizeOf119
 v53:=Tryd.zeroValue119
 t131:=Tryd.underlying114
 a131:=Tryd.isAgg114
 z131:=Tryd.sizeOf114
 v131:=Tryd.zeroValue114
 t182:=Tryd.underlying108
 a182:=Tryd.isAgg108
 z182:=Tryd.sizeOf108
 v182:=Tryd.zeroValue108
 t183:=Tryd.underlying109
 a183:=Tryd.isAgg109
 z183:=Tryd.sizeOf109
 v183:=Tryd.zeroValue109
 t218:=Tryd.underlying121
 a218:=Tryd.isAgg121
 z218:=Tryd.sizeOf121
 v218:=Tryd.zeroValue121
 t222:=Tryd.underlying125
 a222:=Tryd.isAgg125
 z222:=Tryd.sizeOf125
 v222:=Tryd.zeroValue125
 t228:=Tryd.underlying127
 a228:=Tryd.isAgg127
 z228:=Tryd.sizeOf127
 v228:=Tryd.zeroValue127
 t229:=Tryd.underlying128
 a229:=Tryd.isAgg128
 z229:=Tryd.sizeOf128
 v229:=Tryd.zeroValue128 }
open Go.Sort Go.RowKit in
theorem Tryd.slices_Sort_int(blk off cap:Nat) (zs:List Int) (w:World) (hH:Holds (Value.int .i64) w blk off zs.toArray) (hblk:blk < w.heap.size) (hsz:zs.length < 4611686018427387904):
 Calls Tryd.prog 50 #[.slice (some ⟨blk,off,none⟩) zs.length cap] w λe w'=>
  e=.returned (.tuple #[])/\∃n os,w'=grow (putRow (Value.int .i64) (Sort.ahead w n) blk off (zs.mergeSort λx y=>decide (x<=y)).toArray) os:=Any.slices_Sort_int Tryd.lays189 blk off cap zs w hH hblk hsz
def Tryd.laysNm220_ren:Go.Shelf.Ren:=⟨fun | 20=>51 | n=>n,fun | 22=>45 | 3=>3 | 4=>4 | 0=>0 | n=>n,fun | n=>n⟩
theorem Tryd.laysNm220:Go.Proofs.Lays2.n20 Tryd.prog Tryd.laysNm220_ren:={
 mixed:=by kernel_rfl
 f20:=Tryd.func51.trans (qV some (by kernel_rfl))
 t0:=Tryd.underlying0
 a0:=Tryd.isAgg0
 z0:=Tryd.sizeOf0
 v0:=Tryd.zeroValue0
 t3:=Tryd.underlying3
 a3:=Tryd.isAgg3
 z3:=Tryd.sizeOf3
 v3:=Tryd.zeroValue3
 t4:=Tryd.underlying4
 a4:=Tryd.isAgg4
 z4:=Tryd.sizeOf4
 v4:=Tryd.zeroValue4
 t22:=Tryd.underlying45
 a22:=Tryd.isAgg45
 z22:=Tryd.sizeOf45
 v22:=Tryd.zeroValue45
 i3:=by kernel_rfl }
open Go.RowKit Go.Lib Go.Sort in
theorem Tryd.slices_Compact_int(blk off cap:Nat) (zs:List Int) (w:World) (hH:Holds (Value.int .i64) w blk off zs.toArray) (hsz:zs.length<=9223372036854775807) (hcap:zs.length<=cap):
 Calls Tryd.prog 51 #[.slice (some ⟨blk,off,none⟩) zs.length cap] w λe w'=>e=.returned (.slice (some ⟨blk,off,none⟩) (Lib.compact zs).length cap)/\∃q,w'=putRow (Value.int .i64) (Sort.ahead w q) blk off (Lib.compact zs++List.replicate (zs.length - (Lib.compact zs).length) 0).toArray:=Any.slices_Compact_int Tryd.laysNm220 blk off cap zs w hH hsz hcap
open Go.RowKit Go.Lib Go.Sort in
theorem Tryd.slices_Compact_int_empty(a:Option Addr) (cap:Nat) (w:World):
 Calls Tryd.prog 51 #[.slice a 0 cap] w λe w'=>e=.returned (.slice a 0 cap)/\w'=w:=Any.slices_Compact_int_empty Tryd.laysNm220 a cap w
end Go.Proofs
namespace Go.Proofs.YtaagmchgokmdgaaDoor
open Go Go.lZ
variable {l ms cs:List ByteArray}{k:Nat}
def Mt(l:List Int):Prop:=l=[]
theorem Mt.nil:Mt []:=rfl
abbrev WR:CT:={ ps:=[.int .u64],pre:=λd=>d.1=0,res:=λd=>([],.one (.c (.v (.int .i64 0)))) }
abbrev ab2  : Nat->Option (St->oO):=λ_=>none
theorem Zm :
 let z1:=[(8:UInt8),(8:UInt8),(8:UInt8),(8:UInt8),(8:UInt8),(8:UInt8),(8:UInt8),(8:UInt8),(8:UInt8),(8:UInt8),(8:UInt8),(8:UInt8),(8:UInt8),(8:UInt8),(8:UInt8),(8:UInt8),(8:UInt8),(8:UInt8),(8:UInt8),(8:UInt8),(8:UInt8),(8:UInt8),(8:UInt8),(8:UInt8),(8:UInt8),(8:UInt8),(8:UInt8),(8:UInt8),(8:UInt8),(8:UInt8),(8:UInt8),(8:UInt8),(8:UInt8),(8:UInt8),(8:UInt8),(8:UInt8),(8:UInt8),(8:UInt8),(8:UInt8),(8:UInt8),(8:UInt8),(8:UInt8),(8:UInt8),(8:UInt8),(8:UInt8),(8:UInt8),(8:UInt8),(8:UInt8),(8:UInt8),(8:UInt8),(8:UInt8),(8:UInt8),(8:UInt8),(8:UInt8),(8:UInt8),(8:UInt8),(8:UInt8),(8:UInt8),(8:UInt8),(8:UInt8),(8:UInt8),(8:UInt8),(8:UInt8),(8:UInt8)];((0:Int)<=(0:Int)/\(0:Int) < (256:Int))/\∀(u:UInt8),{ data:=(([(0:UInt8),(1:UInt8),(2:UInt8),(2:UInt8),(3:UInt8),(3:UInt8),(3:UInt8),(3:UInt8),(4:UInt8),(4:UInt8),(4:UInt8),(4:UInt8),(4:UInt8),(4:UInt8),(4:UInt8),(4:UInt8),(5:UInt8),(5:UInt8),(5:UInt8),(5:UInt8),(5:UInt8),(5:UInt8),(5:UInt8),(5:UInt8),(5:UInt8),(5:UInt8),(5:UInt8),(5:UInt8),(5:UInt8),(5:UInt8),(5:UInt8),(5:UInt8),(6:UInt8),(6:UInt8),(6:UInt8),(6:UInt8),(6:UInt8),(6:UInt8),(6:UInt8),(6:UInt8),(6:UInt8),(6:UInt8),(6:UInt8),(6:UInt8),(6:UInt8),(6:UInt8),(6:UInt8),(6:UInt8),(6:UInt8),(6:UInt8),(6:UInt8),(6:UInt8),(6:UInt8),(6:UInt8),(6:UInt8),(6:UInt8),(6:UInt8),(6:UInt8),(6:UInt8),(6:UInt8),(6:UInt8),(6:UInt8),(6:UInt8),(6:UInt8)].append [(7:UInt8),(7:UInt8),(7:UInt8),(7:UInt8),(7:UInt8),(7:UInt8),(7:UInt8),(7:UInt8),(7:UInt8),(7:UInt8),(7:UInt8),(7:UInt8),(7:UInt8),(7:UInt8),(7:UInt8),(7:UInt8),(7:UInt8),(7:UInt8),(7:UInt8),(7:UInt8),(7:UInt8),(7:UInt8),(7:UInt8),(7:UInt8),(7:UInt8),(7:UInt8),(7:UInt8),(7:UInt8),(7:UInt8),(7:UInt8),(7:UInt8),(7:UInt8),(7:UInt8),(7:UInt8),(7:UInt8),(7:UInt8),(7:UInt8),(7:UInt8),(7:UInt8),(7:UInt8),(7:UInt8),(7:UInt8),(7:UInt8),(7:UInt8),(7:UInt8),(7:UInt8),(7:UInt8),(7:UInt8),(7:UInt8),(7:UInt8),(7:UInt8),(7:UInt8),(7:UInt8),(7:UInt8),(7:UInt8),(7:UInt8),(7:UInt8),(7:UInt8),(7:UInt8),(7:UInt8),(7:UInt8),(7:UInt8),(7:UInt8),(7:UInt8)]).append (z1.append z1)).toArray:ByteArray }[0]?=some u->iR (u.toNat:Int)/\iR (0+(u.toNat:Int))/\qI 0 (0+(u.toNat:Int)):=by
 conv=>zeta
 delta qI iR;refine⟨by omega,λu hu=>?_⟩
 have hu:some (0:UInt8)=some u:=hu;cases hu;exact⟨aX.2 (by decide),aX.2 (by decide),rfl,rfl⟩
theorem U9:dA cZ.gd 72 WR:=
 rH (cx:=cZ) (n:=25) (cl:=[]) aO trivial Tryd.func72 λd hd=>by
  obtain⟨x,⟨⟩⟩:=d;simp only at hd;subst hd;exact⟨ab2 ,cast (by kernel_rfl) (Zm )⟩
abbrev WS:CT:={ ps:=[.int .u64],pre:=λd=>d.1=0,res:=λd=>([],.one (.c (.v (.int .i64 0)))) }
abbrev ab3  : Nat->Option (St->oO):=λ_=>none
theorem Zn :
 (0:(Sh.int IntKind.u64).den)=(0:(Sh.int IntKind.u64).den)/\qI 0 (0:Int):=by
 delta qI;exact⟨rfl,rfl,rfl⟩
theorem Va:dA cZ.gd 57 WS:=
 rH (cx:=cZ) (n:=8) (cl:=[(72,WR)]) aO ⟨U9,trivial⟩ Tryd.func57 λd hd=>by
  obtain⟨x,⟨⟩⟩:=d;simp only at hd;subst hd;exact⟨ab3 ,cast (by kernel_rfl) (Zn )⟩
abbrev WT:CT:={ ps:=[.sl (.int .i64),.int .i64,.int .i64],pre:=λd=>Mt d.1/\d.2.1=0/\d.2.2.1=0,res:=λd=>([],.l7 []) }
abbrev ab4  : Nat->Option (St->oO):=λ_=>some λ_=>.yZ 1
theorem Zo :
 iR (1:Int)/\rT [] []:=by
 delta rT iR;exact⟨aX.2 (by omega),rfl,rfl⟩
theorem Vb:dA cZ.gd 62 WT:=
 rH (cx:=cZ) (n:=49) (cl:=[]) aO trivial Tryd.func62 λd hd=>by
  obtain⟨l,a,b,⟨⟩⟩:=d;obtain⟨h1,h2,h3⟩:=hd;simp only at h1 h2 h3;have h1:l=[]:=h1;subst h1;subst h2;subst h3;exact⟨ab4 ,cast (by kernel_rfl) (Zo )⟩
abbrev WU:CT:={ ps:=[.sl (.int .i64),.int .i64,.int .i64,.int .i64],pre:=λd=>Mt d.1/\d.2.1=0/\d.2.2.1=0,res:=λd=>([],.l7 []) }
abbrev ab5(m:Int):Nat->Option (St->oO):=λ_=>some λ_=>.yZ 1
theorem Zp(m:Int):
 iR (0:Int)/\(Mt []/\(0:Int)=(0:Int)/\(0:Int)=(0:Int))/\rT [] []:=by
 delta rT iR;exact⟨aX.2 (by omega),⟨rfl,rfl,rfl⟩,rfl,rfl⟩
theorem Vd:dA cZ.gd 56 WU:=
 rH (cx:=cZ) (n:=134) (cl:=[(62,WT)]) aO ⟨Vb,trivial⟩ Tryd.func56 λd hd=>by
  obtain⟨l,a,b,m,⟨⟩⟩:=d;obtain⟨h1,h2,h3⟩:=hd;simp only at h1 h2 h3;have h1:l=[]:=h1;subst h1;subst h2;subst h3;exact⟨ab5 m,cast (by kernel_rfl) (Zp m)⟩
abbrev ab6:CT:={ ps:=[.sl (.int .i64)],pre:=λd=>Mt d.1,res:=λd=>([],.l7 []) }
abbrev ab7  : Nat->Option (St->oO):=λ_=>none
theorem Zq :
 (0:Int)=(0:(Sh.int IntKind.u64).den)/\(Mt []/\(0:Int)=(0:Int)/\(0:Int)=(0:Int))/\rT [] []:=by
 delta rT;exact⟨rfl,⟨rfl,rfl,rfl⟩,rfl,rfl⟩
theorem Kq:dA cZ.gd 50 ab6:=
 rH (cx:=cZ) (n:=11) (cl:=[(56,WU),(57,WS)]) aO ⟨Vd,Va,trivial⟩ Tryd.func50 λd hd=>by
  obtain⟨l,⟨⟩⟩:=d;have hd:l=[]:=hd;subst hd;exact⟨ab7 ,cast (by kernel_rfl) (Zq )⟩
abbrev xO:CT:={ ps:=[.sl (.int .i64)],pre:=λd=>d.1.length<=1000000,res:=λd=>([.row 3 (.int .i64) (d.1)],.one (.c (.row 0))) }
abbrev Qy:List (Nat×IP):=[]
abbrev Ve:=Sh.int IntKind.i64
abbrev Qz:=SV.c (SC.row (0:Nat))
theorem Zr(l:List Int) (bD:xO.pre (l,())):
 let z1:=[ay.row (3:TypeId) Ve l];∀(b:Bool),(b=true->l=[])->br b (z1=[ay.row (3:TypeId) Ve []]/\bK.one Qz=bK.one Qz) (jK ((0:Nat)+List.length (l)) (8:Nat)/\z1=[ay.row (3:TypeId) Ve ([]++l)]/\bK.one Qz=bK.one Qz):=by
 conv=>zeta
 delta Ve Qz;have hp:l.length<=1000000:=bD;intro b hb;refine aA.2 ⟨λh=>by rw[hb h];exact⟨rfl,rfl⟩,λh=>⟨?_,by simp,rfl⟩⟩
 rw[iM];omega
theorem Kr:dA cZ.gd 41 xO:=
 sV (il:=Qy) (rc:=[.row 3 (.int .i64)]) (cx:=cZ) (n:=8) (cl:=[]) (by kernel_rfl) aO trivial trivial Tryd.func41 (by kernel_rfl) (by kernel_rfl) rfl (by kernel_rfl) (by kernel_rfl) λd hd=>by
  obtain⟨l,⟨⟩⟩:=d;exact⟨λ_=>none,cast (by kernel_rfl) (Zr l hd)⟩
def Ai(l:List Int) (x:Int):Int:=match l.findIdx? (λy=>decide (y=x)) with | some k=>(k:Int) | none=>-1
theorem Iz{l:List Int}{x:Int} (hd:l[k]?=some x) (hn:∀j < k,∀y,l[j]?=some y->y≠x):Ai l x=k:=by
 have gX:k < l.length:=(fM.1 hd).1;have:l.findIdx? (λy=>decide (y=x))=some k:=by
  rw[A97];refine⟨gX,by have:=(fM.1 hd).2;simp[this],λj hj=>?_⟩
  have:=hn j hj l[j] (lH (by omega))
  simpa using this
 simp[Ai,this]
theorem MW{l:List Int}{x:Int} (hn:∀(j:Nat) y,l[j]?=some y->y≠x):Ai l x = -1:=by
 have:l.findIdx? (λy=>decide (y=x))=none:=by
  rw[Xi];intro y hy;obtain⟨j,hj⟩:=RP hy;simpa using hn j y hj
 simp[Ai,this]
abbrev QA:CT:={ ps:=[.sl (.int .i64),.int .i64],pre:=λd=>d.1.length<=4611686018427387904,res:=λd=>([],.one (.c (.v (.int .i64 (Ai d.1 d.2.1))))) }
abbrev ab8(l:List Int) (x:Int):Nat->Option (St->oO):=λ_=>some λ_=>.inv { α:=Nat,slots:=λk=>[(8,.c (.v (.int .i64 k)))],res:=λ_=>[],inv:=λk=>k<=l.length/\∀j < k,∀y,l[j]?=some y->y≠x,meas:=λk=>l.length - k }
abbrev pq:=Go.lZ.Gd×Go.lZ.ay
theorem Zt(l:List Int) (x:Int) (bD:QA.pre (l,x,())):
 let z1:=λ(x_1:Nat)=>(x_1<=l.length/\∀(j:Nat),j < x_1->∀(y:Int),l[j]?=some y->y≠x);(∃x_1,(z1 x_1)/\(cI 0=cI (x_1:Int)/\True)/\([]:List pq)=[])/\∀(x_1:Nat),(z1 x_1)->br (decide ((x_1:Int) < (l.length:Int))) ((0<=(x_1:Int)/\(x_1:Int) < (l.length:Int))/\∀(d:Int),l[(x_1:Int).toNat]?=some d->br (decide (x=d)) (qI (Ai l x) (x_1:Int)) (iR ((x_1:Int)+(1:Int))/\∃x',(x'<=l.length/\∀(j:Nat),j < x'->∀(y:Int),l[j]?=some y->y≠x)/\(cI ((x_1:Int)+(1:Int))=cI (x':Int)/\True)/\([]:List pq)=[]/\l.length - x' < l.length - x_1)) (qI (Ai l x) (-1:Int)):=by
 conv=>zeta
 delta pq cI qI iR;refine⟨⟨0,⟨by omega,λj hj=>by omega⟩,⟨rfl,trivial⟩,rfl⟩,λk hk=>aA.2 ⟨λh=>?_,λh=>?_⟩⟩
 .simp only[jB]at h;have hp:l.length<=4611686018427387904:=bD;refine⟨by omega,λd hd=>?_⟩
  have hd:l[k]?=some d:=by simpa using hd
  refine aA.2 ⟨λhe=>?_,λhe=>⟨aX.2 (by omega),k+1,⟨by omega,λj hj y hy=>?_⟩,⟨rfl,trivial⟩,rfl,by omega⟩⟩
  .have he:x=d:=by simpa using he
   rw[Iz (by rw[hd,he]) hk.2];exact⟨rfl,rfl⟩
  .by_cases kJ:j=k
   .subst kJ;rw[hd]at hy;cases hy;intro hh;simp[hh]at he
   .exact hk.2 j (by omega) y hy
 .simp only[qx]at h;rw[MW (λj y hy=>hk.2 j (by have:=(fM.1 hy).1;omega) y hy)];exact⟨rfl,rfl⟩
theorem Vf:dA cZ.gd 52 QA:=
 rH (cx:=cZ) (n:=19) (cl:=[]) aO trivial Tryd.func52 λd hd=>by
  obtain⟨l,x,⟨⟩⟩:=d;exact⟨ab8 l x,cast (by kernel_rfl) (Zt l x hd)⟩
theorem QB(l:List Int) (x:Int):lC l x=decide (0<=Ai l x):=by
 have h:=List.findIdx?_isSome (xs:=l) (p:=λy=>decide (y=x))
 unfold lC Ai;rw[<-h];cases l.findIdx? (λy=>decide (y=x)) with
 | none=>rfl
 | some k=>simp
abbrev QC:CT:={ ps:=[.sl (.int .i64),.int .i64],pre:=λd=>d.1.length<=4611686018427387904,res:=λd=>([],vB (lC d.1 d.2.1)) }
theorem Zu(l:List Int) (x:Int) (bD:QC.pre (l,x,())):
 l.length<=4611686018427387904/\qB (lC l x) (decide (0<=Ai l x)):=by
 delta qB;refine⟨bD,rfl,?_⟩;rw[QB]
theorem Vg:dA cZ.gd 42 QC:=
 rH (cx:=cZ) (n:=9) (cl:=[(52,QA)]) aO ⟨Vf,trivial⟩ Tryd.func42 λd hd=>by
  obtain⟨l,x,⟨⟩⟩:=d;exact⟨λ_=>none,cast (by kernel_rfl) (Zu l x hd)⟩
theorem MX(l:List Int):(gW l).length=l.length:=by simp[gW]
theorem Zv:J5 Tryd.prog cZ.gd 50 zH:=⟨MQ Kq.1 rfl (λblk cap zs w hH hb hz=>Tryd.slices_Sort_int blk 0 cap zs w hH hb hz),Kq.2⟩
theorem Zw:J5 Tryd.prog cZ.gd 51 wB:=⟨DZ (λa cap w=>Tryd.slices_Compact_int_empty a cap w) (λblk cap zs w hH h1 h2=>Tryd.slices_Compact_int blk 0 cap zs w hH h1 h2),⟨_,Tryd.func51,rfl,by kernel_rfl⟩⟩
abbrev zK:CT:={ ps:=[.sl (.int .i64)],pre:=λd=>d.1.length<=1000000,res:=λd=>([.row 3 (.int .i64) (ig d.1)],.one (.c (.row 0))) }
abbrev ad8:List (Nat×IP):=[(50,zH),(51,wB)]
theorem Zx(l:List Int) (bD:zK.pre (l,())):
 l.length<=(1000000:Nat)/\List.length (l) < (4611686018427387904:Nat)/\List.length (gW (l)) < (4611686018427387904:Nat)/\[ay.row (3:TypeId) Ve (ig l)]=[ay.row (3:TypeId) Ve (Lib.compact (gW (l)))]/\bK.one Qz=bK.one Qz:=by
 delta Ve Qz;have hp:l.length<=1000000:=bD;exact⟨hp,by omega,by rw[MX];omega,by rw[U8],rfl⟩
theorem Vh:dA cZ.gd 40 zK:=
 sV (il:=ad8) (rc:=[]) (cx:=cZ) (n:=10) (cl:=[(41,xO)]) (by kernel_rfl) aO ⟨Kr,trivial⟩ ⟨Zv,Zw,trivial⟩ Tryd.func40 (by kernel_rfl) (by kernel_rfl) rfl (by kernel_rfl) (by kernel_rfl) λd hd=>by
  obtain⟨l,⟨⟩⟩:=d;exact⟨λ_=>none,cast (by kernel_rfl) (Zx l hd)⟩
abbrev QD:CT:={ ps:=[.sl (.int .i64),.int .i64],pre:=λd=>d.1.length<=1000000,res:=λd=>([],vB (lC d.1 d.2.1)) }
theorem Zy(l:List Int) (x:Int) (bD:QD.pre (l,x,())):
 l.length<=4611686018427387904/\qB (lC l x) (lC l x):=by
 delta qB;have hp:l.length<=1000000:=bD;exact⟨by omega,rfl,rfl⟩
theorem Vj:dA cZ.gd 33 QD:=
 rH (cx:=cZ) (n:=8) (cl:=[(42,QC)]) aO ⟨Vg,trivial⟩ Tryd.func33 λd hd=>by
  obtain⟨l,x,⟨⟩⟩:=d;exact⟨λ_=>none,cast (by kernel_rfl) (Zy l x hd)⟩
abbrev WV:CT:={ ps:=[.sl (.int .i64),.int .i64],pre:=λd=>d.1.length<=999999,res:=λd=>([.row 3 (.int .i64) (ig (d.1++[d.2.1]))],.one (.c (.row 0))) }
theorem Zz(l:List Int) (x:Int) (bD:WV.pre (l,x,())):
 let z1:=[ay.row (3:TypeId) Ve (ig (l++[x]))];l.length<=(1000000:Nat)/\jK (List.length (l)+List.length ([x])) (8:Nat)/\List.length (l++[x])<=(1000000:Nat)/\z1=z1/\bK.one Qz=bK.one Qz:=by
 conv=>zeta
 delta Ve Qz;have hp:l.length<=999999:=bD;refine⟨by omega,?_,?_,rfl,rfl⟩
 .rw[iM];simp;omega
 .simp;omega
theorem Vk:dA cZ.gd 32 WV:=
 rH (cx:=cZ) (n:=11) (cl:=[(41,xO),(40,zK)]) aO ⟨Kr,Vh,trivial⟩ Tryd.func32 λd hd=>by
  obtain⟨l,x,⟨⟩⟩:=d;exact⟨λ_=>none,cast (by kernel_rfl) (Zz l x hd)⟩
abbrev ku:Sh:=.pair .str (.pair (.int .i64) .unit)
abbrev iH:Sh:=.pair .str (.pair (.sl iD) .unit)
abbrev eU:Sh:=.pair (.int .i64) (.pair (.int .i64) .unit)
abbrev wU:Sh:=.pair (.sl ku) (.pair (.sl .str) (.pair (.sl .str) (.pair (.sl iH) (.pair (.sl eU) .unit))))
abbrev ID:=Int×Int×Int×Int×Int×Int×Int×Int×Unit
abbrev VD:=ByteArray×Int×Unit
variable {vs:List VD}
abbrev FD:=ByteArray×List ID×Unit
variable {fs:List FD}
abbrev SD:=Int×Int×Unit
abbrev PD:=List VD×List ByteArray×List ByteArray×List FD×List SD×Unit
def rM(f:Nat) (x:FD):List (bg [eU,iD]):=x.2.1.zipIdx.map λp=>(((f:Int),(p.2:Int),()),p.1,())
def jT:Nat->List FD->List (bg [eU,iD])
 | _,[]=>[]
 | n,x :: l=>rM n x++jT (n+1) l
def aT(fs:List FD):List (bg [eU,iD]):=jT 0 fs
theorem qR(f:Nat) (x:FD):(rM f x).length=x.2.1.length:=by simp[rM]
theorem MZ{f:Nat}{x:FD}{j:Nat}{e:ID} (h:x.2.1[j]?=some e):(rM f x)[j]?=some (((f:Int),(j:Int),()),e,()):=by
 unfold rM;rw[Ef,List.getElem?_zipIdx,h];simp
theorem oI:∀(l m:List FD) (n:Nat),jT n (l++m)=jT n l++jT (n+l.length) m
 | [],m,n=>by simp[jT]
 | x :: l,m,n=>by
   simp only[List.cons_append,jT,oI l m,Am,Aq];rw[show n+1+l.length=n+(l.length+1) by omega]
theorem BI{d:FD} (h:fs[k]?=some d):aT fs=aT (fs.take k)++(rM k d++jT (k+1) (fs.drop (k+1))):=by
 have hk:k < fs.length:=(fM.1 h).1;have e:fs=fs.take k++(d :: fs.drop (k+1)):=by
  have h2:=List.drop_eq_getElem_cons hk;rw[(fM.1 h).2]at h2;rw[<-h2,Rt]
 unfold aT
 conv=>lhs;rw[e]
 rw[oI];rw[show 0+(fs.take k).length=k by simp;omega]
 rfl
theorem zL{d:FD} (h:fs[k]?=some d):aT (fs.take (k+1))=aT (fs.take k)++rM k d:=by
 have hk:k < fs.length:=(fM.1 h).1;rw[A96,h];unfold aT;rw[oI];rw[show 0+(fs.take k).length=k by simp;omega]
 simp[jT]
theorem Na{j:Nat}{d:FD}{e:ID} (h:fs[k]?=some d) (h2:d.2.1[j]?=some e):(aT fs)[(aT (fs.take k)).length+j]?=some (((k:Int),(j:Int),()),e,()):=by
 have hj:j < d.2.1.length:=(fM.1 h2).1;rw[BI h,Gp (by omega),Nq (by rw[qR];omega)]
 rw[show(aT (fs.take k)).length+j - (aT (fs.take k)).length=j by omega]
 exact MZ h2
noncomputable abbrev ZA:MK:={ ss:=[wU],f:=λd=>.seq Tryd.prog [eU,iD] (aT d.1.2.2.2.1),pre:=λd=>d.1.2.2.2.1.length<=1000000/\∀x∈d.1.2.2.2.1,x.2.1.length<=1000000 }
abbrev ad9:List (Nat×CT):=[]
abbrev ab9(vs:List VD) (ms cs:List ByteArray) (fs:List FD) (ts:List SD):Nat->Option (St->oO):=λk=>match k with
 | 1=>some λ_=>.gen { α:=Nat,slots:=λk=>[(10,.c (.v (.int .i64 k)))],res:=λ_=>[],inv:=λk=>k<=fs.length,meas:=λk=>fs.length - k } λk=>(aT (fs.take k)).length
 | 4=>some λs=>.gen { α:=Nat,slots:=λk=>[(18,.c (.v (.int .i64 k)))],res:=λ_=>[],inv:=λk=>k<=(slotL iD s 16).length,meas:=λk=>(slotL iD s 16).length - k } λk=>(aT (fs.take (abq s 10).toNat)).length+k
 | _=>none
abbrev hlN:List (Nat×Nat×CT):=[]
abbrev mlN:List (Nat×MK):=[]
theorem ZB(vs:List VD) (ms cs:List ByteArray) (fs:List FD) (ts:List SD) (l:Nat) (bD:ZA.pre ((vs,ms,cs,fs,ts,()),())):
 let z2:=λ(x:Nat)=>aT (List.take x fs);let z1:=λ(x:Nat)=>aT (List.take (x:Int).toNat fs);let z3:=λ(x_1:Nat)=>(x_1:Int)+(1:Int);(∃x,x<=fs.length/\(z2 x).length=0/\(cI 0=cI (x:Int)/\True)/\([]:List pq)=[])/\∀(x:Nat),x<=fs.length->br (decide ((x:Int) < (fs.length:Int))) ((0<=(x:Int)/\(x:Int) < (fs.length:Int))/\∀(d:ByteArray×(iD.sl.pair Sh.unit).den),fs[(x:Int).toNat]?=some d->(∃x_1,x_1<=List.length (d.snd.fst)/\(z1 x).length+x_1=(z2 x).length/\(cI 0=cI (x_1:Int)/\True)/\sm [g0 (ay.blk 35 [SC.v (Value.string d.fst),SC.sl iD d.snd.fst])])/\∀(x_1:Nat),x_1<=List.length (d.snd.fst)->br (decide ((x_1:Int) < ((List.length d.snd.fst):Int))) ((0<=(x_1:Int)/\(x_1:Int) < ((List.length d.snd.fst):Int))/\∀(bV:ID),d.snd.fst[(x_1:Int).toNat]?=some bV->l=l/\(aT fs)[(z1 x).length+x_1]?=some (((x:Int),(x_1:Int),()),bV,())/\(iR (z3 x_1)/\∃x',x'<=List.length (d.snd.fst)/\(z1 x).length+x'=(z1 x).length+x_1+1/\(cI (z3 x_1)=cI (x':Int)/\True)/\sm [g0 (ay.blk 35 [SC.v (Value.string d.fst),SC.sl iD d.snd.fst])]/\List.length (d.snd.fst) - x' < List.length (d.snd.fst) - x_1)/\True) (iR (z3 x)/\∃x',x'<=fs.length/\(z2 x').length=(z1 x).length+x_1/\(cI (z3 x)=cI (x':Int)/\True)/\([]:List pq)=[]/\fs.length - x' < fs.length - x)) ((z2 x).length=aC (aT fs)):=by
 conv=>zeta
 delta pq cI g0 sm I6 iR;have hp1:fs.length<=1000000:=bD.1;have hp2:∀x∈fs,x.2.1.length<=1000000:=bD.2;refine⟨⟨0,by omega,by simp[aT,jT],⟨rfl,trivial⟩,rfl⟩,λx hx=>aA.2 ⟨λh=>?_,λh=>?_⟩⟩
 .simp only[jB]at h;have hN:(x:Int).toNat=x:=by omega
  rw[hN];refine⟨by omega,λd hd=>?_⟩
  have hd:fs[x]?=some d:=by simpa using hd
  have hst:=zL hd;refine⟨⟨0,BU _,by omega,⟨rfl,trivial⟩,rfl⟩,λy hy=>aA.2 ⟨λh2=>?_,λh2=>?_⟩⟩
  .simp only[jB]at h2;refine⟨by omega,λe he=>?_⟩
   have he:d.2.1[y]?=some e:=by simpa using he
   refine⟨rfl,Na hd he,⟨?_,y+1,?_,?_,⟨rfl,trivial⟩,rfl,?_⟩,trivial⟩
   .have:=hp2 d (lI hd);exact aX.2 (by omega)
   .omega
   .omega
   .omega
  .simp only[qx]at h2;refine⟨aX.2 (by omega),x+1,by omega,?_,⟨rfl,trivial⟩,rfl,by omega⟩
   have hq:=hp2 d (lI hd);have hy:y=d.2.1.length:=by omega
   rw[hst,jA,qR,hy]
 .simp only[qx]at h;rw[Gh (by omega),aK]
theorem ZC:YB Tryd.prog cZ.gd 39 ZA:=by
 intro d h lb hd hg cap;obtain⟨⟨vs,ms,cs,fs,ts,⟨⟩⟩,⟨⟩⟩:=d;exact Qa (E:=P6 Tryd.prog cZ 32 ad9 Qy hlN mlN [] [] λ_=>none) (J6 (by kernel_rfl) aO trivial trivial trivial trivial) rfl Tryd.func39 (body:=lu Tryd.f39) (by kernel_rfl) (by kernel_rfl) rfl rfl rfl rfl ⟨ab9 vs ms cs fs ts,λl=>cast (by kernel_rfl) (ZB vs ms cs fs ts l hd)⟩ hg cap
noncomputable abbrev uZ:CT:={ ps:=[wU],pre:=λd=>d.1.2.2.2.1.length<=1000000/\∀x∈d.1.2.2.2.1,x.2.1.length<=1000000,res:=λd=>([],.one (.c (.abs (.seq Tryd.prog [eU,iD] (aT d.1.2.2.2.1))))) }
noncomputable abbrev aea:List (Nat×MK):=[(39,ZA)]
theorem ZE(vs:List VD) (ms cs:List ByteArray) (fs:List FD) (ts:List SD) (bD:uZ.pre ((vs,ms,cs,fs,ts,()),())):
 let z1:=bK.one (SV.c (SC.abs (Au.seq Tryd.prog [I6.pair (I6.pair Sh.unit),I6.pair (I6.pair (I6.pair (I6.pair (I6.pair (I6.pair eU)))))] (aT fs))));(fs.length<=1000000/\∀(x:ByteArray×(iD.sl.pair Sh.unit).den),x∈fs->List.length x.snd.fst<=1000000)/\rE z1 z1:=by
 conv=>zeta
 delta rE I6;exact⟨bD,rfl,rfl⟩
theorem D7:dA cZ.gd 31 uZ:=
 (uV (cx:=cZ) (n:=4) (cl:=[]) (il:=Qy) (hl:=hlN) (ml:=aea) (rc:=[]) (lits:=[]) (suf:=[]) (by kernel_rfl) aO trivial trivial trivial ⟨ZC,trivial⟩ Tryd.func31 (by kernel_rfl) (by kernel_rfl) rfl (by kernel_rfl) (by kernel_rfl) (by simp) λd hd=>by
  obtain⟨⟨vs,ms,cs,fs,ts,⟨⟩⟩,⟨⟩⟩:=d;exact⟨λ_=>none,cast (by kernel_rfl) (ZE vs ms cs fs ts hd)⟩).met
abbrev sZ:CT:={ ps:=[wU],pre:=λd=>(aT d.1.2.2.2.1).length<=1000000/\d.1.2.2.2.1.length<=1000000/\∀x∈d.1.2.2.2.1,x.2.1.length<=1000000,res:=λd=>([],.one (.c (.v (.int .i64 (((aT d.1.2.2.2.1).length:Int)))))) }
def wC(c:Int):Bool:=decide (97<=c/\c<=122\/65<=c/\c<=90)
abbrev WW:CT:={ ps:=[.int .u8],pre:=λd=>True,res:=λd=>([],vB (wC d.1)) }
theorem ZF(c:Int):
 qB (wC c) (decide (97<=c) && decide (c<=122) || decide (65<=c) && decide (c<=90)):=by
 delta qB;refine⟨rfl,?_⟩;rw[show wC c=(decide (97<=c) && decide (c<=122) || decide (65<=c) && decide (c<=90)) by unfold wC;rw[Xf];simp]
theorem Vl:dA cZ.gd 38 WW:=
 rH (cx:=cZ) (n:=17) (cl:=[]) aO trivial Tryd.func38 λd hd=>by
  obtain⟨c,⟨⟩⟩:=d;exact⟨λ_=>none,cast (by kernel_rfl) (ZF c)⟩
def vg(n:Int):Bool:=decide (-2147483648<=n/\n<=2147483647)
abbrev QE:CT:={ ps:=[.int .i64],pre:=λd=>True,res:=λd=>([],vB (vg d.1)) }
theorem ZG(n:Int):
 qB (vg n) (decide ((-2147483648)<=n) && decide (n<=2147483647)):=by
 delta qB;refine⟨rfl,?_⟩;rw[show vg n=(decide (-2147483648<=n) && decide (n<=2147483647)) by unfold vg;rw[Xf];simp]
theorem Kt:dA cZ.gd 46 QE:=
 rH (cx:=cZ) (n:=9) (cl:=[]) aO trivial Tryd.func46 λd hd=>by
  obtain⟨n,⟨⟩⟩:=d;exact⟨λ_=>none,cast (by kernel_rfl) (ZG n)⟩
def QF(m b:Int):Int:=if m≠1/\m≠2/\m≠3 then 18 else if b < 1\/32 < b then 2 else 0
abbrev WX:CT:={ ps:=[eU],pre:=λd=>True,res:=λd=>([],.one (.c (.v (.int .i64 (QF d.1.1 d.1.2.1))))) }
def Aj(vs:List VD) (ms cs:List ByteArray) (fs:List FD) (op:Int):Int:=
 if op=8\/op=9\/op=10\/op=11\/op=12\/op=14 then vs.length else if op=15\/op=16\/op=17 then ms.length else if op=18\/op=19\/op=20 then cs.length else if op=21 then fs.length else -1
abbrev WY:CT:={ ps:=[wU,.int .i64],pre:=λd=>True,res:=λd=>([],.one (.c (.v (.int .i64 (Aj d.1.1 d.1.2.1 d.1.2.2.1 d.1.2.2.2.1 d.2.1))))) }
theorem ZH(vs:List VD) (ms cs:List ByteArray) (fs:List FD) (ts:List SD) (op:Int):
 let z7:=Aj vs ms cs fs op;let z4:=qI z7 (vs.length:Int);let z5:=qI z7 (ms.length:Int);let z6:=qI z7 (cs.length:Int);let z3:=br (decide (op=21)) (qI z7 (fs.length:Int)) (qI z7 (-1:Int));let z2:=br (decide (op=18)) (br (decide (op=18)) z6 z3) (br (decide (op=19)) (br (decide (op=19)) z6 z3) (br (decide (op=20)) z6 z3));let z1:=br (decide (op=15)) (br (decide (op=15)) z5 z2) (br (decide (op=16)) (br (decide (op=16)) z5 z2) (br (decide (op=17)) z5 z2));br (decide (op=8)) (br (decide (op=8)) z4 z1) (br (decide (op=9)) (br (decide (op=9)) z4 z1) (br (decide (op=10)) (br (decide (op=10)) z4 z1) (br (decide (op=11)) (br (decide (op=11)) z4 z1) (br (decide (op=12)) (br (decide (op=12)) z4 z1) (br (decide (op=14)) z4 z1))))):=by
 conv=>zeta
 delta qI;unfold Aj;simp only[aA]
 repeat' (first | (refine And.intro ?_ ?_) | (intro _))
 all_goals first | rfl | (simp_all;done) | (simp_all;omega) | grind
theorem Vm:dA cZ.gd 55 WY:=
 rH (cx:=cZ) (n:=35) (cl:=[]) aO trivial Tryd.func55 λd hd=>by
  obtain⟨⟨vs,ms,cs,fs,ts,⟨⟩⟩,op,⟨⟩⟩:=d;exact⟨λ_=>none,cast (by kernel_rfl) (ZH vs ms cs fs ts op)⟩
def jD(vs:List VD):List ByteArray:=vs.map λv=>v.1
def nT(fs:List FD):List ByteArray:=fs.map λf=>f.1
abbrev IB:CT:={ ps:=[wU],pre:=λd=>d.1.1.length<=1000000,res:=λd=>([.row 9 .str (jD d.1.1)],.one (.c (.row 0))) }
abbrev ace(vs:List VD) (ms cs:List ByteArray) (fs:List FD) (ts:List SD):Nat->Option (St->oO):=λk=>match k with
 | 3=>some λ_=>.inv { α:=Nat,slots:=λk=>[(9,.c (.v (.int .i64 k))),(3,.c (.row 1))],res:=λk=>[(1,.row 9 .str (jD (vs.take k)))],inv:=λk=>k<=(vs).length,meas:=λk=>(vs).length - k,nil:=[(3,9,.str)] }
 | _=>none
theorem ZI(vs:List VD) (ms cs:List ByteArray) (fs:List FD) (ts:List SD) (bD:IB.pre ((vs,ms,cs,fs,ts,()),())):
 let z2:=[SC.sl ku vs,SC.sl Sh.str ms,SC.sl Sh.str cs,SC.sl iH fs,SC.sl eU ts];let z1:=λ(x:Nat)=>[g0 (ay.blk 27 z2),g0 (ay.row 9 Sh.str (jD (List.take x vs)))];(∃x,x<=vs.length/\(cI 0=cI (x:Int)/\SV.c (SC.row (Nat.succ 0))=SV.c (SC.row 1)/\True)/\[g0 (ay.blk 27 z2),g0 (ay.row 9 Sh.str [])]=(z1 x))/\∀(x:Nat),x<=vs.length->br (decide ((x:Int) < (vs.length:Int))) ((0<=(x:Int)/\(x:Int) < (vs.length:Int))/\∀(d:ByteArray×(I6.pair Sh.unit).den),vs[(x:Int).toNat]?=some d->jK (List.length (jD (List.take x vs))+List.length ([d.fst])) 16/\iR ((x:Int)+(1:Int))/\∃x',x'<=vs.length/\(cI ((x:Int)+(1:Int))=cI (x':Int)/\SV.c (SC.row 1)=SV.c (SC.row 1)/\True)/\[g0 (ay.blk 27 z2),g0 (ay.row 9 Sh.str (jD (List.take x vs)++[d.fst]))]=(z1 x')/\vs.length - x' < vs.length - x) ([ay.row 9 Sh.str (jD vs)]=[ay.row 9 Sh.str (jD (List.take x vs))]/\bK.one (SV.c (SC.row 0))=bK.one (SV.c (SC.row 0))):=by
 conv=>zeta
 delta cI g0 I6 iR;have hp:(vs).length<=1000000:=bD;refine⟨⟨0,by omega,⟨rfl,rfl,trivial⟩,rfl⟩,λk hk=>aA.2 ⟨λh=>?_,λh=>?_⟩⟩
 .simp only[jB]at h;refine⟨by omega,λd hd=>?_⟩
  have hd:(vs)[k]?=some d:=by simpa using hd
  have e:jD ((vs).take (k+1))=jD ((vs).take k)++[d.1]:=by
   unfold jD;rw[A96,hd];simp
  refine⟨?_,aX.2 (by omega),k+1,by omega,⟨rfl,rfl,trivial⟩,?_,by omega⟩
  .have:(jD ((vs).take k)).length<=1000000:=by simp[jD];omega
   exact iM.2 (by simp only[Aq,Rx];omega)
  .rw[e]
 .simp only[qx]at h;rw[Gh (by omega)];exact⟨rfl,rfl⟩
theorem Vo:dA cZ.gd 43 IB:=
 rH (cx:=cZ) (n:=20) (cl:=[]) aO trivial Tryd.func43 λd hd=>by
  obtain⟨⟨vs,ms,cs,fs,ts,⟨⟩⟩,⟨⟩⟩:=d;exact⟨ace vs ms cs fs ts,cast (by kernel_rfl) (ZI vs ms cs fs ts hd)⟩
abbrev IC:CT:={ ps:=[wU],pre:=λd=>d.1.2.2.2.1.length<=1000000,res:=λd=>([.row 9 .str (nT d.1.2.2.2.1)],.one (.c (.row 0))) }
abbrev acf(vs:List VD) (ms cs:List ByteArray) (fs:List FD) (ts:List SD):Nat->Option (St->oO):=λk=>match k with
 | 3=>some λ_=>.inv { α:=Nat,slots:=λk=>[(9,.c (.v (.int .i64 k))),(3,.c (.row 1))],res:=λk=>[(1,.row 9 .str (nT (fs.take k)))],inv:=λk=>k<=(fs).length,meas:=λk=>(fs).length - k,nil:=[(3,9,.str)] }
 | _=>none
theorem ZJ(vs:List VD) (ms cs:List ByteArray) (fs:List FD) (ts:List SD) (bD:IC.pre ((vs,ms,cs,fs,ts,()),())):
 let z2:=[SC.sl ku vs,SC.sl Sh.str ms,SC.sl Sh.str cs,SC.sl iH fs,SC.sl eU ts];let z1:=λ(x:Nat)=>[g0 (ay.blk 27 z2),g0 (ay.row 9 Sh.str (nT (List.take x fs)))];(∃x,x<=fs.length/\(cI 0=cI (x:Int)/\SV.c (SC.row (Nat.succ 0))=SV.c (SC.row 1)/\True)/\[g0 (ay.blk 27 z2),g0 (ay.row 9 Sh.str [])]=(z1 x))/\∀(x:Nat),x<=fs.length->br (decide ((x:Int) < (fs.length:Int))) ((0<=(x:Int)/\(x:Int) < (fs.length:Int))/\∀(d:ByteArray×(iD.sl.pair Sh.unit).den),fs[(x:Int).toNat]?=some d->jK (List.length (nT (List.take x fs))+List.length ([d.fst])) 16/\iR ((x:Int)+(1:Int))/\∃x',x'<=fs.length/\(cI ((x:Int)+(1:Int))=cI (x':Int)/\SV.c (SC.row 1)=SV.c (SC.row 1)/\True)/\[g0 (ay.blk 27 z2),g0 (ay.row 9 Sh.str (nT (List.take x fs)++[d.fst]))]=(z1 x')/\fs.length - x' < fs.length - x) ([ay.row 9 Sh.str (nT fs)]=[ay.row 9 Sh.str (nT (List.take x fs))]/\bK.one (SV.c (SC.row 0))=bK.one (SV.c (SC.row 0))):=by
 conv=>zeta
 delta cI g0 I6 iR;have hp:(fs).length<=1000000:=bD;refine⟨⟨0,by omega,⟨rfl,rfl,trivial⟩,rfl⟩,λk hk=>aA.2 ⟨λh=>?_,λh=>?_⟩⟩
 .simp only[jB]at h;refine⟨by omega,λd hd=>?_⟩
  have hd:(fs)[k]?=some d:=by simpa using hd
  have e:nT ((fs).take (k+1))=nT ((fs).take k)++[d.1]:=by
   unfold nT;rw[A96,hd];simp
  refine⟨?_,aX.2 (by omega),k+1,by omega,⟨rfl,rfl,trivial⟩,?_,by omega⟩
  .have:(nT ((fs).take k)).length<=1000000:=by simp[nT];omega
   exact iM.2 (by simp only[Aq,Rx];omega)
  .rw[e]
 .simp only[qx]at h;rw[Gh (by omega)];exact⟨rfl,rfl⟩
theorem Vp:dA cZ.gd 45 IC:=
 rH (cx:=cZ) (n:=20) (cl:=[]) aO trivial Tryd.func45 λd hd=>by
  obtain⟨⟨vs,ms,cs,fs,ts,⟨⟩⟩,⟨⟩⟩:=d;exact⟨acf vs ms cs fs ts,cast (by kernel_rfl) (ZJ vs ms cs fs ts hd)⟩
def Ak(l:List ByteArray) (x:ByteArray):Int:=match l.findIdx? (λy=>decide (y=x)) with | some k=>(k:Int) | none=>-1
theorem IE{x:ByteArray} (hd:l[k]?=some x) (hn:∀j < k,∀y,l[j]?=some y->y≠x):Ak l x=k:=by
 have gX:k < l.length:=(fM.1 hd).1;have:l.findIdx? (λy=>decide (y=x))=some k:=by
  rw[A97];refine⟨gX,by have:=(fM.1 hd).2;simp[this],λj hj=>?_⟩
  have:=hn j hj l[j] (lH (by omega))
  simpa using this
 simp[Ak,this]
theorem Nb{x:ByteArray} (hn:∀(j:Nat) y,l[j]?=some y->y≠x):Ak l x = -1:=by
 have:l.findIdx? (λy=>decide (y=x))=none:=by
  rw[Xi];intro y hy;obtain⟨j,hj⟩:=RP hy;simpa using hn j y hj
 simp[Ak,this]
abbrev IG:CT:={ ps:=[.sl .str,.str],pre:=λd=>d.1.length<=1000000,res:=λd=>([],.one (.c (.v (.int .i64 (Ak d.1 d.2.1))))) }
abbrev acg(l:List ByteArray) (x:ByteArray):Nat->Option (St->oO):=λk=>match k with
 | 2=>some λ_=>.inv { α:=Nat,slots:=λk=>[(8,.c (.v (.int .i64 k)))],res:=λk=>[],inv:=λk=>k<=(l).length/\∀j < k,∀y,l[j]?=some y->y≠x,meas:=λk=>(l).length - k }
 | _=>none
theorem ZK(l:List ByteArray) (x:ByteArray) (bD:IG.pre (l,x,())):
 let z1:=λ(x_1:Nat)=>(x_1<=l.length/\∀(j:Nat),j < x_1->∀(y:ByteArray),l[j]?=some y->y≠x);(∃x_1,(z1 x_1)/\(cI 0=cI (x_1:Int)/\True)/\([]:List pq)=[])/\∀(x_1:Nat),(z1 x_1)->br (decide ((x_1:Int) < (l.length:Int))) ((0<=(x_1:Int)/\(x_1:Int) < (l.length:Int))/\∀(d:ByteArray),l[(x_1:Int).toNat]?=some d->br (decide (x=d)) (qI (Ak l x) (x_1:Int)) (iR ((x_1:Int)+(1:Int))/\∃x',(x'<=l.length/\∀(j:Nat),j < x'->∀(y:ByteArray),l[j]?=some y->y≠x)/\(cI ((x_1:Int)+(1:Int))=cI (x':Int)/\True)/\([]:List pq)=[]/\l.length - x' < l.length - x_1)) (qI (Ak l x) (-1:Int)):=by
 conv=>zeta
 delta pq cI qI iR;refine⟨⟨0,⟨by omega,λj hj=>by omega⟩,⟨rfl,trivial⟩,rfl⟩,λk hk=>aA.2 ⟨λh=>?_,λh=>?_⟩⟩
 .simp only[jB]at h;have hp:l.length<=1000000:=bD;refine⟨by omega,λd hd=>?_⟩
  have hd:l[k]?=some d:=by simpa using hd
  refine aA.2 ⟨λhe=>?_,λhe=>⟨aX.2 (by omega),k+1,⟨by omega,λj hj y hy=>?_⟩,⟨rfl,trivial⟩,rfl,by omega⟩⟩
  .have he:x=d:=by simpa using he
   rw[IE (by rw[hd,he]) hk.2];exact⟨rfl,rfl⟩
  .by_cases kJ:j=k
   .subst kJ;rw[hd]at hy;cases hy;intro hh;simp[hh]at he
   .exact hk.2 j (by omega) y hy
 .simp only[qx]at h;rw[Nb (λj y hy=>hk.2 j (by have:=(fM.1 hy).1;omega) y hy)];exact⟨rfl,rfl⟩
theorem Vq:dA cZ.gd 58 IG:=
 rH (cx:=cZ) (n:=19) (cl:=[]) aO trivial Tryd.func58 λd hd=>by
  obtain⟨l,x,⟨⟩⟩:=d;exact⟨acg l x,cast (by kernel_rfl) (ZK l x hd)⟩
def vk(l:List ByteArray) (x:ByteArray):Bool:=l.any λy=>decide (y=x)
theorem QG(l:List ByteArray) (x:ByteArray):vk l x=decide (0<=Ak l x):=by
 have h:=List.findIdx?_isSome (xs:=l) (p:=λy=>decide (y=x))
 unfold vk Ak;rw[<-h];cases l.findIdx? (λy=>decide (y=x)) with
 | none=>rfl
 | some k=>simp
abbrev II:CT:={ ps:=[.sl .str,.str],pre:=λd=>d.1.length<=1000000,res:=λd=>([],vB (vk d.1 d.2.1)) }
theorem ZL(l:List ByteArray) (x:ByteArray) (bD:II.pre (l,x,())):
 l.length<=1000000/\qB (vk l x) (decide (0<=Ak l x)):=by
 delta qB;refine⟨bD,rfl,?_⟩;rw[QG]
theorem Vr:dA cZ.gd 53 II:=
 rH (cx:=cZ) (n:=9) (cl:=[(58,IG)]) aO ⟨Vq,trivial⟩ Tryd.func53 λd hd=>by
  obtain⟨l,x,⟨⟩⟩:=d;exact⟨λ_=>none,cast (by kernel_rfl) (ZL l x hd)⟩
def QH(s:ByteArray) (i:Nat):Int:=match s[i]? with | some u=>(u.toNat:Int) | none=>0
theorem IJ{s:ByteArray}{i:Nat}{u:UInt8} (h:s[i]?=some u):QH s i=u.toNat:=by simp[QH,h]
def okB(c:Int):Bool:=wC c || decide (c=95) || decide (48<=c/\c<=57)
def dX(s:ByteArray):Bool:=decide (1<=s.size/\s.size<=16) && wC (QH s 0) && (List.range s.size).all λi=>okB (QH s i)
abbrev ZM:CT:={ ps:=[.str],pre:=λd=>True,res:=λd=>([],vB (dX d.1)) }
abbrev ach(s:ByteArray):Nat->Option (St->oO):=λk=>match k with
 | 4=>some λ_=>.inv { α:=Nat,slots:=λk=>[(20,.c (.v (.int .i64 k)))],res:=λk=>[],inv:=λk=>k<=((List.range s.size)).length/\∀j < k,okB (QH s j)=true,meas:=λk=>((List.range s.size)).length - k }
 | _=>none
theorem ZN(s:ByteArray):
 let z5:=(s.size:Int) < (1:Int);let z3:=!(decide z5 || decide (16 < (s.size:Int)));let z6:=List.range s.size;let z2:=λ(x:Nat)=>(x<=z6.length/\∀(j:Nat),j < x->okB (QH s j)=true);let z4:=λ(u u_1:UInt8)=>!wC (u.toNat:Int) && !decide ((u_1.toNat:Int)=(95:Int));let z1:=λ(u_2 u u_1:UInt8)=>!decide ((u_2.toNat:Int) < (48:Int)) && (z4 u u_1);(z3=true->(0:Int)<=(0:Int)/\0 < (s.size:Int))/\∀(u:UInt8),(z3=true->s[0]?=some u)->(z3=true->True)/\br (decide z5 || decide (16 < (s.size:Int)) || !wC (u.toNat:Int)) (qB (dX s) false) ((∃x,(z2 x)/\(cI 0=cI (x:Int)/\True)/\([]:List pq)=[])/\∀(x:Nat),(z2 x)->br (decide ((x:Int) < (s.size:Int))) ((0<=(x:Int)/\(x:Int) < (s.size:Int))/\∀(u:UInt8),s[(x:Int).toNat]?=some u->True/\((!wC (u.toNat:Int))=true->0<=(x:Int)/\(x:Int) < (s.size:Int))/\∀(u_1:UInt8),((!wC (u.toNat:Int))=true->s[(x:Int).toNat]?=some u_1)->((z4 u u_1)=true->0<=(x:Int)/\(x:Int) < (s.size:Int))/\∀(u_2:UInt8),((z4 u u_1)=true->s[(x:Int).toNat]?=some u_2)->((z1 u_2 u u_1)=true->0<=(x:Int)/\(x:Int) < (s.size:Int))/\∀(u_3:UInt8),((z1 u_2 u u_1)=true->s[(x:Int).toNat]?=some u_3)->br (!wC (u.toNat:Int) && !decide ((u_1.toNat:Int)=(95:Int)) && (decide ((u_2.toNat:Int) < (48:Int)) || decide (57 < (u_3.toNat:Int)))) (qB (dX s) false) (iR ((x:Int)+(1:Int))/\∃x',(z2 x')/\(cI ((x:Int)+(1:Int))=cI (x':Int)/\True)/\([]:List pq)=[]/\z6.length - x' < z6.length - x)) (qB (dX s) true)):=by
 conv=>zeta
 delta pq cI qB iR;have hs2:(!(decide ((s.size:Int) < (1:Int)) || decide ((16:Int) < (s.size:Int))))=true↔(1<=s.size/\s.size<=16):=by
  simp only[IY,xP,qx];omega
 refine⟨λh=>by have:=hs2.1 h;omega,λu hu=>⟨λ_=>trivial,aA.2 ⟨λh=>⟨rfl,?_⟩,λh=>?_⟩⟩⟩
 .have:dX s=false:=by
   unfold dX
   by_cases hs:1<=s.size/\s.size<=16
   .have e:=IJ (hu (hs2.2 hs));simp only[Ar,jB,IY]at h;have h0:wC (QH s 0)=false:=by
     rw[e];rcases h with(h | h) | h
     .omega
     .omega
     .exact h
    rw[h0];simp
   .rw[Nz hs];rfl
  rw[this]
 .simp only[xP,qx,Nr]at h;obtain⟨⟨h1,h2⟩,h3⟩:=h;have hs:1<=s.size/\s.size<=16:=by omega
  have e:=IJ (hu (hs2.2 hs));have hl:(List.range s.size).length=s.size:=List.length_range;rw[hl];refine⟨⟨0,⟨by omega,λj hj=>by omega⟩,⟨rfl,trivial⟩,rfl⟩,λk hk=>aA.2 ⟨λh=>?_,λh=>?_⟩⟩
  .simp only[jB]at h;have hN:(k:Int).toNat=k:=by omega
   rw[hN];refine⟨by omega,λv hv=>⟨trivial,λ_=>by omega,λv1 hv1=>⟨λ_=>by omega,λv2 hv2=>⟨λ_=>by omega,λv3 hv3=>?_⟩⟩⟩⟩
   have ev:=IJ hv;have bad:okB (QH s k)=false->dX s=false:=by
    intro hb;unfold dX;have:((List.range s.size).all λi=>okB (QH s i))=false:=by
     rw[List.all_eq_false];exact⟨k,by simp;omega,by rw[hb];simp⟩
    rw[this];simp
   have fin:okB (QH s k)=true->(InR IntKind.i64 ((k:Int)+1)/\∃x',(x'<=s.size/\∀(j:Nat),j < x'->okB (QH s j)=true)/\(SV.c (SC.v (Value.int IntKind.i64 ((k:Int)+1)))=SV.c (SC.v (Value.int IntKind.i64 (x':Int)))/\True)/\([]:List (Go.lZ.Gd×Go.lZ.ay))=[]/\s.size - x' < s.size - k):=λho=>
    ⟨aX.2 (by omega),k+1,⟨by omega,λj hj=>by
     by_cases kJ:j=k
     .rw[kJ];exact ho
     .exact hk.2 j (by omega)⟩,⟨rfl,trivial⟩,rfl,by omega⟩
   cases hA:wC (v.toNat:Int) with
   | true=>
     refine aA.2 ⟨λh=>by simp at h,λ_=>fin ?_⟩
     rw[ev];unfold okB;rw[hA];rfl
   | false=>
     have hv1:=hv1 (by rw[hA];rfl)
     rw[hv]at hv1;cases hv1
     by_cases h95:(v.toNat:Int)=95
     .refine aA.2 ⟨λh=>by simp[h95]at h,λ_=>fin ?_⟩
      rw[ev];unfold okB;simp[h95]
     .have hd95:decide ((v.toNat:Int)=95)=false:=Nz h95;have hv2:=hv2 (by rw[hA,hd95];rfl)
      rw[hv]at hv2;cases hv2
      by_cases h48:(v.toNat:Int) < 48
      .refine aA.2 ⟨λ_=>⟨rfl,?_⟩,λh=>by simp[h95,h48]at h⟩
       rw[bad (by rw[ev];unfold okB;rw[hA,hd95];simp;omega)]
      .have aeb:decide ((v.toNat:Int) < 48)=false:=Nz h48;have hv3:=hv3 (by rw[hA,hd95,aeb];rfl)
       rw[hv]at hv3;cases hv3
       by_cases h57:57 < (v.toNat:Int)
       .refine aA.2 ⟨λ_=>⟨rfl,?_⟩,λh=>by simp[h95,h57]at h⟩
        rw[bad (by rw[ev];unfold okB;rw[hA,hd95];simp;omega)]
       .refine aA.2 ⟨λh=>by simp[h95,h48,h57]at h,λ_=>fin ?_⟩
        rw[ev];unfold okB;rw[hA,hd95];simp;omega
  .simp only[qx]at h;have:dX s=true:=by
    unfold dX;rw[Sl hs,e,h3];simp only[I4];rw[Ns];intro i hi;simp at hi;exact hk.2 i (by omega)
   rw[this];exact⟨rfl,rfl⟩
theorem Ku:dA cZ.gd 16 ZM:=
 rH (cx:=cZ) (n:=47) (cl:=[(38,WW)]) aO ⟨Vl,trivial⟩ Tryd.func16 λd hd=>by
  obtain⟨s,⟨⟩⟩:=d;exact⟨ach s,cast (by kernel_rfl) (ZN s)⟩
def je(l:List ByteArray):Int×Int:=match(List.range l.length).find? (λi=>!dX (l.getD i ⟨#[]⟩) || vk (l.take i) (l.getD i ⟨#[]⟩)) with
 | some i=>(if dX (l.getD i ⟨#[]⟩) then 7 else 6,i)
 | none=>(0,-1)
theorem BJ(hk:k < l.length) (h:∀j < k,dX (l.getD j ⟨#[]⟩)=true/\vk (l.take j) (l.getD j ⟨#[]⟩)=false) (hf:dX (l.getD k ⟨#[]⟩)=false\/vk (l.take k) (l.getD k ⟨#[]⟩)=true):
 je l=(if dX (l.getD k ⟨#[]⟩) then 7 else 6,(k:Int)):=by
 unfold je;rw[show(List.range l.length).find? (λi=>!dX (l.getD i ⟨#[]⟩) || vk (l.take i) (l.getD i ⟨#[]⟩))=some k from List.find?_range_eq_some.2 ⟨by rcases hf with hf | hf<;>rw[hf]<;>simp,by simpa using hk,λj hj=>by obtain⟨a,b⟩:=h j hj;rw[a,b];rfl⟩]
theorem QI(h:∀j < l.length,dX (l.getD j ⟨#[]⟩)=true/\vk (l.take j) (l.getD j ⟨#[]⟩)=false):je l=(0,-1):=by
 unfold je;rw[show(List.range l.length).find? (λi=>!dX (l.getD i ⟨#[]⟩) || vk (l.take i) (l.getD i ⟨#[]⟩))=none from RZ.2 λi hi=>by
  obtain⟨a,b⟩:=h i (by simpa using hi)
  rw[a,b];simp]
abbrev QJ:CT:={ ps:=[.sl .str],pre:=λd=>d.1.length<=1000000,res:=λd=>([],.l7 [.c (.v (.int .i64 (je d.1).1)),.c (.v (.int .i64 (je d.1).2))]) }
abbrev aci(l:List ByteArray):Nat->Option (St->oO):=λk=>match k with
 | 2=>some λ_=>.inv { α:=Nat,slots:=λk=>[(8,.c (.v (.int .i64 k)))],res:=λk=>[],inv:=λk=>k<=(l).length/\∀j < k,dX (l.getD j ⟨#[]⟩)=true/\vk (l.take j) (l.getD j ⟨#[]⟩)=false,meas:=λk=>(l).length - k }
 | _=>none
theorem ZO(l:List ByteArray) (bD:QJ.pre (l,())):
 let z1:=λ(x:Nat)=>(x<=l.length/\∀(j:Nat),j < x->dX (l.getD j { data:=#[]:ByteArray })=true/\vk (List.take j l) (l.getD j { data:=#[]:ByteArray })=false);let z2:=[cI ((je l).fst),cI ((je l).snd)];(∃x,(z1 x)/\(cI 0=cI (x:Int)/\True)/\([]:List pq)=[])/\∀(x:Nat),(z1 x)->br (decide ((x:Int) < (l.length:Int))) ((0<=(x:Int)/\(x:Int) < (l.length:Int))/\∀(d:ByteArray),l[(x:Int).toNat]?=some d->True/\br (!dX d) (rT z2 [cI 6,cI (x:Int)]) (((0:Int)<=(0:Int)/\0<=(x:Int)/\(x:Int)<=(l.length:Int))/\(List.drop 0 (List.take (x:Int).toNat l)).length<=1000000/\br (vk (List.drop 0 (List.take (x:Int).toNat l)) d) (rT z2 [cI 7,cI (x:Int)]) (iR ((x:Int)+(1:Int))/\∃x',(z1 x')/\(cI ((x:Int)+(1:Int))=cI (x':Int)/\True)/\([]:List pq)=[]/\l.length - x' < l.length - x))) (rT z2 [cI 0,cI (-1)]):=by
 conv=>zeta
 delta pq cI rT iR;have hp:l.length<=1000000:=bD;refine⟨⟨0,⟨by omega,λj hj=>by omega⟩,⟨rfl,trivial⟩,rfl⟩,λk hk=>aA.2 ⟨λh=>?_,λh=>?_⟩⟩
 .simp only[jB]at h;have hN:(k:Int).toNat=k:=by omega
  rw[hN];refine⟨by omega,λd hd=>?_⟩
  have hg:l.getD k ⟨#[]⟩=d:=by rw[Xh,hd];rfl
  refine⟨trivial,aA.2 ⟨λh2=>⟨rfl,?_⟩,λh2=>⟨⟨by omega,by omega,by omega⟩,by simp;omega,aA.2 ⟨λh3=>⟨rfl,?_⟩,λh3=>⟨aX.2 (by omega),k+1,⟨by omega,λj hj=>?_⟩,⟨rfl,trivial⟩,rfl,by omega⟩⟩⟩⟩⟩
  .have h2:dX d=false:=by simpa using h2
   rw[BJ (by omega) hk.2 (.inl (by rw[hg];exact h2)),hg,h2];rfl
  .have h2:dX d=true:=by simpa using h2
   have h3:vk (l.take k) d=true:=by simpa using h3
   rw[BJ (by omega) hk.2 (.inr (by rw[hg];exact h3)),hg,h2];rfl
  .by_cases kJ:j=k
   .subst kJ;rw[hg];exact⟨by simpa using h2,by simpa using h3⟩
   .exact hk.2 j (by omega)
 .simp only[qx]at h;rw[QI λj hj=>hk.2 j (by omega)];exact⟨rfl,rfl⟩
theorem Vs:dA cZ.gd 44 QJ:=
 rH (cx:=cZ) (n:=24) (cl:=[(16,ZM),(53,II)]) aO ⟨Ku,Vr,trivial⟩ Tryd.func44 λd hd=>by
  obtain⟨l,⟨⟩⟩:=d;exact⟨aci l,cast (by kernel_rfl) (ZO l hd)⟩
def ZP(vs:List VD) (ms cs:List ByteArray) (fs:List FD) (e op obj n m:Int):Int:=if e≠0 then e else if 0<=Aj vs ms cs fs op/\(obj < 0\/Aj vs ms cs fs op<=obj) then 11 else if op=18/\(n < 0\/(ms.length:Int)<=n) then 11 else if(op=4\/op=5)/\(n < 0\/m < n) then 12 else 0
abbrev aec(i:ID):Int:=Ah i.1 i.2.1 i.2.2.1 i.2.2.2.1 i.2.2.2.2.1 i.2.2.2.2.2.1 i.2.2.2.2.2.2.1 i.2.2.2.2.2.2.2.1
abbrev ciI(vs:List VD) (ms cs:List ByteArray) (fs:List FD) (i:ID) (m:Int):Int:=ZP vs ms cs fs (aec i) i.1 i.2.2.2.2.1 i.2.2.2.2.2.1 m
abbrev acj:CT:={ ps:=[wU,iD,.int .i64],pre:=λd=>True,res:=λd=>([],.one (.c (.v (.int .i64 (ciI d.1.1 d.1.2.1 d.1.2.2.1 d.1.2.2.2.1 d.2.1 d.2.2.1))))) }
theorem ZQ(vs:List VD) (ms cs:List ByteArray) (fs:List FD) (ts:List SD) (op a b c obj n fn ord m:Int):
 let z3:=Ah op a b c obj n fn ord;let z2:=ZP vs ms cs fs z3 op obj n m;let z1:=qI z2 (11:Int);True/\br (!decide (Ah op a b c obj n fn ord=0)) (qI z2 z3) (True/\br (decide (0<=Aj vs ms cs fs op) && (decide (obj < 0) || decide (Aj vs ms cs fs op<=obj))) z1 (br (decide (op=18) && (decide (n < 0) || decide ((ms.length:Int)<=n))) z1 (br ((decide (op=4) || decide (op=5)) && (decide (n < 0) || decide (m < n))) (qI z2 (12:Int)) (qI z2 (0:Int))))):=by
 conv=>zeta
 delta qI;generalize Ah op a b c obj n fn ord=e;unfold ZP;generalize Aj vs ms cs fs op=o;refine⟨trivial,aA.2 ⟨λh=>⟨rfl,?_⟩,λh=>⟨trivial,aA.2 ⟨λh2=>⟨rfl,?_⟩,λh2=>aA.2 ⟨λh3=>⟨rfl,?_⟩,λh3=>aA.2 ⟨λh4=>⟨rfl,?_⟩,λh4=>⟨rfl,?_⟩⟩⟩⟩⟩⟩⟩
 all_goals simp only[IY,Nr,A8,Ar,Bool.and_eq_false_iff,xP,jB,qx]at *
 all_goals (congr 4;(repeat' split)<;>first | rfl | omega | (exfalso;omega))
theorem Vt:dA cZ.gd 49 acj:=
 rH (cx:=cZ) (n:=66) (cl:=[(54,abP),(55,WY)]) aO ⟨U6,Vm,trivial⟩ Tryd.func49 λd hd=>by
  obtain⟨⟨vs,ms,cs,fs,ts,⟨⟩⟩,⟨op,a,b,c,obj,n,fn,ord,⟨⟩⟩,m,⟨⟩⟩:=d;exact⟨λ_=>none,cast (by kernel_rfl) (ZQ vs ms cs fs ts op a b c obj n fn ord m)⟩
def QK(vs:List VD) (ms cs:List ByteArray) (fs:List FD):Int×Int×Int:=
 if(je (jD vs)).1≠0 then((je (jD vs)).1,-1,-1) else if(je ms).1≠0 then((je ms).1,-1,-1) else if(je cs).1≠0 then((je cs).1,-1,-1) else((je (nT fs)).1,(je (nT fs)).2,-1)
theorem ZR{d:List ByteArray} (hd:[jD vs,ms,cs][k]?=some d) (h:(je d).1≠0) (hn:∀j < k,∀x,[jD vs,ms,cs][j]?=some x->(je x).1=0):
 QK vs ms cs fs=((je d).1,-1,-1):=by
 unfold QK
 match k,hd,hn with
 | 0,hd,hn=>simp at hd;subst hd;rw[if_pos h]
 | 1,hd,hn=>
   simp at hd;subst hd;have h0:=hn 0 (by omega) (jD vs) rfl
   rw[if_neg (by rw[h0];simp),if_pos h]
 | 2,hd,hn=>
   simp at hd;subst hd;have h0:=hn 0 (by omega) (jD vs) rfl
   have h1:=hn 1 (by omega) ms rfl
   rw[if_neg (by rw[h0];simp),if_neg (by rw[h1];simp),if_pos h]
 | k+3,hd,hn=>simp at hd
theorem acn(hn:∀(j:Nat) x,[jD vs,ms,cs][j]?=some x->(je x).1=0):QK vs ms cs fs=((je (nT fs)).1,(je (nT fs)).2,-1):=by
 unfold QK;have h0:=hn 0 (jD vs) rfl;have h1:=hn 1 ms rfl;have h2:=hn 2 cs rfl;rw[if_neg (by rw[h0];simp),if_neg (by rw[h1];simp),if_neg (by rw[h2];simp)]
abbrev ZT:CT:={ ps:=[wU],pre:=λd=>d.1.1.length<=1000000/\d.1.2.1.length<=1000000/\d.1.2.2.1.length<=1000000/\d.1.2.2.2.1.length<=1000000,res:=λd=>([],.l7 [.c (.v (.int .i64 ((QK d.1.1 d.1.2.1 d.1.2.2.1 d.1.2.2.2.1).1))),.agg [.v (.int .i64 ((QK d.1.1 d.1.2.1 d.1.2.2.1 d.1.2.2.2.1).2.1)),.v (.int .i64 ((QK d.1.1 d.1.2.1 d.1.2.2.1 d.1.2.2.2.1).2.2))]]) }
abbrev aco(vs:List VD) (ms cs:List ByteArray) (fs:List FD) (ts:List SD):Nat->Option (St->oO):=λk=>match k with
 | 2=>some λ_=>.inv { α:=Nat,slots:=λk=>[(18,.c (.v (.int .i64 k)))],res:=λk=>[],inv:=λk=>k<=([jD vs,ms,cs]).length/\∀j < k,∀x,[jD vs,ms,cs][j]?=some x->(je x).1=0,meas:=λk=>([jD vs,ms,cs]).length - k }
 | _=>none
abbrev wE:=[v6 (-1),v6 (-1)]
theorem ZU(vs:List VD) (ms cs:List ByteArray) (fs:List FD) (ts:List SD) (bD:ZT.pre ((vs,ms,cs,fs,ts,()),())):
 let z3:=[jD vs,ms,cs];let z1:=[g0 (ay.blk 27 [SC.sl ku vs,SC.sl Sh.str ms,SC.sl Sh.str cs,SC.sl iH fs,SC.sl eU ts]),g0 (ay.blk 73 [v6 0,v6 0]),g0 ay.gone,g0 (ay.row 23 Sh.str.sl z3)];let z4:=QK vs ms cs fs;let z2:=[cI (z4.fst),SV.agg [v6 (z4.snd.fst),v6 (z4.snd.snd)]];vs.length<=1000000/\(∃x,(x<=z3.length/\∀(j:Nat),j < x->∀(x:List ByteArray),z3[j]?=some x->(je x).fst=0)/\(cI 0=cI (x:Int)/\True)/\sm z1)/\∀(x:Nat),(x<=z3.length/\∀(j:Nat),j < x->∀(x:List ByteArray),z3[j]?=some x->(je x).fst=0)->br (decide ((x:Int) < (z3.length:Int))) ((0<=(x:Int)/\(x:Int) < (z3.length:Int))/\(x:Int).toNat < z3.length/\∀(d:List ByteArray),z3[(x:Int).toNat]?=some d->d.length<=1000000/\br (!decide ((je d).fst=0)) (rT z2 [cI ((je d).fst),SV.agg wE]) (iR ((x:Int)+(1:Int))/\∃x',(x'<=z3.length/\∀(j:Nat),j < x'->∀(x:List ByteArray),z3[j]?=some x->(je x).fst=0)/\(cI ((x:Int)+(1:Int))=cI (x':Int)/\True)/\sm z1/\z3.length - x' < z3.length - x)) (fs.length<=1000000/\(nT fs).length<=1000000/\rT z2 [cI ((je (nT fs)).fst),SV.agg [v6 ((je (nT fs)).snd),v6 (-1)]]):=by
 conv=>zeta
 delta wE v6 cI g0 rT sm I6 iR;obtain⟨hp1,hp2,hp3,hp4⟩:vs.length<=1000000/\ms.length<=1000000/\cs.length<=1000000/\fs.length<=1000000:=bD;refine⟨hp1,?_⟩;refine⟨⟨0,⟨by omega,λj hj=>by omega⟩,⟨rfl,trivial⟩,rfl⟩,λk hk=>aA.2 ⟨λh=>?_,λh=>?_⟩⟩
 .have h3:k < 3:=by simp at h;omega
  have h:k < [jD vs,ms,cs].length:=h3;have hN:(k:Int).toNat=k:=by omega
  rw[hN];refine⟨⟨by omega,by omega⟩,h,λd hd=>⟨?_,aA.2 ⟨λh2=>⟨rfl,?_⟩,λh2=>⟨aX.2 (by omega),k+1,⟨by omega,λj hj x hx=>?_⟩,⟨rfl,trivial⟩,rfl,by omega⟩⟩⟩⟩
  .have:d∈[jD vs,ms,cs]:=lI hd;simp only[iV,List.not_mem_nil,or_false]at this;rcases this with rfl | rfl | rfl
   .simpa[jD]using hp1
   .exact hp2
   .exact hp3
  .rw[ZR hd (by simpa using h2) hk.2]
  .by_cases kJ:j=k
   .subst kJ;rw[hd]at hx;cases hx;simpa using h2
   .exact hk.2 j (by omega) x hx
 .have h:¬k < [jD vs,ms,cs].length:=by
   have:¬k < 3:=by simp at h;omega
   exact this
  refine⟨hp4,by simpa[nT]using hp4,rfl,?_⟩
  rw[acn λj x hx=>hk.2 j (by have:=(fM.1 hx).1;omega) x hx]
theorem Vu:dA cZ.gd 34 ZT:=
 rH (cx:=cZ) (n:=41) (cl:=[(43,IB),(44,QJ),(45,IC)]) aO ⟨Vo,Vs,Vp,trivial⟩ Tryd.func34 λd hd=>by
  obtain⟨⟨vs,ms,cs,fs,ts,⟨⟩⟩,⟨⟩⟩:=d;exact⟨aco vs ms cs fs ts,cast (by kernel_rfl) (ZU vs ms cs fs ts hd)⟩
def Gl(vs:List VD) (ms cs:List ByteArray) (fs:List FD):Int:=if 8 < vs.length\/4 < ms.length\/4 < cs.length\/8 < fs.length then 4 else if vs.all λv=>vg v.2.1 then 0 else 2
abbrev acp:CT:={ ps:=[wU],pre:=λd=>True,res:=λd=>([],.l7 [.c (.v (.int .i64 (Gl d.1.1 d.1.2.1 d.1.2.2.1 d.1.2.2.2.1))),.agg [.v (.int .i64 (-1)),.v (.int .i64 (-1))]]) }
abbrev acr(vs:List VD) (ms cs:List ByteArray) (fs:List FD) (ts:List SD):Nat->Option (St->oO):=λk=>match k with
 | 5=>some λ_=>.inv { α:=Nat,slots:=λk=>[(34,.c (.v (.int .i64 k)))],res:=λk=>[],inv:=λk=>k<=(vs).length/\∀j < k,∀v,vs[j]?=some v->vg v.2.1=true,meas:=λk=>(vs).length - k }
 | _=>none
abbrev kq5:=[cI 0,SV.agg [v6 (-1),v6 (-1)]]
theorem ZV(vs:List VD) (ms cs:List ByteArray) (fs:List FD) (ts:List SD):
 let z3:=[cI (Gl vs ms cs fs),SV.agg wE];let z2:=λ(x:Nat)=>(x<=vs.length/\∀(j:Nat),j < x->∀(v:ByteArray×Int×Unit),vs[j]?=some v->vg v.snd.fst=true);let z1:=[g0 (ay.blk 27 [SC.sl ku vs,SC.sl Sh.str ms,SC.sl Sh.str cs,SC.sl iH fs,SC.sl eU ts]),g0 (ay.blk 73 [v6 0,v6 0]),g0 (ay.blk 73 wE)];br (decide (8 < (vs.length:Int)) || decide (4 < (ms.length:Int)) || decide (4 < (cs.length:Int)) || decide (8 < (fs.length:Int))) (rT z3 [cI 4,SV.agg wE]) ((∃x,(z2 x)/\(cI 0=cI (x:Int)/\True)/\sm z1)/\∀(x:Nat),(z2 x)->br (decide ((x:Int) < (vs.length:Int))) ((0<=(x:Int)/\(x:Int) < (vs.length:Int))/\∀(d:ByteArray×(I6.pair Sh.unit).den),vs[(x:Int).toNat]?=some d->True/\br (!vg (d.snd.fst,()).fst) (rT z3 [cI 2,SV.agg wE]) (iR ((x:Int)+(1:Int))/\∃x',(z2 x')/\(cI ((x:Int)+(1:Int))=cI (x':Int)/\True)/\sm z1/\vs.length - x' < vs.length - x)) (rT z3 kq5)):=by
 conv=>zeta
 delta wE kq5 v6 cI g0 rT sm I6 iR
 by_cases hc:8 < vs.length\/4 < ms.length\/4 < cs.length\/8 < fs.length
 .have e:Gl vs ms cs fs=4:=by unfold Gl;rw[if_pos hc]
  rw[e];refine aA.2 ⟨λ_=>⟨rfl,rfl⟩,λh=>?_⟩
  simp only[xP,qx]at h;omega
 refine aA.2 ⟨λh=>?_,λh=>⟨⟨0,⟨by omega,λj hj=>by omega⟩,⟨rfl,trivial⟩,rfl⟩,λk hk=>aA.2 ⟨λh2=>?_,λh2=>?_⟩⟩⟩
 .simp only[Ar,jB]at h;omega
 .simp only[jB]at h2;have hN:(k:Int).toNat=k:=by omega
  rw[hN];refine⟨by omega,λd hd=>⟨trivial,aA.2 ⟨λh3=>⟨rfl,?_⟩,λh3=>⟨aX.2 (by omega),k+1,⟨by omega,λj hj v hv=>?_⟩,⟨rfl,trivial⟩,rfl,by omega⟩⟩⟩⟩
  .have h3:vg d.2.1=false:=by simpa using h3
   have e:Gl vs ms cs fs=2:=by
    unfold Gl;rw[if_neg hc,if_neg];intro hh;rw[Ns]at hh;have:=hh d (lI hd);rw[h3]at this;cases this
   rw[e]
  .have h3:vg d.2.1=true:=by simpa using h3
   by_cases kJ:j=k
   .subst kJ;rw[hd]at hv;cases hv;exact h3
   .exact hk.2 j (by omega) v hv
 .simp only[qx]at h2;have e:Gl vs ms cs fs=0:=by
   unfold Gl;rw[if_neg hc,if_pos];rw[Ns];intro v hv;obtain⟨j,hj⟩:=RP hv;exact hk.2 j (by have:=(fM.1 hj).1;omega) v hj
  rw[e];exact⟨rfl,rfl⟩
theorem Vw:dA cZ.gd 35 acp:=
 rH (cx:=cZ) (n:=45) (cl:=[(46,QE)]) aO ⟨Kt,trivial⟩ Tryd.func35 λd hd=>by
  obtain⟨⟨vs,ms,cs,fs,ts,⟨⟩⟩,⟨⟩⟩:=d;exact⟨acr vs ms cs fs ts,cast (by kernel_rfl) (ZV vs ms cs fs ts)⟩
def Kv(n:Nat) (t:SD):Int:=if t.1 < 0\/(n:Int)<=t.1 then 11 else if vg t.2.1 then 0 else 2
def IK(fs:List FD) (ts:List SD):Int:=if ts.length < 1\/8 < ts.length then 4 else match ts.find? (λt=>decide (Kv fs.length t≠0)) with | some t=>Kv fs.length t | none=>0
theorem zM{α:Type}{l:List α}{p:α->Bool}{d:α} (hd:l[k]?=some d) (hp:p d=true) (hn:∀j < k,∀t,l[j]?=some t->p t=false):l.find? p=some d:=by
 induction l generalizing k with
 | nil=>simp at hd
 | cons x l ih=>
   cases k with
   | zero=>simp at hd;subst hd;simp[hp]
   | succ k=>
     have h0:=hn 0 (by omega) x (by simp)
     rw[List.find?_cons,h0];exact ih (by simpa using hd) λj hj t ht=>hn (j+1) (by omega) t (by simpa using ht)
theorem Kw{α:Type}{l:List α}{p:α->Bool} (hn:∀(j:Nat) t,l[j]?=some t->p t=false):l.find? p=none:=by
 rw[RZ];intro x hx;obtain⟨j,hj⟩:=RP hx;rw[hn j x hj];simp
theorem F6{ts:List SD}{d:SD} (hc:¬(ts.length < 1\/8 < ts.length)) (hd:ts[k]?=some d) (h:Kv fs.length d≠0) (hn:∀j < k,∀t,ts[j]?=some t->Kv fs.length t=0):IK fs ts=Kv fs.length d:=by
 unfold IK;rw[if_neg hc,zM hd (by simpa using h) λj hj t ht=>by simpa using hn j hj t ht]
theorem Vx{ts:List SD} (hc:¬(ts.length < 1\/8 < ts.length)) (hn:∀(j:Nat) t,ts[j]?=some t->Kv fs.length t=0):IK fs ts=0:=by
 unfold IK;rw[if_neg hc,Kw λj t ht=>by simpa using hn j t ht]
abbrev acs:CT:={ ps:=[wU],pre:=λd=>True,res:=λd=>([],.l7 [.c (.v (.int .i64 (IK d.1.2.2.2.1 d.1.2.2.2.2.1))),.agg [.v (.int .i64 (-1)),.v (.int .i64 (-1))]]) }
abbrev acu(vs:List VD) (ms cs:List ByteArray) (fs:List FD) (ts:List SD):Nat->Option (St->oO):=λk=>match k with
 | 5=>some λ_=>.inv { α:=Nat,slots:=λk=>[(22,.c (.v (.int .i64 k)))],res:=λk=>[],inv:=λk=>k<=(ts).length/\∀j < k,∀t,ts[j]?=some t->Kv fs.length t=0,meas:=λk=>(ts).length - k }
 | _=>none
theorem ZW(vs:List VD) (ms cs:List ByteArray) (fs:List FD) (ts:List SD):
 let z3:=[cI (IK fs ts),SV.agg wE];let z2:=λ(x:Nat)=>(x<=ts.length/\∀(j:Nat),j < x->∀(t:Int×Int×Unit),ts[j]?=some t->Kv fs.length t=0);let z1:=[g0 (ay.blk 27 [SC.sl ku vs,SC.sl Sh.str ms,SC.sl Sh.str cs,SC.sl iH fs,SC.sl eU ts]),g0 (ay.blk 73 [v6 0,v6 0]),g0 (ay.blk 73 wE)];br (decide ((ts.length:Int) < (1:Int)) || decide (8 < (ts.length:Int))) (rT z3 [cI 4,SV.agg wE]) ((∃x,(z2 x)/\(cI 0=cI (x:Int)/\True)/\sm z1)/\∀(x:Nat),(z2 x)->br (decide ((x:Int) < (ts.length:Int))) ((0<=(x:Int)/\(x:Int) < (ts.length:Int))/\∀(d:Int×(I6.pair Sh.unit).den),ts[(x:Int).toNat]?=some d->br (decide (d.fst < 0) || decide ((fs.length:Int)<=d.fst)) (rT z3 [cI 11,SV.agg wE]) (True/\br (!vg (d.snd.fst,()).fst) (rT z3 [cI 2,SV.agg wE]) (iR ((x:Int)+(1:Int))/\∃x',(z2 x')/\(cI ((x:Int)+(1:Int))=cI (x':Int)/\True)/\sm z1/\ts.length - x' < ts.length - x))) (rT z3 kq5)):=by
 conv=>zeta
 delta wE kq5 v6 cI g0 rT sm I6 iR
 by_cases hc:ts.length < 1\/8 < ts.length
 .have e:IK fs ts=4:=by unfold IK;rw[if_pos hc]
  rw[e];refine aA.2 ⟨λ_=>⟨rfl,rfl⟩,λh=>?_⟩
  simp only[xP,qx]at h;omega
 refine aA.2 ⟨λh=>?_,λh=>⟨⟨0,⟨by omega,λj hj=>by omega⟩,⟨rfl,trivial⟩,rfl⟩,λk hk=>aA.2 ⟨λh2=>?_,λh2=>?_⟩⟩⟩
 .simp only[Ar,jB]at h;omega
 .simp only[jB]at h2;have hN:(k:Int).toNat=k:=by omega
  rw[hN];refine⟨by omega,λd hd=>aA.2 ⟨λh3=>⟨rfl,?_⟩,λh3=>⟨trivial,aA.2 ⟨λh4=>⟨rfl,?_⟩,λh4=>⟨aX.2 (by omega),k+1,⟨by omega,λj hj v hv=>?_⟩,⟨rfl,trivial⟩,rfl,by omega⟩⟩⟩⟩⟩
  .have h3:d.1 < 0\/(fs.length:Int)<=d.1:=by simpa using h3
   have e:Kv fs.length d=11:=by unfold Kv;rw[if_pos h3]
   rw[F6 hc hd (by rw[e];simp) hk.2,e]
  .have h3:¬(d.1 < 0\/(fs.length:Int)<=d.1):=by simpa using h3
   have h4:vg d.2.1=false:=by simpa using h4
   have e:Kv fs.length d=2:=by unfold Kv;rw[if_neg h3,if_neg (by rw[h4];simp)]
   rw[F6 hc hd (by rw[e];simp) hk.2,e]
  .have h3:¬(d.1 < 0\/(fs.length:Int)<=d.1):=by simpa using h3
   have h4:vg d.2.1=true:=by simpa using h4
   by_cases kJ:j=k
   .subst kJ;rw[hd]at hv;cases hv;unfold Kv;rw[if_neg h3,if_pos h4]
   .exact hk.2 j (by omega) v hv
 .simp only[qx]at h2;rw[Vx hc λj t hj=>hk.2 j (by have:=(fM.1 hj).1;omega) t hj];exact⟨rfl,rfl⟩
theorem Vy:dA cZ.gd 37 acs:=
 rH (cx:=cZ) (n:=45) (cl:=[(46,QE)]) aO ⟨Kt,trivial⟩ Tryd.func37 λd hd=>by
  obtain⟨⟨vs,ms,cs,fs,ts,⟨⟩⟩,⟨⟩⟩:=d;exact⟨acu vs ms cs fs ts,cast (by kernel_rfl) (ZW vs ms cs fs ts)⟩
abbrev QL:CT:={ ps:=[iH],pre:=λd=>True,res:=λd=>([],vB (decide (64 < d.1.2.1.length))) }
theorem ZX(nm:ByteArray) (l:List ID):
 qB (decide (64 < l.length)) (decide (64 < (l.length:Int))):=by
 delta qB;refine⟨rfl,?_⟩
 congr 4
 rw[Xf];simp only[jB];omega
theorem Vz:dA cZ.gd 48 QL:=
 rH (cx:=cZ) (n:=7) (cl:=[]) aO trivial Tryd.func48 λd hd=>by
  obtain⟨⟨nm,l,⟨⟩⟩,⟨⟩⟩:=d;exact⟨λ_=>none,cast (by kernel_rfl) (ZX nm l)⟩
def dN(fs:List FD):Int:=match fs.findIdx? (λf=>decide (64 < f.2.1.length)) with | some k=>(k:Int) | none=>-1
theorem IL{d:FD} (hd:fs[k]?=some d) (h2:64 < d.2.1.length) (hn:∀j < k,∀f,fs[j]?=some f->f.2.1.length<=64):dN fs=k:=by
 have gX:k < fs.length:=(fM.1 hd).1;have:fs.findIdx? (λf=>decide (64 < f.2.1.length))=some k:=by
  rw[A97];refine⟨gX,by rw[(fM.1 hd).2];simpa using h2,λj hj=>?_⟩
  have:=hn j hj fs[j] (lH (by omega))
  simpa using this
 simp[dN,this]
theorem Nc(hn:∀(j:Nat) f,fs[j]?=some f->f.2.1.length<=64):dN fs = -1:=by
 have:fs.findIdx? (λf=>decide (64 < f.2.1.length))=none:=by
  rw[Xi];intro y hy;obtain⟨j,hj⟩:=RP hy;simpa using hn j y hj
 simp[dN,this]
abbrev D8:CT:={ ps:=[.sl iH],pre:=λd=>d.1.length<=1000000,res:=λd=>([],.one (.c (.v (.int .i64 (dN d.1))))) }
abbrev acv(fs:List FD):Nat->Option (St->oO):=λk=>match k with
 | 2=>some λ_=>.inv { α:=Nat,slots:=λk=>[(8,.c (.v (.int .i64 k)))],res:=λk=>[],inv:=λk=>k<=(fs).length/\∀j < k,∀f,fs[j]?=some f->f.2.1.length<=64,meas:=λk=>(fs).length - k }
 | _=>none
theorem ZY(fs:List FD) (bD:D8.pre (fs,())):
 let z1:=λ(x:Nat)=>(x<=fs.length/\∀(j:Nat),j < x->∀(f:ByteArray×List ID×Unit),fs[j]?=some f->f.snd.fst.length<=64);(∃x,(z1 x)/\(cI 0=cI (x:Int)/\True)/\([]:List pq)=[])/\∀(x:Nat),(z1 x)->br (decide ((x:Int) < (fs.length:Int))) ((0<=(x:Int)/\(x:Int) < (fs.length:Int))/\∀(d:ByteArray×(iD.sl.pair Sh.unit).den),fs[(x:Int).toNat]?=some d->True/\br (decide (64 < List.length (d.snd.fst,()).fst)) (qI (dN fs) (x:Int)) (iR ((x:Int)+(1:Int))/\∃x',(z1 x')/\(cI ((x:Int)+(1:Int))=cI (x':Int)/\True)/\([]:List pq)=[]/\fs.length - x' < fs.length - x)) (qI (dN fs) (-1:Int)):=by
 conv=>zeta
 delta pq cI qI I6 iR;have hp:fs.length<=1000000:=bD;refine⟨⟨0,⟨by omega,λj hj=>by omega⟩,⟨rfl,trivial⟩,rfl⟩,λk hk=>aA.2 ⟨λh=>?_,λh=>?_⟩⟩
 .simp only[jB]at h;have hN:(k:Int).toNat=k:=by omega
  rw[hN];refine⟨by omega,λd hd=>⟨trivial,aA.2 ⟨λh2=>⟨rfl,?_⟩,λh2=>⟨aX.2 (by omega),k+1,⟨by omega,λj hj f hf=>?_⟩,⟨rfl,trivial⟩,rfl,by omega⟩⟩⟩⟩
  .have h2:64 < d.2.1.length:=by simpa using h2
   rw[IL hd h2 hk.2]
  .have h2:¬64 < d.2.1.length:=by simpa using h2
   by_cases kJ:j=k
   .subst kJ;rw[hd]at hf;cases hf;omega
   .exact hk.2 j (by omega) f hf
 .simp only[qx]at h;rw[Nc λj f hf=>hk.2 j (by have:=(fM.1 hf).1;omega) f hf];exact⟨rfl,rfl⟩
theorem QM:FQ Tryd.prog cZ.gd 47 [.func (.func 48) #[] #[]] D8:=
 (uV (cx:=cZ) (n:=19) (cl:=[(48,QL)]) (il:=Qy) (hl:=hlN) (ml:=mlN) (rc:=[]) (lits:=[]) (suf:=[.func (.func 48) #[] #[]]) (by kernel_rfl) aO ⟨Vz,trivial⟩ trivial trivial trivial Tryd.func47 (by kernel_rfl) (by kernel_rfl) rfl (by kernel_rfl) (by kernel_rfl) (by simp) λd hd=>by
  obtain⟨fs,⟨⟩⟩:=d;exact⟨acv fs,cast (by kernel_rfl) (ZY fs hd)⟩)
def Gm(vs:List VD) (ms cs:List ByteArray) (fs:List FD) (d:bg [eU,iD]):Int:=ciI vs ms cs fs d.2.1 (((fs.getD d.1.1.toNat (⟨#[]⟩,[],())).2.1.length:Nat):Int)
def Ky(vs:List VD) (ms cs:List ByteArray) (fs:List FD):Int×Int×Int:=match(aT fs).find? (λd=>decide (d.1.1=dN fs) || decide (Gm vs ms cs fs d≠0)) with
 | some d=>if d.1.1=dN fs then(4,dN fs,-1) else(Gm vs ms cs fs d,d.1.1,d.1.2.1)
 | none=>if 0<=dN fs then(4,dN fs,-1) else(0,-1,-1)
theorem QN{d:bg [eU,iD]}{e:FD} (he:fs[d.1.1.toNat]?=some e):Gm vs ms cs fs d=ciI vs ms cs fs d.2.1 (e.2.1.length:Int):=by
 unfold Gm;rw[Xh,he];rfl
theorem BK:∀(l:List FD) (n:Nat){d:bg [eU,iD]},d∈jT n l->∃(k:Nat) (x:FD) (j:Nat) (e:ID),l[k]?=some x/\x.2.1[j]?=some e/\d=((((n+k:Nat):Int),(j:Int),()),e,())
 | [],n,d,h=>by simp[jT]at h
 | x :: l,n,d,h=>by
   simp only[jT,zO]at h;rcases h with h | h
   .unfold rM at h;obtain⟨p,hp,rfl⟩:=Nw.1 h;have:=List.mk_mem_zipIdx_iff_getElem?.1 (show(p.1,p.2)∈x.2.1.zipIdx from hp)
    exact⟨0,x,p.2,p.1,rfl,this,rfl⟩
   .obtain⟨k,y,j,e,h1,h2,rfl⟩:=BK l (n+1) h;exact⟨k+1,y,j,e,by simpa using h1,h2,by rw[show n+1+k=n+(k+1) by omega]⟩
theorem F7{i:Nat}{d:bg [eU,iD]} (hd:(aT fs)[i]?=some d):0<=d.1.1/\d.1.1 < fs.length:=by
 obtain⟨k,x,j,e,h1,h2,rfl⟩:=BK fs 0 (lI hd);have:=(fM.1 h1).1;show 0<=((0+k:Nat):Int)/\((0+k:Nat):Int) < _;omega
theorem Kz{i:Nat}{d:bg [eU,iD]} (hd:(aT fs)[i]?=some d) (hb:d.1.1=dN fs\/Gm vs ms cs fs d≠0)
 (hn:∀j < i,∀d,(aT fs)[j]?=some d->d.1.1≠dN fs/\Gm vs ms cs fs d=0):Ky vs ms cs fs=if d.1.1=dN fs then(4,dN fs,-1) else(Gm vs ms cs fs d,d.1.1,d.1.2.1):=by
 unfold Ky;rw[zM hd (by simpa using hb) λj hj t ht=>by obtain⟨a,b⟩:=hn j hj t ht;simp[a,b]]
theorem QO(hn:∀(j:Nat) d,(aT fs)[j]?=some d->d.1.1≠dN fs/\Gm vs ms cs fs d=0):Ky vs ms cs fs=if 0<=dN fs then(4,dN fs,-1) else(0,-1,-1):=by
 unfold Ky;rw[Kw λj t ht=>by obtain⟨a,b⟩:=hn j t ht;simp[a,b]]
abbrev Z4:CT:={ ps:=[wU],pre:=λd=>d.1.2.2.2.1.length<=1000000/\∀x∈d.1.2.2.2.1,x.2.1.length<=1000000,res:=λd=>([],.l7 [.c (.v (.int .i64 ((Ky d.1.1 d.1.2.1 d.1.2.2.1 d.1.2.2.2.1).1))),.agg [.v (.int .i64 ((Ky d.1.1 d.1.2.1 d.1.2.2.1 d.1.2.2.2.1).2.1)),.v (.int .i64 ((Ky d.1.1 d.1.2.1 d.1.2.2.1 d.1.2.2.2.1).2.2))]]) }
abbrev acw(vs:List VD) (ms cs:List ByteArray) (fs:List FD) (ts:List SD):Nat->Option (St->oO):=λk=>match k with
 | 5=>some λ_=>.rng { α:=Nat,res:=λ_=>[],inv:=λi n=>n=i/\∀j < n,∀d,(aT fs)[j]?=some d->d.1.1≠dN fs/\Gm vs ms cs fs d=0 }
 | _=>none
abbrev aee:List (Nat×Nat×CT):=[(47,48,D8)]
theorem Z5(vs:List VD) (ms cs:List ByteArray) (fs:List FD) (ts:List SD) (bD:Z4.pre ((vs,ms,cs,fs,ts,()),())):
 let z5:=[g0 (ay.blk 27 [SC.sl ku vs,SC.sl Sh.str ms,SC.sl Sh.str cs,SC.sl iH fs,SC.sl eU ts]),g0 (ay.blk 46 [v6 0]),g0 (ay.blk 73 [v6 0,v6 0]),g0 (ay.blk 3 [v6 (dN fs)])];let z11:=Ky vs ms cs fs;let z9:=[cI (z11.fst),SV.agg [v6 (z11.snd.fst),v6 (z11.snd.snd)]];let z10:=[cI 4,SV.agg [v6 (dN fs),v6 (-1)]];let z3:=((rT z9 z10)/\rT z9 z10)/\rT z9 z10;let z8:=rT z9 kq5;let z4:=λ(d:eU.den×bg [I6.pair (I6.pair (I6.pair (I6.pair (I6.pair (I6.pair eU)))))])=>(d.snd.fst.fst,d.snd.fst.snd.fst,d.snd.fst.snd.snd.fst,d.snd.fst.snd.snd.snd.fst,d.snd.fst.snd.snd.snd.snd.fst,d.snd.fst.snd.snd.snd.snd.snd.fst,d.snd.fst.snd.snd.snd.snd.snd.snd.fst,d.snd.fst.snd.snd.snd.snd.snd.snd.snd.fst,());let z6:=λ(d:eU.den×bg [I6.pair (I6.pair (I6.pair (I6.pair (I6.pair (I6.pair eU)))))])=>(d.snd.fst.snd.snd.snd.snd.fst,d.snd.fst.snd.snd.snd.snd.snd.fst,d.snd.fst.snd.snd.snd.snd.snd.snd.fst,d.snd.fst.snd.snd.snd.snd.snd.snd.snd.fst,());let z7:=λ(d:eU.den×bg [I6.pair (I6.pair (I6.pair (I6.pair (I6.pair (I6.pair eU)))))])=>(d.snd.fst.snd.snd.snd.snd.snd.fst,d.snd.fst.snd.snd.snd.snd.snd.snd.fst,d.snd.fst.snd.snd.snd.snd.snd.snd.snd.fst,());let z2:=λ(d:eU.den×bg [I6.pair (I6.pair (I6.pair (I6.pair (I6.pair (I6.pair eU)))))])=>Ah (z4 d).fst (d.snd.fst.snd.fst,d.snd.fst.snd.snd.fst,d.snd.fst.snd.snd.snd.fst,d.snd.fst.snd.snd.snd.snd.fst,d.snd.fst.snd.snd.snd.snd.snd.fst,d.snd.fst.snd.snd.snd.snd.snd.snd.fst,d.snd.fst.snd.snd.snd.snd.snd.snd.snd.fst,()).fst (d.snd.fst.snd.snd.fst,d.snd.fst.snd.snd.snd.fst,d.snd.fst.snd.snd.snd.snd.fst,d.snd.fst.snd.snd.snd.snd.snd.fst,d.snd.fst.snd.snd.snd.snd.snd.snd.fst,d.snd.fst.snd.snd.snd.snd.snd.snd.snd.fst,()).fst (d.snd.fst.snd.snd.snd.fst,d.snd.fst.snd.snd.snd.snd.fst,d.snd.fst.snd.snd.snd.snd.snd.fst,d.snd.fst.snd.snd.snd.snd.snd.snd.fst,d.snd.fst.snd.snd.snd.snd.snd.snd.snd.fst,()).fst (z6 d).fst (z7 d).fst (d.snd.fst.snd.snd.snd.snd.snd.snd.fst,d.snd.fst.snd.snd.snd.snd.snd.snd.snd.fst,()).fst (d.snd.fst.snd.snd.snd.snd.snd.snd.snd.fst,()).fst;let z1:=λ(d:eU.den×bg [I6.pair (I6.pair (I6.pair (I6.pair (I6.pair (I6.pair eU)))))]) (bV:ByteArray×(iD.sl.pair Sh.unit).den)=>[cI (ZP vs ms cs fs (z2 d) (z4 d).fst (z6 d).fst (z7 d).fst ((List.length bV.snd.fst):Int)),SV.agg [v6 d.fst.fst,v6 d.fst.snd.fst]];fs.length<=1000000/\(fs.length<=1000000/\∀(x:ByteArray×(iD.sl.pair Sh.unit).den),x∈fs->List.length x.snd.fst<=1000000)/\some Tryd.prog=some Tryd.prog/\(∃x,(x=0/\∀(j:Nat),j < x->∀(d:eU.den×bg [I6.pair (I6.pair (I6.pair (I6.pair (I6.pair (I6.pair eU)))))]),(aT fs)[j]?=some d->d.fst.fst≠dN fs/\Gm vs ms cs fs d=0)/\sm z5)/\(∀(i x:Nat) (d:eU.den×bg [I6.pair (I6.pair (I6.pair (I6.pair (I6.pair (I6.pair eU)))))]),(x=i/\∀(j:Nat),j < x->∀(d:eU.den×bg [I6.pair (I6.pair (I6.pair (I6.pair (I6.pair (I6.pair eU)))))]),(aT fs)[j]?=some d->d.fst.fst≠dN fs/\Gm vs ms cs fs d=0)->(aT fs)[i]?=some d->br (decide (d.fst.fst=dN fs)) (br (decide (0<=dN fs)) z3 z8) ((0<=d.fst.fst/\d.fst.fst < (fs.length:Int))/\∀(bV:ByteArray×(iD.sl.pair Sh.unit).den),fs[Int.toNat d.fst.fst]?=some bV->True/\br (!decide (ZP vs ms cs fs (z2 d) (z4 d).fst (z6 d).fst (z7 d).fst ((List.length bV.snd.fst):Int)=(0:Int))) ((rT z9 (z1 d bV))/\rT z9 (z1 d bV)) (∃x',(x'=i+1/\∀(j:Nat),j < x'->∀(d:eU.den×bg [I6.pair (I6.pair (I6.pair (I6.pair (I6.pair (I6.pair eU)))))]),(aT fs)[j]?=some d->d.fst.fst≠dN fs/\Gm vs ms cs fs d=0)/\sm z5)))/\∀(x:Nat),(x=aC (aT fs)/\∀(j:Nat),j < x->∀(d:eU.den×bg [I6.pair (I6.pair (I6.pair (I6.pair (I6.pair (I6.pair eU)))))]),(aT fs)[j]?=some d->d.fst.fst≠dN fs/\Gm vs ms cs fs d=0)->br (decide (0<=dN fs)) z3 z8:=by
 conv=>zeta
 delta kq5 v6 cI g0 rT sm I6;refine⟨bD.1,bD,rfl,⟨0,⟨rfl,λj hj=>by omega⟩,rfl⟩,λi x d hi hd=>?_,λx hx=>?_⟩
 .obtain⟨rfl,hi⟩:=hi;refine aA.2 ⟨λh=>?_,λh=>?_⟩
  .have h:d.1.1=dN fs:=by simpa using h
   obtain⟨hb1,hb2⟩:=F7 hd;have hl:(0:Int)<=dN fs:=by rw[<-h];exact hb1
   rw[Kz hd (.inl h) hi,if_pos h];exact aA.2 ⟨λ_=>⟨⟨⟨rfl,rfl⟩,rfl,rfl⟩,rfl,rfl⟩,λhh=>absurd hl (of_decide_eq_false hh)⟩
  .have h:¬d.1.1=dN fs:=by simpa using h
   obtain⟨hb1,hb2⟩:=F7 hd;refine⟨⟨hb1,hb2⟩,λe he=>⟨trivial,aA.2 ⟨λh2=>?_,λh2=>⟨x+1,⟨rfl,λj hj d' hd'=>?_⟩,rfl⟩⟩⟩⟩
   .have h2:Gm vs ms cs fs d≠0:=by rw[QN he];simpa using h2
    rw[Kz hd (.inr h2) hi,if_neg h,QN he];exact⟨⟨rfl,rfl⟩,rfl,rfl⟩
   .by_cases hji:j=x
    .subst hji;rw[hd]at hd';cases hd';exact⟨h,by rw[QN he];simpa using h2⟩
    .exact hi j (by omega) d' hd'
 .obtain⟨rfl,hx⟩:=hx;refine aA.2 ⟨λh=>?_,λh=>?_⟩
  .have h:(0:Int)<=dN fs:=by simpa using h
   rw[QO λj d hd=>hx j (by rw[aK];exact(fM.1 hd).1) d hd,if_pos h]
   exact⟨⟨⟨rfl,rfl⟩,rfl,rfl⟩,rfl,rfl⟩
  .have h:¬(0:Int)<=dN fs:=by simpa using h
   rw[QO λj d hd=>hx j (by rw[aK];exact(fM.1 hd).1) d hd,if_neg h]
   exact⟨rfl,rfl⟩
theorem VA:dA cZ.gd 36 Z4:=
 (uV (cx:=cZ) (n:=39) (cl:=[(31,uZ),(49,acj)]) (il:=Qy) (hl:=aee) (ml:=mlN) (rc:=[]) (lits:=[]) (suf:=[]) (by kernel_rfl) aO ⟨D7,Vt,trivial⟩ trivial ⟨QM,trivial⟩ trivial Tryd.func36 (by kernel_rfl) (by kernel_rfl) rfl (by kernel_rfl) (by kernel_rfl) (by simp) λd hd=>by
  obtain⟨⟨vs,ms,cs,fs,ts,⟨⟩⟩,⟨⟩⟩:=d;exact⟨acw vs ms cs fs ts,cast (by kernel_rfl) (Z5 vs ms cs fs ts hd)⟩).met
end Go.Proofs.YtaagmchgokmdgaaDoor
