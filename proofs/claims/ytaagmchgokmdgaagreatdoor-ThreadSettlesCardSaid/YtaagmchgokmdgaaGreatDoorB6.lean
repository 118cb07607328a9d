/- Part 6 of the proof. Conditions: the rows'. -/
import Derived.Test.YtaagmchgokmdgaaGreatDoorB5
import Derived.Test.YtaagmchgokmdgaaGreatDoorProg
import Derived.Shelf.Small.Bits
import Derived.Shelf.Small.Wraps
import Derived.Shelf.Strconv.Itoa0
import Derived.Shelf.Sort.Plain
import Derived.Shelf.Slices.Turned
import Derived.Ground.Names2Prog
import Derived.Shelf.Slices.Clone
import Derived.Shelf.Slices.CompactI
import Derived.Shelf.Slices.SearchI
import Derived.Shelf.Slices.Cells
import Derived.Shelf.Slices.In.SortNone
import Derived.Ground.SlgnProg
import Derived.Shelf.SlicesE.Clone
set_option linter.unusedSimpArgs false
set_option linter.unusedVariables false
set_option maxRecDepth 1000000
set_option maxHeartbeats 8000000
namespace Go.Proofs.YtaagmchgokmdgaaGreatDoor
open Go Go.lM
abbrev bJ:=Go.lM.Met Tryz.prog
variable {l:List Int}
abbrev ti3:TI:={ desc:=.int .i64,size:=1,bytes:=8,zero:=[.int .i64 0],jK:=some (.int .i64) }
theorem acf:aU Tryz.prog 3 ti3:=aU.of_eq (by kernel_rfl) (by kernel_rfl) rfl rfl (aZ (i:=ti3) (s0:=(.int .i64)) rfl rfl rfl rfl)
abbrev ti4:TI:={ desc:=.bool,size:=1,bytes:=1,zero:=[.bool false],jK:=some .bool }
theorem acg:aU Tryz.prog 4 ti4:=aU.of_eq (by kernel_rfl) (by kernel_rfl) rfl rfl (aZ (i:=ti4) (s0:=.bool) rfl rfl rfl rfl)
abbrev ti5:TI:={ desc:=.int .u8,size:=1,bytes:=1,zero:=[.int .u8 0],jK:=some (.int .u8) }
theorem ach:aU Tryz.prog 5 ti5:=aU.of_eq (by kernel_rfl) (by kernel_rfl) rfl rfl (aZ (i:=ti5) (s0:=(.int .u8)) rfl rfl rfl rfl)
abbrev ti9:TI:={ desc:=.string,size:=1,bytes:=16,zero:=[.string ⟨#[]⟩],jK:=some .str }
theorem aci:aU Tryz.prog 9 ti9:=aU.of_eq (by kernel_rfl) (by kernel_rfl) rfl rfl (aZ (i:=ti9) (s0:=.str) rfl rfl rfl rfl)
abbrev acj:TI:={ desc:=.int .i32,size:=1,bytes:=4,zero:=[.int .i32 0],jK:=some (.int .i32) }
theorem XQ:aU Tryz.prog 21 acj:=aU.of_eq (by kernel_rfl) (by kernel_rfl) rfl rfl (aZ (i:=acj) (s0:=(.int .i32)) rfl rfl rfl rfl)
abbrev acn:TI:={ desc:=.slice 60,size:=1,bytes:=24,zero:=[.slice none 0 0],jK:=some (.sl (.pair .str (.pair (.int .i64) .unit))) }
theorem XR:aU Tryz.prog 22 acn:=aU.of_eq (by kernel_rfl) (by kernel_rfl) rfl rfl (aZ (i:=acn) (s0:=(.sl (.pair .str (.pair (.int .i64) .unit)))) rfl rfl rfl rfl)
abbrev aco:TI:={ desc:=.slice 9,size:=1,bytes:=24,zero:=[.slice none 0 0],jK:=some (.sl .str) }
theorem XT:aU Tryz.prog 23 aco:=aU.of_eq (by kernel_rfl) (by kernel_rfl) rfl rfl (aZ (i:=aco) (s0:=(.sl .str)) rfl rfl rfl rfl)
abbrev acp:TI:={ desc:=.slice 58,size:=1,bytes:=24,zero:=[.slice none 0 0],jK:=some (.sl (.pair .str (.pair (.sl (.pair (.int .i64) (.pair (.int .i64) (.pair (.int .i64) (.pair (.int .i64) (.pair (.int .i64) (.pair (.int .i64) (.pair (.int .i64) (.pair (.int .i64) .unit))))))))) .unit))) }
theorem XU:aU Tryz.prog 24 acp:=aU.of_eq (by kernel_rfl) (by kernel_rfl) rfl rfl (aZ (i:=acp) (s0:=(.sl (.pair .str (.pair (.sl (.pair (.int .i64) (.pair (.int .i64) (.pair (.int .i64) (.pair (.int .i64) (.pair (.int .i64) (.pair (.int .i64) (.pair (.int .i64) (.pair (.int .i64) .unit))))))))) .unit)))) rfl rfl rfl rfl)
abbrev acr:TI:={ desc:=.slice 62,size:=1,bytes:=24,zero:=[.slice none 0 0],jK:=some (.sl (.pair (.int .i64) (.pair (.int .i64) .unit))) }
theorem XV:aU Tryz.prog 25 acr:=aU.of_eq (by kernel_rfl) (by kernel_rfl) rfl rfl (aZ (i:=acr) (s0:=(.sl (.pair (.int .i64) (.pair (.int .i64) .unit)))) rfl rfl rfl rfl)
abbrev acs:TI:={ desc:=.struct #[jd 22 0,jd 23 1,jd 23 2,jd 24 3,jd 25 4],size:=5,bytes:=120,zero:=[.slice none 0 0,.slice none 0 0,.slice none 0 0,.slice none 0 0,.slice none 0 0],jK:=some (.pair (.sl (.pair .str (.pair (.int .i64) .unit))) (.pair (.sl .str) (.pair (.sl .str) (.pair (.sl (.pair .str (.pair (.sl (.pair (.int .i64) (.pair (.int .i64) (.pair (.int .i64) (.pair (.int .i64) (.pair (.int .i64) (.pair (.int .i64) (.pair (.int .i64) (.pair (.int .i64) .unit))))))))) .unit))) (.pair (.sl (.pair (.int .i64) (.pair (.int .i64) .unit))) .unit))))) }
theorem XW:aU Tryz.prog 26 acs:=aU.of_eq (by kernel_rfl) (by kernel_rfl) rfl rfl (aZ (i:=acs) (s0:=(.pair (.sl (.pair .str (.pair (.int .i64) .unit))) (.pair (.sl .str) (.pair (.sl .str) (.pair (.sl (.pair .str (.pair (.sl (.pair (.int .i64) (.pair (.int .i64) (.pair (.int .i64) (.pair (.int .i64) (.pair (.int .i64) (.pair (.int .i64) (.pair (.int .i64) (.pair (.int .i64) .unit))))))))) .unit))) (.pair (.sl (.pair (.int .i64) (.pair (.int .i64) .unit))) .unit)))))) rfl rfl rfl rfl)
abbrev acu:TI:={ desc:=.struct #[jd 22 0,jd 23 1,jd 23 2,jd 24 3,jd 25 4],size:=5,bytes:=120,zero:=[.slice none 0 0,.slice none 0 0,.slice none 0 0,.slice none 0 0,.slice none 0 0],jK:=some (.pair (.sl (.pair .str (.pair (.int .i64) .unit))) (.pair (.sl .str) (.pair (.sl .str) (.pair (.sl (.pair .str (.pair (.sl (.pair (.int .i64) (.pair (.int .i64) (.pair (.int .i64) (.pair (.int .i64) (.pair (.int .i64) (.pair (.int .i64) (.pair (.int .i64) (.pair (.int .i64) .unit))))))))) .unit))) (.pair (.sl (.pair (.int .i64) (.pair (.int .i64) .unit))) .unit))))) }
theorem XY:aU Tryz.prog 27 acu:=aU.of_eq (by kernel_rfl) (by kernel_rfl) rfl rfl (aZ (i:=acu) (s0:=(.pair (.sl (.pair .str (.pair (.int .i64) .unit))) (.pair (.sl .str) (.pair (.sl .str) (.pair (.sl (.pair .str (.pair (.sl (.pair (.int .i64) (.pair (.int .i64) (.pair (.int .i64) (.pair (.int .i64) (.pair (.int .i64) (.pair (.int .i64) (.pair (.int .i64) (.pair (.int .i64) .unit))))))))) .unit))) (.pair (.sl (.pair (.int .i64) (.pair (.int .i64) .unit))) .unit)))))) rfl rfl rfl rfl)
abbrev acv:TI:={ desc:=.array 8 3,size:=8,bytes:=64,zero:=[.int .i64 0,.int .i64 0,.int .i64 0,.int .i64 0,.int .i64 0,.int .i64 0,.int .i64 0,.int .i64 0],jK:=some (.arr 8 (.int .i64)),Dp:=[.i] }
theorem XZ:aU Tryz.prog 28 acv:=aU.of_eq (by kernel_rfl) (by kernel_rfl) rfl rfl (aZ (i:=acv) (s0:=(.arr 8 (.int .i64))) rfl rfl rfl rfl) (λ_=>by kernel_rfl)
abbrev acw:TI:={ desc:=.int .i64,size:=1,bytes:=8,zero:=[.int .i64 0],jK:=some (.int .i64) }
theorem X0:aU Tryz.prog 29 acw:=aU.of_eq (by kernel_rfl) (by kernel_rfl) rfl rfl (aZ (i:=acw) (s0:=(.int .i64)) rfl rfl rfl rfl)
abbrev acy:TI:={ desc:=.int .i64,size:=1,bytes:=8,zero:=[.int .i64 0],jK:=some (.int .i64) }
theorem X3:aU Tryz.prog 30 acy:=aU.of_eq (by kernel_rfl) (by kernel_rfl) rfl rfl (aZ (i:=acy) (s0:=(.int .i64)) rfl rfl rfl rfl)
abbrev acz:TI:={ desc:=.int .i64,size:=1,bytes:=8,zero:=[.int .i64 0],jK:=some (.int .i64) }
theorem X4:aU Tryz.prog 31 acz:=aU.of_eq (by kernel_rfl) (by kernel_rfl) rfl rfl (aZ (i:=acz) (s0:=(.int .i64)) rfl rfl rfl rfl)
abbrev acA:TI:={ desc:=.slice 3,size:=1,bytes:=24,zero:=[.slice none 0 0],jK:=some (.sl (.int .i64)) }
theorem X5:aU Tryz.prog 32 acA:=aU.of_eq (by kernel_rfl) (by kernel_rfl) rfl rfl (aZ (i:=acA) (s0:=(.sl (.int .i64))) rfl rfl rfl rfl)
abbrev acB:TI:={ desc:=.struct #[jd 3 0,jd 3 1,jd 3 2,jd 28 3,jd 3 11,jd 3 12,jd 29 13,jd 30 14,jd 31 15,jd 32 16],size:=17,bytes:=152,zero:=[.int .i64 0,.int .i64 0,.int .i64 0,.int .i64 0,.int .i64 0,.int .i64 0,.int .i64 0,.int .i64 0,.int .i64 0,.int .i64 0,.int .i64 0,.int .i64 0,.int .i64 0,.int .i64 0,.int .i64 0,.int .i64 0,.slice none 0 0],jK:=some (.pair (.int .i64) (.pair (.int .i64) (.pair (.int .i64) (.pair (.arr 8 (.int .i64)) (.pair (.int .i64) (.pair (.int .i64) (.pair (.int .i64) (.pair (.int .i64) (.pair (.int .i64) (.pair (.sl (.int .i64)) .unit)))))))))) }
theorem X6:aU Tryz.prog 33 acB:=aU.of_eq (by kernel_rfl) (by kernel_rfl) rfl rfl (aZ (i:=acB) (s0:=(.pair (.int .i64) (.pair (.int .i64) (.pair (.int .i64) (.pair (.arr 8 (.int .i64)) (.pair (.int .i64) (.pair (.int .i64) (.pair (.int .i64) (.pair (.int .i64) (.pair (.int .i64) (.pair (.sl (.int .i64)) .unit))))))))))) rfl rfl rfl rfl)
abbrev acC:TI:={ desc:=.struct #[jd 3 0,jd 3 1,jd 3 2,jd 28 3,jd 3 11,jd 3 12,jd 29 13,jd 30 14,jd 31 15,jd 32 16],size:=17,bytes:=152,zero:=[.int .i64 0,.int .i64 0,.int .i64 0,.int .i64 0,.int .i64 0,.int .i64 0,.int .i64 0,.int .i64 0,.int .i64 0,.int .i64 0,.int .i64 0,.int .i64 0,.int .i64 0,.int .i64 0,.int .i64 0,.int .i64 0,.slice none 0 0],jK:=some (.pair (.int .i64) (.pair (.int .i64) (.pair (.int .i64) (.pair (.arr 8 (.int .i64)) (.pair (.int .i64) (.pair (.int .i64) (.pair (.int .i64) (.pair (.int .i64) (.pair (.int .i64) (.pair (.sl (.int .i64)) .unit)))))))))) }
theorem X7:aU Tryz.prog 34 acC:=aU.of_eq (by kernel_rfl) (by kernel_rfl) rfl rfl (aZ (i:=acC) (s0:=(.pair (.int .i64) (.pair (.int .i64) (.pair (.int .i64) (.pair (.arr 8 (.int .i64)) (.pair (.int .i64) (.pair (.int .i64) (.pair (.int .i64) (.pair (.int .i64) (.pair (.int .i64) (.pair (.sl (.int .i64)) .unit))))))))))) rfl rfl rfl rfl)
abbrev acD:TI:={ desc:=.struct #[jd 27 0,jd 3 5,jd 3 6,jd 34 7],size:=24,bytes:=288,zero:=[.slice none 0 0,.slice none 0 0,.slice none 0 0,.slice none 0 0,.slice none 0 0,.int .i64 0,.int .i64 0,.int .i64 0,.int .i64 0,.int .i64 0,.int .i64 0,.int .i64 0,.int .i64 0,.int .i64 0,.int .i64 0,.int .i64 0,.int .i64 0,.int .i64 0,.int .i64 0,.int .i64 0,.int .i64 0,.int .i64 0,.int .i64 0,.slice none 0 0],jK:=some (.pair (.pair (.sl (.pair .str (.pair (.int .i64) .unit))) (.pair (.sl .str) (.pair (.sl .str) (.pair (.sl (.pair .str (.pair (.sl (.pair (.int .i64) (.pair (.int .i64) (.pair (.int .i64) (.pair (.int .i64) (.pair (.int .i64) (.pair (.int .i64) (.pair (.int .i64) (.pair (.int .i64) .unit))))))))) .unit))) (.pair (.sl (.pair (.int .i64) (.pair (.int .i64) .unit))) .unit))))) (.pair (.int .i64) (.pair (.int .i64) (.pair (.pair (.int .i64) (.pair (.int .i64) (.pair (.int .i64) (.pair (.arr 8 (.int .i64)) (.pair (.int .i64) (.pair (.int .i64) (.pair (.int .i64) (.pair (.int .i64) (.pair (.int .i64) (.pair (.sl (.int .i64)) .unit)))))))))) .unit)))) }
theorem X8:aU Tryz.prog 36 acD:=aU.of_eq (by kernel_rfl) (by kernel_rfl) rfl rfl (aZ (i:=acD) (s0:=(.pair (.pair (.sl (.pair .str (.pair (.int .i64) .unit))) (.pair (.sl .str) (.pair (.sl .str) (.pair (.sl (.pair .str (.pair (.sl (.pair (.int .i64) (.pair (.int .i64) (.pair (.int .i64) (.pair (.int .i64) (.pair (.int .i64) (.pair (.int .i64) (.pair (.int .i64) (.pair (.int .i64) .unit))))))))) .unit))) (.pair (.sl (.pair (.int .i64) (.pair (.int .i64) .unit))) .unit))))) (.pair (.int .i64) (.pair (.int .i64) (.pair (.pair (.int .i64) (.pair (.int .i64) (.pair (.int .i64) (.pair (.arr 8 (.int .i64)) (.pair (.int .i64) (.pair (.int .i64) (.pair (.int .i64) (.pair (.int .i64) (.pair (.int .i64) (.pair (.sl (.int .i64)) .unit)))))))))) .unit))))) rfl rfl rfl rfl)
abbrev acE:TI:={ desc:=.int .i64,size:=1,bytes:=8,zero:=[.int .i64 0],jK:=some (.int .i64) }
theorem X9:aU Tryz.prog 44 acE:=aU.of_eq (by kernel_rfl) (by kernel_rfl) rfl rfl (aZ (i:=acE) (s0:=(.int .i64)) rfl rfl rfl rfl)
abbrev acF:TI:={ desc:=.int .i64,size:=1,bytes:=8,zero:=[.int .i64 0],jK:=some (.int .i64) }
theorem Ya:aU Tryz.prog 45 acF:=aU.of_eq (by kernel_rfl) (by kernel_rfl) rfl rfl (aZ (i:=acF) (s0:=(.int .i64)) rfl rfl rfl rfl)
abbrev acG:TI:={ desc:=.int .i64,size:=1,bytes:=8,zero:=[.int .i64 0],jK:=some (.int .i64) }
theorem Yb:aU Tryz.prog 46 acG:=aU.of_eq (by kernel_rfl) (by kernel_rfl) rfl rfl (aZ (i:=acG) (s0:=(.int .i64)) rfl rfl rfl rfl)
abbrev acH:TI:={ desc:=.struct #[jd 44 0,jd 3 1,jd 3 2,jd 3 3,jd 3 4,jd 3 5,jd 45 6,jd 46 7],size:=8,bytes:=64,zero:=[.int .i64 0,.int .i64 0,.int .i64 0,.int .i64 0,.int .i64 0,.int .i64 0,.int .i64 0,.int .i64 0],jK:=some (.pair (.int .i64) (.pair (.int .i64) (.pair (.int .i64) (.pair (.int .i64) (.pair (.int .i64) (.pair (.int .i64) (.pair (.int .i64) (.pair (.int .i64) .unit)))))))),Dp:=[.i,.i,.i,.i,.i,.i,.i,.i] }
theorem Yc:aU Tryz.prog 47 acH:=aU.of_eq (by kernel_rfl) (by kernel_rfl) rfl rfl (aZ (i:=acH) (s0:=(.pair (.int .i64) (.pair (.int .i64) (.pair (.int .i64) (.pair (.int .i64) (.pair (.int .i64) (.pair (.int .i64) (.pair (.int .i64) (.pair (.int .i64) .unit))))))))) rfl rfl rfl rfl) (λ_=>by kernel_rfl)
abbrev acI:TI:={ desc:=.struct #[jd 44 0,jd 3 1,jd 3 2,jd 3 3,jd 3 4,jd 3 5,jd 45 6,jd 46 7],size:=8,bytes:=64,zero:=[.int .i64 0,.int .i64 0,.int .i64 0,.int .i64 0,.int .i64 0,.int .i64 0,.int .i64 0,.int .i64 0],jK:=some (.pair (.int .i64) (.pair (.int .i64) (.pair (.int .i64) (.pair (.int .i64) (.pair (.int .i64) (.pair (.int .i64) (.pair (.int .i64) (.pair (.int .i64) .unit)))))))),Dp:=[.i,.i,.i,.i,.i,.i,.i,.i] }
theorem Yd:aU Tryz.prog 48 acI:=aU.of_eq (by kernel_rfl) (by kernel_rfl) rfl rfl (aZ (i:=acI) (s0:=(.pair (.int .i64) (.pair (.int .i64) (.pair (.int .i64) (.pair (.int .i64) (.pair (.int .i64) (.pair (.int .i64) (.pair (.int .i64) (.pair (.int .i64) .unit))))))))) rfl rfl rfl rfl) (λ_=>by kernel_rfl)
abbrev acJ:TI:={ desc:=.slice 48,size:=1,bytes:=24,zero:=[.slice none 0 0],jK:=some (.sl (.pair (.int .i64) (.pair (.int .i64) (.pair (.int .i64) (.pair (.int .i64) (.pair (.int .i64) (.pair (.int .i64) (.pair (.int .i64) (.pair (.int .i64) .unit))))))))) }
theorem Ye:aU Tryz.prog 56 acJ:=aU.of_eq (by kernel_rfl) (by kernel_rfl) rfl rfl (aZ (i:=acJ) (s0:=(.sl (.pair (.int .i64) (.pair (.int .i64) (.pair (.int .i64) (.pair (.int .i64) (.pair (.int .i64) (.pair (.int .i64) (.pair (.int .i64) (.pair (.int .i64) .unit)))))))))) rfl rfl rfl rfl)
abbrev acK:TI:={ desc:=.struct #[jd 9 0,jd 56 1],size:=2,bytes:=40,zero:=[.string ⟨#[]⟩,.slice none 0 0],jK:=some (.pair .str (.pair (.sl (.pair (.int .i64) (.pair (.int .i64) (.pair (.int .i64) (.pair (.int .i64) (.pair (.int .i64) (.pair (.int .i64) (.pair (.int .i64) (.pair (.int .i64) .unit))))))))) .unit)) }
theorem Yf:aU Tryz.prog 57 acK:=aU.of_eq (by kernel_rfl) (by kernel_rfl) rfl rfl (aZ (i:=acK) (s0:=(.pair .str (.pair (.sl (.pair (.int .i64) (.pair (.int .i64) (.pair (.int .i64) (.pair (.int .i64) (.pair (.int .i64) (.pair (.int .i64) (.pair (.int .i64) (.pair (.int .i64) .unit))))))))) .unit))) rfl rfl rfl rfl)
abbrev acL:TI:={ desc:=.struct #[jd 9 0,jd 56 1],size:=2,bytes:=40,zero:=[.string ⟨#[]⟩,.slice none 0 0],jK:=some (.pair .str (.pair (.sl (.pair (.int .i64) (.pair (.int .i64) (.pair (.int .i64) (.pair (.int .i64) (.pair (.int .i64) (.pair (.int .i64) (.pair (.int .i64) (.pair (.int .i64) .unit))))))))) .unit)) }
theorem Yg:aU Tryz.prog 58 acL:=aU.of_eq (by kernel_rfl) (by kernel_rfl) rfl rfl (aZ (i:=acL) (s0:=(.pair .str (.pair (.sl (.pair (.int .i64) (.pair (.int .i64) (.pair (.int .i64) (.pair (.int .i64) (.pair (.int .i64) (.pair (.int .i64) (.pair (.int .i64) (.pair (.int .i64) .unit))))))))) .unit))) rfl rfl rfl rfl)
abbrev acM:TI:={ desc:=.struct #[jd 9 0,jd 3 1],size:=2,bytes:=24,zero:=[.string ⟨#[]⟩,.int .i64 0],jK:=some (.pair .str (.pair (.int .i64) .unit)),Dp:=[.s,.i] }
theorem Yh:aU Tryz.prog 59 acM:=aU.of_eq (by kernel_rfl) (by kernel_rfl) rfl rfl (aZ (i:=acM) (s0:=(.pair .str (.pair (.int .i64) .unit))) rfl rfl rfl rfl) (λ_=>by kernel_rfl)
abbrev acN:TI:={ desc:=.struct #[jd 9 0,jd 3 1],size:=2,bytes:=24,zero:=[.string ⟨#[]⟩,.int .i64 0],jK:=some (.pair .str (.pair (.int .i64) .unit)),Dp:=[.s,.i] }
theorem Yi:aU Tryz.prog 60 acN:=aU.of_eq (by kernel_rfl) (by kernel_rfl) rfl rfl (aZ (i:=acN) (s0:=(.pair .str (.pair (.int .i64) .unit))) rfl rfl rfl rfl) (λ_=>by kernel_rfl)
abbrev acO:TI:={ desc:=.struct #[jd 3 0,jd 3 1],size:=2,bytes:=16,zero:=[.int .i64 0,.int .i64 0],jK:=some (.pair (.int .i64) (.pair (.int .i64) .unit)),Dp:=[.i,.i] }
theorem Yj:aU Tryz.prog 61 acO:=aU.of_eq (by kernel_rfl) (by kernel_rfl) rfl rfl (aZ (i:=acO) (s0:=(.pair (.int .i64) (.pair (.int .i64) .unit))) rfl rfl rfl rfl) (λ_=>by kernel_rfl)
abbrev acP:TI:={ desc:=.struct #[jd 3 0,jd 3 1],size:=2,bytes:=16,zero:=[.int .i64 0,.int .i64 0],jK:=some (.pair (.int .i64) (.pair (.int .i64) .unit)),Dp:=[.i,.i] }
theorem Yk:aU Tryz.prog 62 acP:=aU.of_eq (by kernel_rfl) (by kernel_rfl) rfl rfl (aZ (i:=acP) (s0:=(.pair (.int .i64) (.pair (.int .i64) .unit))) rfl rfl rfl rfl) (λ_=>by kernel_rfl)
abbrev acQ:TI:={ desc:=.int .u32,size:=1,bytes:=4,zero:=[.int .u32 0],jK:=some (.int .u32) }
theorem Ym:aU Tryz.prog 85 acQ:=aU.of_eq (by kernel_rfl) (by kernel_rfl) rfl rfl (aZ (i:=acQ) (s0:=(.int .u32)) rfl rfl rfl rfl)
abbrev acR:TI:={ desc:=.array 7 4,size:=7,bytes:=7,zero:=[.bool false,.bool false,.bool false,.bool false,.bool false,.bool false,.bool false],jK:=some (.arr 7 .bool) }
theorem Yn:aU Tryz.prog 87 acR:=aU.of_eq (by kernel_rfl) (by kernel_rfl) rfl rfl (aZ (i:=acR) (s0:=(.arr 7 .bool)) rfl rfl rfl rfl)
abbrev acS:TI:={ desc:=.struct #[jd 9 0,jd 87 1],size:=8,bytes:=24,zero:=[.string ⟨#[]⟩,.bool false,.bool false,.bool false,.bool false,.bool false,.bool false,.bool false],jK:=some (.pair .str (.pair (.arr 7 .bool) .unit)) }
theorem Yo:aU Tryz.prog 88 acS:=aU.of_eq (by kernel_rfl) (by kernel_rfl) rfl rfl (aZ (i:=acS) (s0:=(.pair .str (.pair (.arr 7 .bool) .unit))) rfl rfl rfl rfl)
abbrev acT:TI:={ desc:=.struct #[jd 9 0,jd 87 1],size:=8,bytes:=24,zero:=[.string ⟨#[]⟩,.bool false,.bool false,.bool false,.bool false,.bool false,.bool false,.bool false],jK:=some (.pair .str (.pair (.arr 7 .bool) .unit)) }
theorem Yp:aU Tryz.prog 89 acT:=aU.of_eq (by kernel_rfl) (by kernel_rfl) rfl rfl (aZ (i:=acT) (s0:=(.pair .str (.pair (.arr 7 .bool) .unit))) rfl rfl rfl rfl)
abbrev acU:TI:={ desc:=.array 22 89,size:=176,bytes:=528,zero:=[.string ⟨#[]⟩,.bool false,.bool false,.bool false,.bool false,.bool false,.bool false,.bool false,.string ⟨#[]⟩,.bool false,.bool false,.bool false,.bool false,.bool false,.bool false,.bool false,.string ⟨#[]⟩,.bool false,.bool false,.bool false,.bool false,.bool false,.bool false,.bool false,.string ⟨#[]⟩,.bool false,.bool false,.bool false,.bool false,.bool false,.bool false,.bool false,.string ⟨#[]⟩,.bool false,.bool false,.bool false,.bool false,.bool false,.bool false,.bool false,.string ⟨#[]⟩,.bool false,.bool false,.bool false,.bool false,.bool false,.bool false,.bool false,.string ⟨#[]⟩,.bool false,.bool false,.bool false,.bool false,.bool false,.bool false,.bool false,.string ⟨#[]⟩,.bool false,.bool false,.bool false,.bool false,.bool false,.bool false,.bool false,.string ⟨#[]⟩,.bool false,.bool false,.bool false,.bool false,.bool false,.bool false,.bool false,.string ⟨#[]⟩,.bool false,.bool false,.bool false,.bool false,.bool false,.bool false,.bool false,.string ⟨#[]⟩,.bool false,.bool false,.bool false,.bool false,.bool false,.bool false,.bool false,.string ⟨#[]⟩,.bool false,.bool false,.bool false,.bool false,.bool false,.bool false,.bool false,.string ⟨#[]⟩,.bool false,.bool false,.bool false,.bool false,.bool false,.bool false,.bool false,.string ⟨#[]⟩,.bool false,.bool false,.bool false,.bool false,.bool false,.bool false,.bool false,.string ⟨#[]⟩,.bool false,.bool false,.bool false,.bool false,.bool false,.bool false,.bool false,.string ⟨#[]⟩,.bool false,.bool false,.bool false,.bool false,.bool false,.bool false,.bool false,.string ⟨#[]⟩,.bool false,.bool false,.bool false,.bool false,.bool false,.bool false,.bool false,.string ⟨#[]⟩,.bool false,.bool false,.bool false,.bool false,.bool false,.bool false,.bool false,.string ⟨#[]⟩,.bool false,.bool false,.bool false,.bool false,.bool false,.bool false,.bool false,.string ⟨#[]⟩,.bool false,.bool false,.bool false,.bool false,.bool false,.bool false,.bool false,.string ⟨#[]⟩,.bool false,.bool false,.bool false,.bool false,.bool false,.bool false,.bool false,.string ⟨#[]⟩,.bool false,.bool false,.bool false,.bool false,.bool false,.bool false,.bool false],jK:=some (.arr 22 (.pair .str (.pair (.arr 7 .bool) .unit))) }
theorem Yq:aU Tryz.prog 90 acU:=aU.of_eq (by kernel_rfl) (by kernel_rfl) rfl rfl (aZ (i:=acU) (s0:=(.arr 22 (.pair .str (.pair (.arr 7 .bool) .unit)))) rfl rfl rfl rfl)
abbrev acV:TI:={ desc:=.struct #[jd 3 0,jd 3 1],size:=2,bytes:=16,zero:=[.int .i64 0,.int .i64 0],jK:=some (.pair (.int .i64) (.pair (.int .i64) .unit)),Dp:=[.i,.i] }
theorem Yr:aU Tryz.prog 93 acV:=aU.of_eq (by kernel_rfl) (by kernel_rfl) rfl rfl (aZ (i:=acV) (s0:=(.pair (.int .i64) (.pair (.int .i64) .unit))) rfl rfl rfl rfl) (λ_=>by kernel_rfl)
abbrev acW:TI:={ desc:=.struct #[jd 3 0,jd 3 1],size:=2,bytes:=16,zero:=[.int .i64 0,.int .i64 0],jK:=some (.pair (.int .i64) (.pair (.int .i64) .unit)),Dp:=[.i,.i] }
theorem Yt:aU Tryz.prog 94 acW:=aU.of_eq (by kernel_rfl) (by kernel_rfl) rfl rfl (aZ (i:=acW) (s0:=(.pair (.int .i64) (.pair (.int .i64) .unit))) rfl rfl rfl rfl) (λ_=>by kernel_rfl)
abbrev Uy:TI:={ desc:=.array 7 3,size:=7,bytes:=56,zero:=[.int .i64 0,.int .i64 0,.int .i64 0,.int .i64 0,.int .i64 0,.int .i64 0,.int .i64 0],jK:=some (.arr 7 (.int .i64)),Dp:=[.i] }
theorem Uz:aU Tryz.prog 105 Uy:=aU.of_eq (by kernel_rfl) (by kernel_rfl) rfl rfl (aZ (i:=Uy) (s0:=(.arr 7 (.int .i64))) rfl rfl rfl rfl) (λ_=>by kernel_rfl)
abbrev UA:TI:={ desc:=.array 3 3,size:=3,bytes:=24,zero:=[.int .i64 0,.int .i64 0,.int .i64 0],jK:=some (.arr 3 (.int .i64)),Dp:=[.i] }
theorem UC:aU Tryz.prog 107 UA:=aU.of_eq (by kernel_rfl) (by kernel_rfl) rfl rfl (aZ (i:=UA) (s0:=(.arr 3 (.int .i64))) rfl rfl rfl rfl) (λ_=>by kernel_rfl)
abbrev UD:TI:={ desc:=.slice 23,size:=1,bytes:=24,zero:=[.slice none 0 0],jK:=some (.sl (.sl .str)) }
theorem UE:aU Tryz.prog 111 UD:=aU.of_eq (by kernel_rfl) (by kernel_rfl) rfl rfl (aZ (i:=UD) (s0:=(.sl (.sl .str))) rfl rfl rfl rfl)
abbrev UF:TI:={ desc:=.array 4 3,size:=4,bytes:=32,zero:=[.int .i64 0,.int .i64 0,.int .i64 0,.int .i64 0],jK:=some (.arr 4 (.int .i64)),Dp:=[.i] }
theorem UG:aU Tryz.prog 124 UF:=aU.of_eq (by kernel_rfl) (by kernel_rfl) rfl rfl (aZ (i:=UF) (s0:=(.arr 4 (.int .i64))) rfl rfl rfl rfl) (λ_=>by kernel_rfl)
abbrev UH:TI:={ desc:=.array 10 9,size:=10,bytes:=160,zero:=[.string ⟨#[]⟩,.string ⟨#[]⟩,.string ⟨#[]⟩,.string ⟨#[]⟩,.string ⟨#[]⟩,.string ⟨#[]⟩,.string ⟨#[]⟩,.string ⟨#[]⟩,.string ⟨#[]⟩,.string ⟨#[]⟩],jK:=some (.arr 10 .str) }
theorem UJ:aU Tryz.prog 125 UH:=aU.of_eq (by kernel_rfl) (by kernel_rfl) rfl rfl (aZ (i:=UH) (s0:=(.arr 10 .str)) rfl rfl rfl rfl)
abbrev UK:TI:={ desc:=.int .u64,size:=1,bytes:=8,zero:=[.int .u64 0],jK:=some (.int .u64) }
theorem UL:aU Tryz.prog 128 UK:=aU.of_eq (by kernel_rfl) (by kernel_rfl) rfl rfl (aZ (i:=UK) (s0:=(.int .u64)) rfl rfl rfl rfl)
abbrev UM:TI:={ desc:=.int .u64,size:=1,bytes:=8,zero:=[.int .u64 0],jK:=some (.int .u64) }
theorem UN:aU Tryz.prog 143 UM:=aU.of_eq (by kernel_rfl) (by kernel_rfl) rfl rfl (aZ (i:=UM) (s0:=(.int .u64)) rfl rfl rfl rfl)
abbrev tis:List (Nat×TI):=[(3,ti3),(4,ti4),(5,ti5),(9,ti9),(21,acj),(22,acn),(23,aco),(24,acp),(25,acr),(26,acs),(27,acu),(28,acv),(29,acw),(30,acy),(31,acz),(32,acA),(33,acB),(34,acC),(36,acD),(44,acE),(45,acF),(46,acG),(47,acH),(48,acI),(56,acJ),(57,acK),(58,acL),(59,acM),(60,acN),(61,acO),(62,acP),(85,acQ),(87,acR),(88,acS),(89,acT),(90,acU),(93,acV),(94,acW),(105,Uy),(107,UA),(111,UD),(124,UF),(125,UH),(128,UK),(143,UM)]
theorem aF:bT Tryz.prog tis:=⟨acf,acg,ach,aci,XQ,XR,XT,XU,XV,XW,XY,XZ,X0,X3,X4,X5,X6,X7,X8,X9,Ya,Yb,Yc,Yd,Ye,Yf,Yg,Yh,Yi,Yj,Yk,Ym,Yn,Yo,Yp,Yq,Yr,Yt,Uz,UC,UE,UG,UJ,UL,UN,trivial⟩
abbrev I6:Sh:=.int .i64
abbrev iR(n:Int):Prop:=Je IntKind.i64 n
abbrev iU:Int:=4294967296
abbrev iN:SC:=SC.v (Value.slice none 0 0)
abbrev v6(n:Int):SC:=.v (.int .i64 n)
abbrev cI(n:Int):SV:=.c (.v (.int .i64 n))
abbrev cB(b:Bool):SV:=.c (.v (.bool b))
abbrev g0(r:aC):Go.lM.Gd×aC:=([],r)
abbrev rE(a b:aW):Prop:=([]:List aC)=[]/\a=b
abbrev rT(a b:List SV):Prop:=([]:List aC)=[]/\aW.iQ a=aW.iQ b
abbrev qI(a b:Int):Prop:=([]:List aC)=[]/\aW.one (.c (.v (.int .i64 a)))=aW.one (.c (.v (.int .i64 b)))
abbrev qB(a b:Bool):Prop:=([]:List aC)=[]/\aW.one (.c (.v (.bool a)))=aW.one (.c (.v (.bool b)))
abbrev sm{α:Type} (a:α):Prop:=a=a
def acX:List (List Bool):=[[true,false,false,false,true,false,false],[true,true,false,false,false,false,false],[true,true,true,false,false,true,false],[false,false,false,false,true,false,false],[false,true,false,false,true,false,false],[false,true,false,false,false,false,false],[false,false,false,false,false,false,false],[true,false,false,true,false,false,true],[false,true,false,true,false,false,true],[true,true,false,true,false,false,true],[true,true,false,true,false,false,true],[true,true,true,true,false,false,true],[false,false,false,false,false,false,false],[true,true,false,true,false,true,true],[false,false,false,true,false,false,false],[false,false,false,true,false,false,false],[true,false,false,true,false,false,false],[false,false,false,true,true,false,false],[false,false,false,true,false,false,false],[false,false,false,true,false,false,false],[true,true,false,true,false,false,false],[false,true,false,false,false,false,false]]
def fieldsD:List ByteArray:=[⟨#[65,78]⟩,⟨#[65,66]⟩,⟨#[70,65,66,67]⟩,⟨#[78]⟩,⟨#[66,78]⟩,⟨#[66]⟩,⟨#[]⟩,⟨#[65,79,82]⟩,⟨#[79,66,82]⟩,⟨#[65,79,66,82]⟩,⟨#[65,79,66,82]⟩,⟨#[65,79,66,67,82]⟩,⟨#[]⟩,⟨#[65,79,70,66,82]⟩,⟨#[79]⟩,⟨#[79]⟩,⟨#[65,79]⟩,⟨#[79,78]⟩,⟨#[79]⟩,⟨#[79]⟩,⟨#[65,79,66]⟩,⟨#[66]⟩]
def FX:List ByteArray:=[⟨#[97,100,100]⟩,⟨#[115,117,98]⟩,⟨#[109,117,108]⟩,⟨#[97,110,100]⟩,⟨#[111,114]⟩,⟨#[120,111,114]⟩,⟨#[101,113]⟩,⟨#[110,101]⟩,⟨#[108,116]⟩,⟨#[108,101]⟩]
def IL:List (ByteArray×List Bool×Unit):=[(⟨#[99,111,110,115,116]⟩,[true,false,false,false,true,false,false],()),(⟨#[99,111,112,121]⟩,[true,true,false,false,false,false,false],()),(⟨#[99,97,108,99]⟩,[true,true,true,false,false,true,false],()),(⟨#[106,117,109,112]⟩,[false,false,false,false,true,false,false],()),(⟨#[98,114,97,110,99,104]⟩,[false,true,false,false,true,false,false],()),(⟨#[97,115,115,101,114,116]⟩,[false,true,false,false,false,false,false],()),(⟨#[115,116,111,112]⟩,[false,false,false,false,false,false,false],()),(⟨#[108,111,97,100]⟩,[true,false,false,true,false,false,true],()),(⟨#[115,116,111,114,101]⟩,[false,true,false,true,false,false,true],()),(⟨#[115,119,97,112]⟩,[true,true,false,true,false,false,true],()),(⟨#[102,101,116,99,104,97,100,100]⟩,[true,true,false,true,false,false,true],()),(⟨#[99,97,115]⟩,[true,true,true,true,false,false,true],()),(⟨#[102,101,110,99,101]⟩,[false,false,false,false,false,false,false],()),(⟨#[97,119,97,105,116]⟩,[true,true,false,true,false,true,true],()),(⟨#[108,111,99,107]⟩,[false,false,false,true,false,false,false],()),(⟨#[117,110,108,111,99,107]⟩,[false,false,false,true,false,false,false],()),(⟨#[116,114,121,108,111,99,107]⟩,[true,false,false,true,false,false,false],()),(⟨#[119,97,105,116]⟩,[false,false,false,true,true,false,false],()),(⟨#[115,105,103,110,97,108]⟩,[false,false,false,true,false,false,false],()),(⟨#[98,114,111,97,100,99,97,115,116]⟩,[false,false,false,true,false,false,false],()),(⟨#[115,112,97,119,110]⟩,[true,true,false,true,false,false,false],()),(⟨#[106,111,105,110]⟩,[false,true,false,false,false,false,false],())]
abbrev gd0:Nat->Option (Sigma Sh.den):=λg=>match g with
 | 0=>some ⟨.arr 22 (.pair .str (.pair (.arr 7 .bool) .unit)),IL⟩
 | 1=>some ⟨.arr 10 .str,FX⟩
 | _=>none
abbrev bM:Cx:={ ti:=tis,gd:=gd0 }
abbrev kC:Sh:=.pair (.int .i64) (.pair (.int .i64) (.pair (.int .i64) (.pair (.int .i64) (.pair (.int .i64) (.pair (.int .i64) (.pair (.int .i64) (.pair (.int .i64) .unit)))))))
def use(op:Int) (k:Nat):Bool:=decide (1<=op) && decide (op<=22) && (acX.getD (op - 1).toNat []).getD k false
def qc(op:Int):Bool:=decide (1<=op) && decide (op<=22)
def sH(f:Int):ByteArray:=if 1<=f/\f<=10 then FX.getD (f - 1).toNat ByteArray.empty else ByteArray.empty
abbrev afT:CT:={ ps:=[],pre:=λd=>True,res:=λd=>([.row 9 .str fieldsD],.one (.c (.row 0))) }
abbrev acY  : Nat->Option (St->mO):=λ_=>none
abbrev IQ:=SV.c (SC.row (0:Nat))
theorem Yu :
 [aC.row (9:TypeId) Sh.str fieldsD]=[aC.row (9:TypeId) Sh.str [{ data:=#[(65:UInt8),78]:ByteArray },{ data:=#[(65:UInt8),66]:ByteArray },{ data:=#[(70:UInt8),65,66,67]:ByteArray },{ data:=#[(78:UInt8)]:ByteArray },{ data:=#[(66:UInt8),78]:ByteArray },{ data:=#[(66:UInt8)]:ByteArray },{ data:=#[]:ByteArray },{ data:=#[(65:UInt8),79,82]:ByteArray },{ data:=#[(79:UInt8),66,82]:ByteArray },{ data:=#[(65:UInt8),79,66,82]:ByteArray },{ data:=#[(65:UInt8),79,66,82]:ByteArray },{ data:=#[(65:UInt8),79,66,67,82]:ByteArray },{ data:=#[]:ByteArray },{ data:=#[(65:UInt8),79,70,66,82]:ByteArray },{ data:=#[(79:UInt8)]:ByteArray },{ data:=#[(79:UInt8)]:ByteArray },{ data:=#[(65:UInt8),79]:ByteArray },{ data:=#[(79:UInt8),78]:ByteArray },{ data:=#[(79:UInt8)]:ByteArray },{ data:=#[(79:UInt8)]:ByteArray },{ data:=#[(65:UInt8),79,66]:ByteArray },{ data:=#[(66:UInt8)]:ByteArray }]]/\aW.one IQ=aW.one IQ:=by
 delta IQ;exact⟨rfl,rfl⟩
theorem UO:bJ bM.gd 107 afT:=
 jA (cx:=bM) (n:=2) (cl:=[]) aF trivial Tryz.func107 λd hd=>by
  obtain⟨⟩:=d;exact⟨acY ,cast (by kernel_rfl) (Yu )⟩
abbrev afU:CT:={ ps:=[.int .i64],pre:=λd=>True,res:=λd=>([],vB (qc d.1)) }
theorem acZ(op:Int):
 qB (qc op) (decide (1<=op) && decide (op<=22)):=by
 delta qB;exact⟨rfl,rfl⟩
theorem Yv:bJ bM.gd 64 afU:=
 jA (cx:=bM) (n:=9) (cl:=[]) aF trivial Tryz.func64 λd hd=>by
  obtain⟨op,⟨⟩⟩:=d;exact⟨λ_=>none,cast (by kernel_rfl) (acZ op)⟩
abbrev afV:CT:={ ps:=[.int .i64],pre:=λd=>True,res:=λd=>([],vB (decide (0<=d.1) && decide (d.1 < 8))) }
theorem ac0(r:Int):
 let z1:=decide (0<=r) && decide (r < 8);qB z1 z1:=by
 conv=>zeta
 delta qB;exact⟨rfl,rfl⟩
theorem Yw:bJ bM.gd 92 afV:=
 jA (cx:=bM) (n:=9) (cl:=[]) aF trivial Tryz.func92 λd hd=>by
  obtain⟨r,⟨⟩⟩:=d;exact⟨λ_=>none,cast (by kernel_rfl) (ac0 r)⟩
abbrev afW:CT:={ ps:=[kC],pre:=λd=>True,res:=λd=>([],.one (.dat (.arr 7 (.int .i64)) [d.1.2.1,d.1.2.2.1,d.1.2.2.2.1,d.1.2.2.2.2.1,d.1.2.2.2.2.2.1,d.1.2.2.2.2.2.2.1,d.1.2.2.2.2.2.2.2.1])) }
theorem ac1(op a b c obj n fn ord:Int):
 let z1:=[a,b,c,obj,n,fn,ord];rE (aW.one (SV.dat (Sh.arr 7 I6) z1)) (aW.one (SV.dat (Sh.arr 7 I6) z1)):=by
 conv=>zeta
 delta rE I6;exact⟨rfl,rfl⟩
theorem Yx:bJ bM.gd 65 afW:=
 jA (cx:=bM) (n:=18) (cl:=[]) aF trivial Tryz.func65 λd hd=>by
  obtain⟨⟨op,a,b,c,obj,n,fn,ord,⟨⟩⟩,⟨⟩⟩:=d;exact⟨λ_=>none,cast (by kernel_rfl) (ac1 op a b c obj n fn ord)⟩
abbrev afX:CT:={ ps:=[.int .i64],pre:=λd=>True,res:=λd=>([],.one (.c (.v (.string (sH d.1))))) }
theorem ac2(f:Int):
 let z1:=aW.one (SV.c (SC.v (Value.string (sH f))));br (decide (f < 1) || decide (10 < f)) (rE z1 (aW.one (SV.c (SC.v (Value.string { data:=#[]:ByteArray }))))) (iR (f - 1)/\(0<=f - 1/\f - 1 < (10:Int))/\∀(d:ByteArray),FX[(f - 1).toNat]?=some d->rE z1 (aW.one (SV.c (SC.v (Value.string d))))):=by
 conv=>zeta
 delta rE iR;refine ak.2 ⟨λh=>?_,λh=>?_⟩
 .simp only[uM,iE]at h;rw[show sH f=ByteArray.empty from if_neg (by omega)]
  exact⟨rfl,rfl⟩
 .simp only[pz,iZ]at h;refine⟨aA.2 (by omega),by omega,λd hd=>⟨rfl,?_⟩⟩
  rw[show sH f=FX.getD (f - 1).toNat ByteArray.empty from if_pos (by omega),List.getD,hd];rfl
theorem Yy:bJ bM.gd 66 afX:=
 jA (cx:=bM) (n:=13) (cl:=[]) aF trivial Tryz.func66 λd hd=>by
  obtain⟨f,⟨⟩⟩:=d;exact⟨λ_=>none,cast (by kernel_rfl) (ac2 f)⟩
abbrev afY:CT:={ ps:=[.int .i64],pre:=λd=>True,res:=λd=>([],.one (.c (.v (.string (sH d.1))))) }
theorem ac3(f:Int):
 let z1:=aW.one (SV.c (SC.v (Value.string (sH f))));br (decide (f=1)) (rE z1 (aW.one (SV.c (SC.v (Value.string { data:=#[(97:UInt8),100,100]:ByteArray }))))) (br (decide (f=2)) (rE z1 (aW.one (SV.c (SC.v (Value.string { data:=#[(115:UInt8),117,98]:ByteArray }))))) (br (decide (f=3)) (rE z1 (aW.one (SV.c (SC.v (Value.string { data:=#[(109:UInt8),117,108]:ByteArray }))))) (br (decide (f=4)) (rE z1 (aW.one (SV.c (SC.v (Value.string { data:=#[(97:UInt8),110,100]:ByteArray }))))) (br (decide (f=5)) (rE z1 (aW.one (SV.c (SC.v (Value.string { data:=#[(111:UInt8),114]:ByteArray }))))) (br (decide (f=6)) (rE z1 (aW.one (SV.c (SC.v (Value.string { data:=#[(120:UInt8),111,114]:ByteArray }))))) (br (decide (f=7)) (rE z1 (aW.one (SV.c (SC.v (Value.string { data:=#[(101:UInt8),113]:ByteArray }))))) (br (decide (f=8)) (rE z1 (aW.one (SV.c (SC.v (Value.string { data:=#[(110:UInt8),101]:ByteArray }))))) (br (decide (f=9)) (rE z1 (aW.one (SV.c (SC.v (Value.string { data:=#[(108:UInt8),116]:ByteArray }))))) (br (decide (f=10)) (rE z1 (aW.one (SV.c (SC.v (Value.string { data:=#[(108:UInt8),101]:ByteArray }))))) (rE z1 (aW.one (SV.c (SC.v (Value.string { data:=#[]:ByteArray })))))))))))))):=by
 conv=>zeta
 delta rE
 by_cases h:1<=f/\f<=10
 .have:f=1\/f=2\/f=3\/f=4\/f=5\/f=6\/f=7\/f=8\/f=9\/f=10:=by omega
  rcases this with rfl | rfl | rfl | rfl | rfl | rfl | rfl | rfl | rfl | rfl<;>exact⟨rfl,rfl⟩
 .have e:sH f=ByteArray.empty:=if_neg h;rw[e];rw[show decide (f=1)=false from Ep (by omega)]
  rw[show decide (f=2)=false from Ep (by omega)]
  rw[show decide (f=3)=false from Ep (by omega)]
  rw[show decide (f=4)=false from Ep (by omega)]
  rw[show decide (f=5)=false from Ep (by omega)]
  rw[show decide (f=6)=false from Ep (by omega)]
  rw[show decide (f=7)=false from Ep (by omega)]
  rw[show decide (f=8)=false from Ep (by omega)]
  rw[show decide (f=9)=false from Ep (by omega)]
  rw[show decide (f=10)=false from Ep (by omega)]
  exact⟨rfl,rfl⟩
theorem Yz:bJ bM.gd 93 afY:=
 jA (cx:=bM) (n:=24) (cl:=[]) aF trivial Tryz.func93 λd hd=>by
  obtain⟨f,⟨⟩⟩:=d;exact⟨λ_=>none,cast (by kernel_rfl) (ac3 f)⟩
def fE(op c:Int):Bool:=decide (1<=op) && decide (op<=22) && ((fieldsD.getD (op - 1).toNat ByteArray.empty).data.toList.any λb=>decide ((b.toNat:Int)=c))
abbrev afZ:CT:={ ps:=[.int .i64,.int .u8],pre:=λd=>True,res:=λd=>([],vB (fE d.1 d.2.1)) }
abbrev af0(op c:Int):Nat->Option (St->mO):=λk=>match k with
 | 5=>some λs=>.inv { α:=Nat,slots:=λk=>[(6,.c (.v (.int .i64 k)))],res:=λ_=>[],inv:=λk=>k<=(Ub s 5).size/\∀j,j < k->∀b,(Ub s 5)[j]?=some b->¬((b.toNat:Int)=c),meas:=λk=>(Ub s 5).size - k }
 | _=>none
theorem ac4(op c:Int):
 let z1:=λ(x:Nat) (d:ByteArray)=>(x<=d.size/\∀(j:Nat),j < x->∀(b:UInt8),d[j]?=some b->¬(b.toNat:Int)=c);let z2:=[g0 (aC.row 9 Sh.str fieldsD)];br (decide (op < 1) || decide (22 < op)) (qB (fE op c) false) (True/\iR (op - 1)/\(0<=op - 1/\op - 1 < (22:Int))/\(op - 1).toNat < 22/\∀(d:ByteArray),fieldsD[(op - 1).toNat]?=some d->(∃x,(z1 x d)/\(cI 0=cI (x:Int)/\True)/\sm z2)/\∀(x:Nat),(z1 x d)->br (decide ((x:Int) < (d.size:Int))) ((0<=(x:Int)/\(x:Int) < (d.size:Int))/\∀(u:UInt8),d[(x:Int).toNat]?=some u->br (decide ((u.toNat:Int)=c)) (qB (fE op c) true) (iR ((x:Int)+(1:Int))/\∃x',(z1 x' d)/\(cI ((x:Int)+(1:Int))=cI (x':Int)/\True)/\sm z2/\d.size - x' < d.size - x)) (qB (fE op c) false)):=by
 conv=>zeta
 delta cI g0 qB sm iR;refine ak.2 ⟨λh=>?_,λh=>?_⟩
 .simp only[uM,iE]at h;have:fE op c=false:=by
   unfold fE
   by_cases h1:1<=op<;>by_cases h2:op<=22<;>simp[h1,h2]
   omega
  rw[this];exact⟨rfl,rfl⟩
 .simp only[pz,iZ]at h;refine⟨trivial,aA.2 (by omega),by omega,by omega,λd hd=>⟨⟨0,⟨by omega,λj hj=>by omega⟩,⟨rfl,trivial⟩,rfl⟩,λx hx=>?_⟩⟩
  have e:fE op c=d.data.toList.any λb=>decide ((b.toNat:Int)=c):=by
   unfold fE;rw[List.getD,hd];simp[show 1<=op by omega,show op<=22 by omega]
  have hs:d.size<=9:=(show∀d∈fieldsD,d.size<=9 by decide) d (kT hd)
  have get:∀j:Nat,d[j]?=d.data.toList[j]?:=acd d;refine ak.2 ⟨λgY=>⟨by simp only[iE]at gY;omega,λu hu=>ak.2 ⟨λhc=>?_,λhc=>?_⟩⟩,λhge=>?_⟩
  .simp only[iE]at hc;have hm:u∈d.data.toList:=kT (i:=x) (by rw[<-get];simpa using hu)
   rw[e,Q5.2 ⟨u,hm,by simpa using hc⟩]
   exact⟨rfl,rfl⟩
  .simp only[iZ]at hc;simp only[iE]at gY;refine⟨aA.2 (by omega),x+1,⟨by omega,λj hj b hb=>?_⟩,⟨by simp,trivial⟩,rfl,by omega⟩
   by_cases hjx:j=x
   .subst hjx;have:some u=some b:=by rw[<-hu,<-hb];simp
    cases this;exact hc
   .exact hx.2 j (by omega) b hb
  .simp only[iZ]at hge;have:fE op c=false:=by
    rw[e,List.any_eq_false];intro b hb;obtain⟨j,hj⟩:=Ja hb;have hj':j < d.data.toList.length:=(eU.1 hj).1;have hsz:d.data.toList.length=d.size:=by cases d;simp[ByteArray.size]
    simpa using hx.2 j (by omega) b (by rw[get];exact hj)
   rw[this];exact⟨rfl,rfl⟩
theorem YA:bJ bM.gd 91 afZ:=
 jA (cx:=bM) (n:=29) (cl:=[(107,afT)]) aF ⟨UO,trivial⟩ Tryz.func91 λd hd=>by
  obtain⟨op,c,⟨⟩⟩:=d;exact⟨af0 op c,cast (by kernel_rfl) (ac4 op c)⟩
def Qz(r:Int):Bool:=decide (0<=r) && decide (r < 8)
def nU(op a b c obj n fn ord:Int):Int:=
 if qc op=false then 8 else
 if(!use op 0 && a != 0 || !use op 1 && b != 0 || !use op 2 && c != 0 || !use op 3 && obj != 0 || !use op 4 && n != 0 || !use op 5 && fn != 0 || !use op 6 && ord != 0)=true then 9 else
 if(!Qz a || !Qz b || !Qz c)=true then 10 else
 if(decide (ord < 0) || decide (2 < ord))=true then 13 else
 if(use op 5 && decide (sH fn=(⟨#[]⟩:ByteArray)))=true then 8 else
 if(decide (op=1) && (decide (n < -2147483648) || decide (2147483647 < n)))=true then 2 else 0
theorem IU{op:Int}{nm:ByteArray}{us:List Bool}{u:Unit} (hb:1<=op/\op<=22) (hd:IL[(op - 1).toNat]?=some (nm,us,u)):
 us=[use op 0,use op 1,use op 2,use op 3,use op 4,use op 5,use op 6]:=by
 have key:∀k:Fin 22,(IL[k.1]?).map (λr=>r.2.1)=some ([0,1,2,3,4,5,6].map λj=>(acX.getD k.1 []).getD j false):=by decide
 have h1:=key ⟨(op - 1).toNat,by omega⟩
 simp only at h1;rw[hd]at h1;simp only[QO,OU]at h1;rw[h1];simp[use,hb.1,hb.2]
abbrev ac5:CT:={ ps:=[kC],pre:=λd=>True,res:=λd=>([],.one (.c (.v (.int .i64 (nU d.1.1 d.1.2.1 d.1.2.2.1 d.1.2.2.2.1 d.1.2.2.2.2.1 d.1.2.2.2.2.2.1 d.1.2.2.2.2.2.2.1 d.1.2.2.2.2.2.2.2.1))))) }
abbrev af2(op a b c obj n fn ord:Int):Nat->Option (St->mO):=λk=>match k with
 | 5=>some λ_=>.AY 8
 | 11=>some λ_=>.AY 4
 | _=>none
theorem ac6(op a b c obj n fn ord:Int):
 let z11:=nU op a b c obj n fn ord;let z8:=qI z11 (8:Int);let z12:=[a,b,c,obj,n,fn,ord];let z2:=(0:Int)<=(0:Int)/\(0:Int) < (7:Int);let z10:=λ(V9:Bool) (iC:Int)=>!V9 && !decide (iC=(0:Int));let z9:=qI z11 (9:Int);let z3:=(0:Int)<=(1:Int)/\(1:Int) < (7:Int);let z4:=(0:Int)<=(2:Int)/\(2:Int) < (7:Int);let z5:=(0:Int)<=(5:Int)/\(5:Int) < (7:Int);let z6:=(0:Int)<=(6:Int)/\(6:Int) < (7:Int);let z1:=λ(YB:Bool) (UQ:Int)=>YB && (decide (UQ < (0:Int)) || decide (8<=UQ));let z7:=qI z11 (10:Int);True/\br (!qc op) z8 (iR (op - 1)/\(0<=op - 1/\op - 1 < (22:Int))/\∀(d:ByteArray×((Sh.arr 7 Sh.bool).pair Sh.unit).den),IL[(op - 1).toNat]?=some d->True/\((0:Int)<=(0:Int)/\0 < (z12.length:Int))/\∀(iC:Int),z12[0]?=some iC->z2/\0 < 7/\∀(V9:Bool),(d.snd.fst)[0]?=some V9->br (z10 V9 iC) z9 (iR (1:Int)/\((0:Int)<=(1:Int)/\1 < (z12.length:Int))/\∀(d_3:Int),z12[1]?=some d_3->z3/\1 < 7/\∀(d_4:Bool),(d.snd.fst)[1]?=some d_4->br (z10 d_4 d_3) z9 (iR (2:Int)/\((0:Int)<=(2:Int)/\2 < (z12.length:Int))/\∀(d_5:Int),z12[2]?=some d_5->z4/\2 < 7/\∀(d_6:Bool),(d.snd.fst)[2]?=some d_6->br (z10 d_6 d_5) z9 (iR (3:Int)/\((0:Int)<=(3:Int)/\3 < (z12.length:Int))/\∀(d_7:Int),z12[3]?=some d_7->((0:Int)<=(3:Int)/\(3:Int) < (7:Int))/\3 < 7/\∀(d_8:Bool),(d.snd.fst)[3]?=some d_8->br (z10 d_8 d_7) z9 (iR (4:Int)/\((0:Int)<=(4:Int)/\4 < (z12.length:Int))/\∀(d_9:Int),z12[4]?=some d_9->((0:Int)<=(4:Int)/\(4:Int) < (7:Int))/\4 < 7/\∀(af5:Bool),(d.snd.fst)[4]?=some af5->br (z10 af5 d_9) z9 (iR (5:Int)/\((0:Int)<=(5:Int)/\5 < (z12.length:Int))/\∀(af6:Int),z12[5]?=some af6->z5/\5 < 7/\∀(af7:Bool),(d.snd.fst)[5]?=some af7->br (z10 af7 af6) z9 (iR (6:Int)/\((0:Int)<=(6:Int)/\6 < (z12.length:Int))/\∀(af8:Int),z12[6]?=some af8->z6/\6 < 7/\∀(af9:Bool),(d.snd.fst)[6]?=some af9->br (z10 af9 af8) z9 (iR (7:Int)/\((0:Int)<=(0:Int)/\0 < (↑[a,b,c].length:Int))/\∀(UQ:Int),[a,b,c][0]?=some UQ->z2/\0 < 7/\∀(YB:Bool),(d.snd.fst)[0]?=some YB->br (z1 YB UQ) z7 (iR (1:Int)/\((0:Int)<=(1:Int)/\1 < (↑[a,b,c].length:Int))/\∀(aga:Int),[a,b,c][1]?=some aga->z3/\1 < 7/\∀(agb:Bool),(d.snd.fst)[1]?=some agb->br (z1 agb aga) z7 (iR (2:Int)/\((0:Int)<=(2:Int)/\2 < (↑[a,b,c].length:Int))/\∀(agc:Int),[a,b,c][2]?=some agc->z4/\2 < 7/\∀(agd:Bool),(d.snd.fst)[2]?=some agd->br (z1 agd agc) z7 (iR (3:Int)/\z6/\6 < 7/\∀(agf:Bool),(d.snd.fst)[6]?=some agf->br (agf && (decide (ord < 0) || decide (2 < ord))) (qI z11 (13:Int)) (z5/\5 < 7/\∀(ac7:Bool),(d.snd.fst)[5]?=some ac7->(ac7=true->True)/\br (ac7 && decide (sH fn={ data:=#[]:ByteArray })) z8 (br (decide (op=1) && (decide (n < (-2147483648)) || decide (2147483647 < n))) (qI z11 (2:Int)) (qI z11 (0:Int))))))))))))))):=by
 conv=>zeta
 delta qI iR;refine⟨trivial,ak.2 ⟨λh=>?_,λh=>?_⟩⟩
 .have hk:qc op=false:=by simpa using h
  rw[show nU op a b c obj n fn ord=8 by simp[nU,hk]]
  exact⟨rfl,rfl⟩
 .have hk:qc op=true:=by simpa using h
  have hb:1<=op/\op<=22:=by simpa[qc]using hk
  refine⟨aA.2 (by omega),by omega,λd hd=>?_⟩
  obtain⟨nm,us,⟨⟩⟩:=d;have hu:=IU hb hd;subst hu;clear hd;simp only[WA,List.getElem?_cons_succ,OU,forall_eq',ak,aA,zI,OQ,true_and,aW.one.injEq,SV.c.injEq,SC.v.injEq,Value.int.injEq,nU,hk,Qz];generalize use op 0=u0;generalize use op 1=u1;generalize use op 2=u2;generalize use op 3=u3;generalize use op 4=u4;generalize use op 5=u5;generalize use op 6=u6
  repeat' (first | apply And.intro | intro _)
  all_goals first | omega | decide | skip
  all_goals simp_all
  all_goals grind
theorem NR:bJ bM.gd 48 ac5:=
 jA (cx:=bM) (n:=89) (cl:=[(64,afU),(65,afW),(66,afX)]) aF ⟨Yv,Yx,Yy,trivial⟩ Tryz.func48 λd hd=>by
  obtain⟨⟨op,a,b,c,obj,n,fn,ord,⟨⟩⟩,⟨⟩⟩:=d;exact⟨af2 op a b c obj n fn ord,cast (by kernel_rfl) (ac6 op a b c obj n fn ord)⟩
theorem YC(op:Int):fE op 65=use op 0/\fE op 66=use op 1/\fE op 67=use op 2/\fE op 79=use op 3/\fE op 78=use op 4/\fE op 70=use op 5/\fE op 82=use op 6:=by
 by_cases hb:1<=op/\op<=22
 .have key:∀k:Fin 22,([65,66,67,79,78,70,82].map λc:Int=>(fieldsD.getD k.1 ByteArray.empty).data.toList.any λb=>decide ((b.toNat:Int)=c))=[0,1,2,3,4,5,6].map λj=>(acX.getD k.1 []).getD j false:=by decide
  have h1:=key ⟨(op - 1).toNat,by omega⟩
  simp only[Es,List.map_nil,List.cons.injEq,and_true]at h1;obtain⟨h1,h2,h3,h4,h5,h6,h7⟩:=h1;simp only[fE,use,hb.1,hb.2,decide_true,GH,h1,h2,h3,h4,h5,h6,h7,and_self]
 .have:(decide (1<=op) && decide (op<=22))=false:=by simp only[A94,iZ];omega
  simp only[fE,use,this,Bool.false_and,and_self]
abbrev agh:CT:={ ps:=[kC],pre:=λd=>True,res:=λd=>([],.one (.c (.v (.int .i64 (nU d.1.1 d.1.2.1 d.1.2.2.1 d.1.2.2.2.1 d.1.2.2.2.2.1 d.1.2.2.2.2.2.1 d.1.2.2.2.2.2.2.1 d.1.2.2.2.2.2.2.2.1))))) }
theorem ac8(op a b c obj n fn ord:Int):
 let z4:=nU op a b c obj n fn ord;let z1:=qI z4 (8:Int);let z2:=decide (0<=a) && decide (a < 8);let z3:=decide (0<=b) && decide (b < 8);br (decide (op < 1) || decide (22 < op)) z1 (True/\((!(!fE op (65:Int) && !decide (a=0)))=true->True)/\((!(!fE op (65:Int) && !decide (a=0) || !fE op (66:Int) && !decide (b=0)))=true->True)/\((!(!fE op (65:Int) && !decide (a=0) || !fE op (66:Int) && !decide (b=0) || !fE op (67:Int) && !decide (c=0)))=true->True)/\((!(!fE op (65:Int) && !decide (a=0) || !fE op (66:Int) && !decide (b=0) || !fE op (67:Int) && !decide (c=0) || !fE op (79:Int) && !decide (obj=0)))=true->True)/\((!(!fE op (65:Int) && !decide (a=0) || !fE op (66:Int) && !decide (b=0) || !fE op (67:Int) && !decide (c=0) || !fE op (79:Int) && !decide (obj=0) || !fE op (78:Int) && !decide (n=0)))=true->True)/\((!(!fE op (65:Int) && !decide (a=0) || !fE op (66:Int) && !decide (b=0) || !fE op (67:Int) && !decide (c=0) || !fE op (79:Int) && !decide (obj=0) || !fE op (78:Int) && !decide (n=0) || !fE op (70:Int) && !decide (fn=0)))=true->True)/\br (!fE op (65:Int) && !decide (a=0) || !fE op (66:Int) && !decide (b=0) || !fE op (67:Int) && !decide (c=0) || !fE op (79:Int) && !decide (obj=0) || !fE op (78:Int) && !decide (n=0) || !fE op (70:Int) && !decide (fn=0) || !fE op (82:Int) && !decide (ord=0)) (qI z4 (9:Int)) (True/\((!!z2)=true->True)/\((!(!z2 || !z3))=true->True)/\br (!z2 || !z3 || !(decide (0<=c) && decide (c < 8))) (qI z4 (10:Int)) (br (decide (ord < 0) || decide (2 < ord)) (qI z4 (13:Int)) (True/\(fE op 70=true->True)/\br (fE op (70:Int) && decide (sH fn={ data:=#[]:ByteArray })) z1 (br (decide (op=1) && (decide (n < (-2147483648)) || decide (2147483647 < n))) (qI z4 (2:Int)) (qI z4 (0:Int))))))):=by
 conv=>zeta
 delta qI;obtain⟨e0,e1,e2,e3,e4,e5,e6⟩:=YC op;rw[e0,e1,e2,e3,e4,e5,e6];simp only[ak,aA,true_and,aW.one.injEq,SV.c.injEq,SC.v.injEq,Value.int.injEq,nU,qc,Qz];generalize use op 0=u0;generalize use op 1=u1;generalize use op 2=u2;generalize use op 3=u3;generalize use op 4=u4;generalize use op 5=u5;generalize use op 6=u6
 repeat' (first | apply And.intro | intro _)
 all_goals first | trivial | omega | skip
 all_goals first | grind | (simp_all<;>grind)
theorem YD:bJ bM.gd 80 agh:=
 jA (cx:=bM) (n:=132) (cl:=[(91,afZ),(92,afV),(93,afY)]) aF ⟨YA,Yw,Yz,trivial⟩ Tryz.func80 λd hd=>by
  obtain⟨⟨op,a,b,c,obj,n,fn,ord,⟨⟩⟩,⟨⟩⟩:=d;exact⟨λ_=>none,cast (by kernel_rfl) (ac8 op a b c obj n fn ord)⟩
def gZ(l:List Int) (x:Int):Bool:=l.any λy=>decide (y=x)
def KG(l:List Int) (x:Int):Nat:=(l.takeWhile λy=>decide (y < x)).length
def BK(l:List Int) (x:Int):List Int:=l.take (KG l x)++[x]++l.drop (KG l x)
def dD(l:List Int):List Int:=l.foldl (λo x=>if gZ o x then o else BK o x) []
theorem UR(l:List Int) (x:Int):(BK l x).length=l.length+1:=by
 simp only[BK,kD,mY,yT,zI,OQ];omega
theorem QA(l:List Int):(dD l).length<=l.length:=by
 have:∀(l o:List Int),(l.foldl (λo x=>if gZ o x then o else BK o x) o).length<=o.length+l.length:=by
  intro l
  induction l with
  | nil=>intro o;simp
  | cons x l ih=>
    intro o;simp only[Jj,zI];refine o9 (ih _) ?_;split
    .omega
    .rw[UR];omega
 have h:=this l [];rw[OQ,yU]at h;exact h
def SS(l:List Int):Prop:=l.Pairwise (· < ·)
theorem UU:∀{l m:List Int},SS l->SS m->(∀x,x∈l↔x∈m)->l=m
 | [],[],_,_,_=>rfl
 | [],y :: m,_,_,h=>by have:=(h y).2 (by simp);simp at this
 | x :: l,[],_,_,h=>by have:=(h x).1 (by simp);simp at this
 | x :: l,y :: m,hl,hm,h=>by
   obtain⟨h1,h2⟩:=ZW.1 hl;obtain⟨h3,h4⟩:=ZW.1 hm;have hxy:x=y:=by
    have a:=(h x).1 (by simp)
    have b:=(h y).2 (by simp)
    rcases jM.1 a with a | a
    .exact a
    .rcases jM.1 b with b | b
     .exact b.symm
     .have:=h3 x a;have:=h1 y b;omega
   subst hxy
   congr 1
   refine UU h2 h4 λz=>?_
   have hz:=h z;simp only[jM]at hz;constructor
   .intro hh;rcases hz.1 (.inr hh) with rfl | h5
    .have:=h1 z hh;omega
    .exact h5
   .intro hh;rcases hz.2 (.inr hh) with rfl | h5
    .have:=h3 z hh;omega
    .exact h5
theorem IV{x:Int}:gZ l x=true↔x∈l:=by
 unfold gZ;rw[Q5];constructor
 .rintro⟨y,h1,h2⟩;simp only[iE]at h2;subst h2;exact h1
 .intro h;exact⟨x,h,by simp⟩
theorem vK{x:Int}:gZ l x=false↔x∉l:=by
 rw[<-IV];simp
theorem ac9(l:List Int) (x:Int):l.take (KG l x)=l.takeWhile λy=>decide (y < x):=by
 unfold KG
 induction l with
 | nil=>rfl
 | cons a l ih=>
   simp only[aaT];split
   .simp[ih]
   .simp
theorem ada(l:List Int) (x:Int):l.drop (KG l x)=l.dropWhile λy=>decide (y < x):=by
 unfold KG
 induction l with
 | nil=>rfl
 | cons a l ih=>
   simp only[aaT,List.dropWhile_cons];split
   .simp[ih]
   .simp
theorem NS:∀{l:List Int}{x:Int},SS l->∀y∈l.dropWhile (λy=>decide (y < x)),x<=y
 | [],_,_,y,h=>by simp at h
 | a :: l,x,hl,y,h=>by
   obtain⟨h1,h2⟩:=ZW.1 hl;simp only[List.dropWhile_cons]at h;split at h
   .exact NS h2 y h
   .rename_i hn;simp only[iE]at hn;rcases jM.1 h with rfl | h
    .omega
    .have:=h1 y h;omega
theorem aar:∀{l:List Int}{x:Int},∀y∈l.takeWhile (λy=>decide (y < x)),y < x
 | [],_,y,h=>by simp at h
 | a :: l,x,y,h=>by
   simp only[aaT]at h;split at h
   .rename_i hn;simp only[iE]at hn;rcases jM.1 h with rfl | h
    .exact hn
    .exact aar y h
   .simp at h
theorem adb{x:Int} (hl:SS l) (hx:x∉l):SS (BK l x):=by
 unfold BK SS;rw[ac9,ada];have hp:SS (l.takeWhile (λy=>decide (y < x))++l.dropWhile (λy=>decide (y < x))):=by rw[List.takeWhile_append_dropWhile];exact hl
 obtain⟨p1,p2,p3⟩:=aaP.1 hp;rw[CJ,aaP];refine⟨p1,?_,?_⟩
 .rw[List.singleton_append,ZW];refine⟨λy hy=>?_,p2⟩
  have h1:=NS hl y hy;have h2:y≠x:=λe=>hx (by rw[<-e];rw[<-List.takeWhile_append_dropWhile (p:=λy=>decide (y < x)) (l:=l)];exact List.mem_append_right _ hy)
  omega
 .intro a ha b hb;rw[List.singleton_append]at hb;rcases jM.1 hb with rfl | hb
  .exact aar a ha
  .exact p3 a ha b hb
theorem YE{x y:Int}:y∈BK l x↔y=x\/y∈l:=by
 unfold BK;rw[Cj,Cj,Wu]
 conv=>rhs;rw[<-VX (KG l x) l,Cj]
 constructor
 .rintro((h | h) | h)
  .exact .inr (.inl h)
  .exact .inl h
  .exact .inr (.inr h)
 .rintro(h | h | h)
  .exact .inl (.inr h)
  .exact .inl (.inl h)
  .exact .inr h
theorem zB:∀(l o:List Int),SS o->SS (l.foldl (λo x=>if gZ o x then o else BK o x) o)/\∀y,y∈l.foldl (λo x=>if gZ o x then o else BK o x) o↔y∈o\/y∈l
 | [],o,h=>⟨h,λy=>by simp⟩
 | x :: l,o,h=>by
   simp only[Jj];cases hx:gZ o x with
   | true=>
     simp only[if_true];obtain⟨h1,h2⟩:=zB l o h;refine⟨h1,λy=>?_⟩
     rw[h2,jM];have:=IV.1 hx;constructor
     .rintro(h | h)
      .exact .inl h
      .exact .inr (.inr h)
     .rintro(h | rfl | h)
      .exact .inl h
      .exact .inl this
      .exact .inr h
   | false=>
     simp only[QX,GK];obtain⟨h1,h2⟩:=zB l (BK o x) (adb h (vK.1 hx));refine⟨h1,λy=>?_⟩
     rw[h2,jM,YE];constructor
     .rintro((h | h) | h)
      .exact .inr (.inl h)
      .exact .inl h
      .exact .inr (.inr h)
     .rintro(h | h | h)
      .exact .inl (.inr h)
      .exact .inl (.inl h)
      .exact .inr h
theorem zC(l:List Int):SS (dD l):=(zB l [] List.Pairwise.nil).1
theorem BL{x:Int}:x∈dD l↔x∈l:=by
 have:=(zB l [] List.Pairwise.nil).2 x;simpa[dD]using this
theorem IW{d:Array Int} (hs:∀i j,i < j->j < d.size->d[i]!<=d[j]!):∀m,m<=d.size ->
 SS (Lib.compactUpTo d m)/\(∀x,x∈Lib.compactUpTo d m↔∃j < m,d[j]! = x)
 | 0,_=>⟨by simp[Lib.compactUpTo,SS],λx=>by simp[Lib.compactUpTo]⟩
 | m+1,hm=>by
   obtain⟨h1,h2⟩:=IW hs m (by omega)
   rw[Lib.compactUpTo_succ];have le:∀x∈Lib.compactUpTo d m,∃j < m,d[j]! = x:=λx hx=>(h2 x).1 hx
   cases hk:Lib.keeps d m with
   | true=>
     simp only[if_true];constructor
     .refine aaP.2 ⟨h1,by simp,λa ha b hb=>?_⟩
      simp only[Wu]at hb;subst hb;obtain⟨j,hj,rfl⟩:=le a ha;have h3:m≠0:=by omega
      simp only[Lib.keeps,iE,h3,false_or]at hk;have h4:=hs (m - 1) m (by omega) (by omega)
      by_cases hj2:j=m - 1
      .subst hj2;omega
      .have:=hs j (m - 1) (by omega) (by omega);omega
     .intro x;rw[Cj,h2,Wu];constructor
      .rintro(⟨j,hj,e⟩ | e)
       .exact⟨j,by omega,e⟩
       .exact⟨m,by omega,e.symm⟩
      .rintro⟨j,hj,e⟩
       by_cases hj2:j=m
       .subst hj2;exact .inr e.symm
       .exact .inl ⟨j,by omega,e⟩
   | false=>
     simp only[QX,GK,OO];refine⟨h1,λx=>?_⟩
     rw[h2];have h3:m≠0/\d[m]! = d[m - 1]!:=by simpa[Lib.keeps]using hk
     constructor
     .rintro⟨j,hj,e⟩;exact⟨j,by omega,e⟩
     .rintro⟨j,hj,e⟩
      by_cases hj2:j=m
      .subst hj2;exact⟨j - 1,by omega,by rw[<-h3.2];exact e⟩
      .exact⟨j,by omega,e⟩
theorem IX(l:List Int):(iY l).Pairwise (·<=·):=by
 have h:(iY l).Pairwise (λx y=>decide (x<=y)=true):=List.pairwise_mergeSort (λa b c h1 h2=>by simp at *;omega) (λa b=>by simp;omega) l
 exact h.imp λh=>by simpa using h
theorem UW{x:Int}:x∈iY l↔x∈l:=(List.mergeSort_perm l _).mem_iff
theorem IY(l:List Int):SS (Lib.compact (iY l))/\∀x,x∈Lib.compact (iY l)↔x∈l:=by
 have hs:∀i j,i < j->j < (iY l).toArray.size->(iY l).toArray[i]!<=(iY l).toArray[j]!:=by
  intro i j hij hj;have hj':j < (iY l).length:=by simpa using hj
  have:=List.pairwise_iff_getElem.1 (IX l) i j (by omega) hj' hij
  rw[getElem!_pos _ i (by simp;omega),getElem!_pos _ j (by simpa using hj)]
  simpa using this
 obtain⟨h1,h2⟩:=IW hs (iY l).length (by simp)
 refine⟨h1,λx=>?_⟩
 show x∈Lib.compactUpTo (iY l).toArray (iY l).length↔_;rw[h2,<-UW,List.mem_iff_getElem];constructor
 .rintro⟨j,hj,e⟩;exact⟨j,hj,by rw[getElem!_pos _ j (by simpa using hj)]at e;simpa using e⟩
 .rintro⟨j,hj,e⟩;exact⟨j,hj,by rw[getElem!_pos _ j (by simpa using hj)];simpa using e⟩
theorem YF(l:List Int):Lib.compact (iY l)=dD l:=
 UU (IY l).1 (zC l) λx=>by rw[(IY l).2,BL]
end Go.Proofs.YtaagmchgokmdgaaGreatDoor
namespace Go.Proofs
open Go.Shelf
def Tryz.lays189_ren:Go.Shelf.Ren:=⟨fun | 189=>67 | 125=>86 | 257=>85 | 128=>103 | 129=>104 | 294=>94 | 295=>95 | 296=>96 | 297=>97 | 298=>98 | 299=>99 | 216=>100 | 300=>101 | 301=>102 | 328=>108 | 329=>109 | 330=>110 | 331=>111 | 332=>112 | 215=>113 | 343=>114 | n=>n,fun | 28=>32 | 3=>3 | 46=>128 | 0=>0 | 51=>85 | 53=>143 | 4=>4 | 183=>135 | 182=>134 | 131=>52 | 5=>5 | 9=>9 | 218=>147 | 222=>151 | 228=>153 | 229=>83 | n=>n,fun | n=>n⟩
theorem Tryz.lays189:Go.Proofs.Lays.n189 Tryz.prog Tryz.lays189_ren:={
 mixed:=by kernel_rfl
 f125:=Tryz.func86.trans (qy some (by kernel_rfl))
 f128:=Tryz.func103.trans (qy some (by kernel_rfl))
 f129:=Tryz.func104.trans (qy some (by kernel_rfl))
 f189:=Tryz.func67.trans (qy some (by kernel_rfl))
 f215:=Tryz.func113.trans (qy some (by kernel_rfl))
 f216:=Tryz.func100.trans (qy some (by kernel_rfl))
 f257:=Tryz.func85.trans (qy some (by kernel_rfl))
 f294:=Tryz.func94.trans (qy some (by kernel_rfl))
 f295:=Tryz.func95.trans (qy some (by kernel_rfl))
 f296:=Tryz.func96.trans (qy some (by kernel_rfl))
 f297:=Tryz.func97.trans (qy some (by kernel_rfl))
 f298:=Tryz.func98.trans (qy some (by kernel_rfl))
 f299:=Tryz.func99.trans (qy some (by kernel_rfl))
 f300:=Tryz.func101.trans (qy some (by kernel_rfl))
 f301:=Tryz.func102.trans (qy some (by kernel_rfl))
 f328:=Tryz.func108.trans (qy some (by kernel_rfl))
 f329:=Tryz.func109.trans (qy some (by kernel_rfl))
 f330:=Tryz.func110.trans (qy some (by kernel_rfl))
 f331:=Tryz.func111.trans (qy some (by kernel_rfl))
 f332:=Tryz.func112.trans (qy some (by kernel_rfl))
 f343:=Tryz.func114.trans (qy some (by kernel_rfl))
 t0:=Tryz.underlying0
 a0:=Tryz.isAgg0
 z0:=Tryz.sizeOf0
 v0:=Tryz.zeroValue0
 t3:=Tryz.underlying3
 a3:=Tryz.isAgg3
 z3:=Tryz.sizeOf3
 v3:=Tryz.zeroValue3
 t4:=Tryz.underlying4
 a4:=Tryz.isAgg4
 z4:=Tryz.sizeOf4
 v4:=Tryz.zeroValue4
 t5:=Tryz.underlying5
 a5:=Tryz.isAgg5
 z5:=Tryz.sizeOf5
 v5:=Tryz.zeroValue5
 t9:=Tryz.underlying9
 a9:=Tryz.isAgg9
 z9:=Tryz.sizeOf9
 v9:=Tryz.zeroValue9
 t28:=Tryz.underlying32
 a28:=Tryz.isAgg32
 z28:=Tryz.sizeOf32
 v28:=Tryz.zeroValue32
 t46:=Tryz.underlying128
 a46:=Tryz.isAgg128
 z46:=Tryz.sizeOf128
 v46:=Tryz.zeroValue128
 t51:=Tryz.underlying85
 a51:=Tryz.isAgg85
 z51:=Tryz.sizeOf85
 v51:=Tryz.zeroValue85
 t53:=Tryz.underlying143
 a53:=Tryz.isAgg143
 z53:=Tryz.sizeOf143
 v53:=Tryz.zeroValue143
 t131:=Tryz.underlying52
 a131:=Tryz.isAgg52
 z131:=Tryz.sizeOf52
 v131:=Tryz.zeroValue52
 t182:=Tryz.underlying134
 a182:=Tryz.isAgg134
 z182:=Tryz.sizeOf134
 v182:=Tryz.zeroValue134
 t183:=Tryz.underlying135
 a183:=Tryz.isAgg135
 z183:=Tryz.sizeOf135
 v183:=Tryz.zeroValue135
 t218:=Tryz.underlying147
 a218:=Tryz.isAgg147
 z218:=Tryz.sizeOf147
 v218:=Tryz.zeroValue147
 t222:=Tryz.underlying151
 a222:=Tryz.isAgg151
 z222:=Tryz.sizeOf151
 v222:=Tryz.zeroValue151
 t228:=Tryz.underlying153
 a228:=Tryz.isAgg153
 z228:=Tryz.sizeOf153
 v228:=Tryz.zeroValue153
 t229:=Tryz.underlying83
 a229:=Tryz.isAgg83
 z229:=Tryz.sizeOf83
 v229:=Tryz.zeroValue83 }
open Go.Sort Go.RowKit in
theorem Tryz.slices_Sort_int(blk off cap:Nat) (zs:List Int) (w:World) (hH:Holds (Value.int .i64) w blk off zs.toArray) (hblk:blk < w.heap.size) (hsz:zs.length < 4611686018427387904):
 Calls Tryz.prog 67 #[.slice (some ⟨blk,off,none⟩) zs.length cap] w λe w'=>
  e=.returned (.tuple #[])/\∃n os,w'=grow (putRow (Value.int .i64) (Sort.ahead w n) blk off (zs.mergeSort λx y=>decide (x<=y)).toArray) os:=Any.slices_Sort_int Tryz.lays189 blk off cap zs w hH hblk hsz
def Tryz.laysNm220_ren:Go.Shelf.Ren:=⟨fun | 20=>68 | n=>n,fun | 22=>32 | 3=>3 | 4=>4 | 0=>0 | n=>n,fun | n=>n⟩
theorem Tryz.laysNm220:Go.Proofs.Lays2.n20 Tryz.prog Tryz.laysNm220_ren:={
 mixed:=by kernel_rfl
 f20:=Tryz.func68.trans (qy some (by kernel_rfl))
 t0:=Tryz.underlying0
 a0:=Tryz.isAgg0
 z0:=Tryz.sizeOf0
 v0:=Tryz.zeroValue0
 t3:=Tryz.underlying3
 a3:=Tryz.isAgg3
 z3:=Tryz.sizeOf3
 v3:=Tryz.zeroValue3
 t4:=Tryz.underlying4
 a4:=Tryz.isAgg4
 z4:=Tryz.sizeOf4
 v4:=Tryz.zeroValue4
 t22:=Tryz.underlying32
 a22:=Tryz.isAgg32
 z22:=Tryz.sizeOf32
 v22:=Tryz.zeroValue32
 i3:=by kernel_rfl }
open Go.RowKit Go.Lib Go.Sort in
theorem Tryz.slices_Compact_int(blk off cap:Nat) (zs:List Int) (w:World) (hH:Holds (Value.int .i64) w blk off zs.toArray) (hsz:zs.length<=9223372036854775807) (hcap:zs.length<=cap):
 Calls Tryz.prog 68 #[.slice (some ⟨blk,off,none⟩) zs.length cap] w λe w'=>e=.returned (.slice (some ⟨blk,off,none⟩) (Lib.compact zs).length cap)/\∃q,w'=putRow (Value.int .i64) (Sort.ahead w q) blk off (Lib.compact zs++List.replicate (zs.length - (Lib.compact zs).length) 0).toArray:=Any.slices_Compact_int Tryz.laysNm220 blk off cap zs w hH hsz hcap
open Go.RowKit Go.Lib Go.Sort in
theorem Tryz.slices_Compact_int_empty(a:Option Addr) (cap:Nat) (w:World):
 Calls Tryz.prog 68 #[.slice a 0 cap] w λe w'=>e=.returned (.slice a 0 cap)/\w'=w:=Any.slices_Compact_int_empty Tryz.laysNm220 a cap w
end Go.Proofs
namespace Go.Proofs.YtaagmchgokmdgaaGreatDoor
open Go Go.lM
variable {l ms cs:List ByteArray}{k:Nat}
def Mt(l:List Int):Prop:=l=[]
theorem Mt.nil:Mt []:=rfl
abbrev aas:CT:={ ps:=[.int .u64],pre:=λd=>d.1=0,res:=λd=>([],.one (.c (.v (.int .i64 0)))) }
abbrev ade  : Nat->Option (St->mO):=λ_=>none
theorem YG :
 let z1:=[(8:UInt8),(8:UInt8),(8:UInt8),(8:UInt8),(8:UInt8),(8:UInt8),(8:UInt8),(8:UInt8),(8:UInt8),(8:UInt8),(8:UInt8),(8:UInt8),(8:UInt8),(8:UInt8),(8:UInt8),(8:UInt8),(8:UInt8),(8:UInt8),(8:UInt8),(8:UInt8),(8:UInt8),(8:UInt8),(8:UInt8),(8:UInt8),(8:UInt8),(8:UInt8),(8:UInt8),(8:UInt8),(8:UInt8),(8:UInt8),(8:UInt8),(8:UInt8),(8:UInt8),(8:UInt8),(8:UInt8),(8:UInt8),(8:UInt8),(8:UInt8),(8:UInt8),(8:UInt8),(8:UInt8),(8:UInt8),(8:UInt8),(8:UInt8),(8:UInt8),(8:UInt8),(8:UInt8),(8:UInt8),(8:UInt8),(8:UInt8),(8:UInt8),(8:UInt8),(8:UInt8),(8:UInt8),(8:UInt8),(8:UInt8),(8:UInt8),(8:UInt8),(8:UInt8),(8:UInt8),(8:UInt8),(8:UInt8),(8:UInt8),(8:UInt8)];((0:Int)<=(0:Int)/\(0:Int) < (256:Int))/\∀(u:UInt8),{ data:=(([(0:UInt8),(1:UInt8),(2:UInt8),(2:UInt8),(3:UInt8),(3:UInt8),(3:UInt8),(3:UInt8),(4:UInt8),(4:UInt8),(4:UInt8),(4:UInt8),(4:UInt8),(4:UInt8),(4:UInt8),(4:UInt8),(5:UInt8),(5:UInt8),(5:UInt8),(5:UInt8),(5:UInt8),(5:UInt8),(5:UInt8),(5:UInt8),(5:UInt8),(5:UInt8),(5:UInt8),(5:UInt8),(5:UInt8),(5:UInt8),(5:UInt8),(5:UInt8),(6:UInt8),(6:UInt8),(6:UInt8),(6:UInt8),(6:UInt8),(6:UInt8),(6:UInt8),(6:UInt8),(6:UInt8),(6:UInt8),(6:UInt8),(6:UInt8),(6:UInt8),(6:UInt8),(6:UInt8),(6:UInt8),(6:UInt8),(6:UInt8),(6:UInt8),(6:UInt8),(6:UInt8),(6:UInt8),(6:UInt8),(6:UInt8),(6:UInt8),(6:UInt8),(6:UInt8),(6:UInt8),(6:UInt8),(6:UInt8),(6:UInt8),(6:UInt8)].append [(7:UInt8),(7:UInt8),(7:UInt8),(7:UInt8),(7:UInt8),(7:UInt8),(7:UInt8),(7:UInt8),(7:UInt8),(7:UInt8),(7:UInt8),(7:UInt8),(7:UInt8),(7:UInt8),(7:UInt8),(7:UInt8),(7:UInt8),(7:UInt8),(7:UInt8),(7:UInt8),(7:UInt8),(7:UInt8),(7:UInt8),(7:UInt8),(7:UInt8),(7:UInt8),(7:UInt8),(7:UInt8),(7:UInt8),(7:UInt8),(7:UInt8),(7:UInt8),(7:UInt8),(7:UInt8),(7:UInt8),(7:UInt8),(7:UInt8),(7:UInt8),(7:UInt8),(7:UInt8),(7:UInt8),(7:UInt8),(7:UInt8),(7:UInt8),(7:UInt8),(7:UInt8),(7:UInt8),(7:UInt8),(7:UInt8),(7:UInt8),(7:UInt8),(7:UInt8),(7:UInt8),(7:UInt8),(7:UInt8),(7:UInt8),(7:UInt8),(7:UInt8),(7:UInt8),(7:UInt8),(7:UInt8),(7:UInt8),(7:UInt8),(7:UInt8)]).append (z1.append z1)).toArray:ByteArray }[0]?=some u->iR (u.toNat:Int)/\iR (0+(u.toNat:Int))/\qI 0 (0+(u.toNat:Int)):=by
 conv=>zeta
 delta qI iR;refine⟨by omega,λu hu=>?_⟩
 have hu:some (0:UInt8)=some u:=hu;cases hu;exact⟨aA.2 (by decide),aA.2 (by decide),rfl,rfl⟩
theorem UY:bJ bM.gd 104 aas:=
 jA (cx:=bM) (n:=25) (cl:=[]) aF trivial Tryz.func104 λd hd=>by
  obtain⟨x,⟨⟩⟩:=d;simp only at hd;subst hd;exact⟨ade ,cast (by kernel_rfl) (YG )⟩
abbrev aat:CT:={ ps:=[.int .u64],pre:=λd=>d.1=0,res:=λd=>([],.one (.c (.v (.int .i64 0)))) }
abbrev agi  : Nat->Option (St->mO):=λ_=>none
theorem adf :
 (0:(Sh.int IntKind.u64).den)=(0:(Sh.int IntKind.u64).den)/\qI 0 (0:Int):=by
 delta qI;exact⟨rfl,rfl,rfl⟩
theorem YH:bJ bM.gd 86 aat:=
 jA (cx:=bM) (n:=8) (cl:=[(104,aas)]) aF ⟨UY,trivial⟩ Tryz.func86 λd hd=>by
  obtain⟨x,⟨⟩⟩:=d;simp only at hd;subst hd;exact⟨agi ,cast (by kernel_rfl) (adf )⟩
abbrev aau:CT:={ ps:=[.sl (.int .i64),.int .i64,.int .i64],pre:=λd=>Mt d.1/\d.2.1=0/\d.2.2.1=0,res:=λd=>([],.iQ []) }
abbrev agj  : Nat->Option (St->mO):=λ_=>some λ_=>.AY 1
theorem adg :
 iR (1:Int)/\rT [] []:=by
 delta rT iR;exact⟨aA.2 (by omega),rfl,rfl⟩
theorem YJ:bJ bM.gd 94 aau:=
 jA (cx:=bM) (n:=49) (cl:=[]) aF trivial Tryz.func94 λd hd=>by
  obtain⟨l,a,b,⟨⟩⟩:=d;obtain⟨h1,h2,h3⟩:=hd;simp only at h1 h2 h3;have h1:l=[]:=h1;subst h1;subst h2;subst h3;exact⟨agj ,cast (by kernel_rfl) (adg )⟩
abbrev aav:CT:={ ps:=[.sl (.int .i64),.int .i64,.int .i64,.int .i64],pre:=λd=>Mt d.1/\d.2.1=0/\d.2.2.1=0,res:=λd=>([],.iQ []) }
abbrev agk(m:Int):Nat->Option (St->mO):=λ_=>some λ_=>.AY 1
theorem adh(m:Int):
 iR (0:Int)/\(Mt []/\(0:Int)=(0:Int)/\(0:Int)=(0:Int))/\rT [] []:=by
 delta rT iR;exact⟨aA.2 (by omega),⟨rfl,rfl,rfl⟩,rfl,rfl⟩
theorem YK:bJ bM.gd 85 aav:=
 jA (cx:=bM) (n:=134) (cl:=[(94,aau)]) aF ⟨YJ,trivial⟩ Tryz.func85 λd hd=>by
  obtain⟨l,a,b,m,⟨⟩⟩:=d;obtain⟨h1,h2,h3⟩:=hd;simp only at h1 h2 h3;have h1:l=[]:=h1;subst h1;subst h2;subst h3;exact⟨agk m,cast (by kernel_rfl) (adh m)⟩
abbrev agl:CT:={ ps:=[.sl (.int .i64)],pre:=λd=>Mt d.1,res:=λd=>([],.iQ []) }
abbrev agm  : Nat->Option (St->mO):=λ_=>none
theorem adi :
 (0:Int)=(0:(Sh.int IntKind.u64).den)/\(Mt []/\(0:Int)=(0:Int)/\(0:Int)=(0:Int))/\rT [] []:=by
 delta rT;exact⟨rfl,⟨rfl,rfl,rfl⟩,rfl,rfl⟩
theorem NT:bJ bM.gd 67 agl:=
 jA (cx:=bM) (n:=11) (cl:=[(85,aav),(86,aat)]) aF ⟨YK,YH,trivial⟩ Tryz.func67 λd hd=>by
  obtain⟨l,⟨⟩⟩:=d;have hd:l=[]:=hd;subst hd;exact⟨agm ,cast (by kernel_rfl) (adi )⟩
abbrev tV:CT:={ ps:=[.sl (.int .i64)],pre:=λd=>d.1.length<=1000000,res:=λd=>([.row 3 (.int .i64) (d.1)],.one (.c (.row 0))) }
abbrev ilN:List (Nat×IP):=[]
abbrev UZ:=Sh.int IntKind.i64
theorem adk(l:List Int) (aS:tV.pre (l,())):
 let z1:=[aC.row (3:TypeId) UZ l];∀(b:Bool),(b=true->l=[])->br b (z1=[aC.row (3:TypeId) UZ []]/\aW.one IQ=aW.one IQ) (wE ((0:Nat)+List.length (l)) (8:Nat)/\z1=[aC.row (3:TypeId) UZ ([]++l)]/\aW.one IQ=aW.one IQ):=by
 conv=>zeta
 delta UZ IQ;have hp:l.length<=1000000:=aS;intro b hb;refine ak.2 ⟨λh=>by rw[hb h];exact⟨rfl,rfl⟩,λh=>⟨?_,by simp,rfl⟩⟩
 rw[lJ];omega
theorem zD:bJ bM.gd 32 tV:=
 Uo (il:=ilN) (rc:=[.row 3 (.int .i64)]) (cx:=bM) (n:=8) (cl:=[]) (by kernel_rfl) aF trivial trivial Tryz.func32 (by kernel_rfl) (by kernel_rfl) rfl (by kernel_rfl) (by kernel_rfl) λd hd=>by
  obtain⟨l,⟨⟩⟩:=d;exact⟨λ_=>none,cast (by kernel_rfl) (adk l hd)⟩
def Dh(l:List Int) (x:Int):Int:=match l.findIdx? (λy=>decide (y=x)) with | some k=>(k:Int) | none=>-1
theorem KH{l:List Int}{x:Int} (hd:l[k]?=some x) (hn:∀j < k,∀y,l[j]?=some y->y≠x):Dh l x=k:=by
 have gY:k < l.length:=(eU.1 hd).1;have:l.findIdx? (λy=>decide (y=x))=some k:=by
  rw[ZQ];refine⟨gY,by have:=(eU.1 hd).2;simp[this],λj hj=>?_⟩
  have:=hn j hj l[j] (kW (by omega))
  simpa using this
 simp[Dh,this]
theorem QB{l:List Int}{x:Int} (hn:∀(j:Nat) y,l[j]?=some y->y≠x):Dh l x = -1:=by
 have:l.findIdx? (λy=>decide (y=x))=none:=by
  rw[A86];intro y hy;obtain⟨j,hj⟩:=Ja hy;simpa using hn j y hj
 simp[Dh,this]
abbrev U0:CT:={ ps:=[.sl (.int .i64),.int .i64],pre:=λd=>d.1.length<=4611686018427387904,res:=λd=>([],.one (.c (.v (.int .i64 (Dh d.1 d.2.1))))) }
abbrev agp(l:List Int) (x:Int):Nat->Option (St->mO):=λ_=>some λ_=>.inv { α:=Nat,slots:=λk=>[(8,.c (.v (.int .i64 k)))],res:=λ_=>[],inv:=λk=>k<=l.length/\∀j < k,∀y,l[j]?=some y->y≠x,meas:=λk=>l.length - k }
abbrev o7:=Go.lM.Gd×Go.lM.aC
theorem adl(l:List Int) (x:Int) (aS:U0.pre (l,x,())):
 let z1:=λ(x_1:Nat)=>(x_1<=l.length/\∀(j:Nat),j < x_1->∀(y:Int),l[j]?=some y->y≠x);(∃x_1,(z1 x_1)/\(cI 0=cI (x_1:Int)/\True)/\([]:List o7)=[])/\∀(x_1:Nat),(z1 x_1)->br (decide ((x_1:Int) < (l.length:Int))) ((0<=(x_1:Int)/\(x_1:Int) < (l.length:Int))/\∀(d:Int),l[(x_1:Int).toNat]?=some d->br (decide (x=d)) (qI (Dh l x) (x_1:Int)) (iR ((x_1:Int)+(1:Int))/\∃x',(x'<=l.length/\∀(j:Nat),j < x'->∀(y:Int),l[j]?=some y->y≠x)/\(cI ((x_1:Int)+(1:Int))=cI (x':Int)/\True)/\([]:List o7)=[]/\l.length - x' < l.length - x_1)) (qI (Dh l x) (-1:Int)):=by
 conv=>zeta
 delta o7 cI qI iR;refine⟨⟨0,⟨by omega,λj hj=>by omega⟩,⟨rfl,trivial⟩,rfl⟩,λk hk=>ak.2 ⟨λh=>?_,λh=>?_⟩⟩
 .simp only[iE]at h;have hp:l.length<=4611686018427387904:=aS;refine⟨by omega,λd hd=>?_⟩
  have hd:l[k]?=some d:=by simpa using hd
  refine ak.2 ⟨λhe=>?_,λhe=>⟨aA.2 (by omega),k+1,⟨by omega,λj hj y hy=>?_⟩,⟨rfl,trivial⟩,rfl,by omega⟩⟩
  .have he:x=d:=by simpa using he
   rw[KH (by rw[hd,he]) hk.2];exact⟨rfl,rfl⟩
  .by_cases ku:j=k
   .subst ku;rw[hd]at hy;cases hy;intro hh;simp[hh]at he
   .exact hk.2 j (by omega) y hy
 .simp only[iZ]at h;rw[QB (λj y hy=>hk.2 j (by have:=(eU.1 hy).1;omega) y hy)];exact⟨rfl,rfl⟩
theorem YL:bJ bM.gd 77 U0:=
 jA (cx:=bM) (n:=19) (cl:=[]) aF trivial Tryz.func77 λd hd=>by
  obtain⟨l,x,⟨⟩⟩:=d;exact⟨agp l x,cast (by kernel_rfl) (adl l x hd)⟩
theorem U1(l:List Int) (x:Int):gZ l x=decide (0<=Dh l x):=by
 have h:=List.findIdx?_isSome (xs:=l) (p:=λy=>decide (y=x))
 unfold gZ Dh;rw[<-h];cases l.findIdx? (λy=>decide (y=x)) with
 | none=>rfl
 | some k=>simp
abbrev NU:CT:={ ps:=[.sl (.int .i64),.int .i64],pre:=λd=>d.1.length<=4611686018427387904,res:=λd=>([],vB (gZ d.1 d.2.1)) }
theorem adn(l:List Int) (x:Int) (aS:NU.pre (l,x,())):
 l.length<=4611686018427387904/\qB (gZ l x) (decide (0<=Dh l x)):=by
 delta qB;refine⟨aS,rfl,?_⟩;rw[U1]
theorem NV:bJ bM.gd 55 NU:=
 jA (cx:=bM) (n:=9) (cl:=[(77,U0)]) aF ⟨YL,trivial⟩ Tryz.func55 λd hd=>by
  obtain⟨l,x,⟨⟩⟩:=d;exact⟨λ_=>none,cast (by kernel_rfl) (adn l x hd)⟩
theorem QC(l:List Int):(iY l).length=l.length:=by simp[iY]
theorem U2(l:List Int):(dD l).length<=l.length:=QA l
theorem ado:NK Tryz.prog bM.gd 67 BI:=⟨Qv NT.1 rfl (λblk cap zs w hH hb hz=>Tryz.slices_Sort_int blk 0 cap zs w hH hb hz),NT.2⟩
theorem adp:NK Tryz.prog bM.gd 68 yA:=⟨FW (λa cap w=>Tryz.slices_Compact_int_empty a cap w) (λblk cap zs w hH h1 h2=>Tryz.slices_Compact_int blk 0 cap zs w hH h1 h2),⟨_,Tryz.func68,rfl,by kernel_rfl⟩⟩
abbrev xk:CT:={ ps:=[.sl (.int .i64)],pre:=λd=>d.1.length<=1000000,res:=λd=>([.row 3 (.int .i64) (dD d.1)],.one (.c (.row 0))) }
abbrev aip:List (Nat×IP):=[(67,BI),(68,yA)]
theorem adq(l:List Int) (aS:xk.pre (l,())):
 l.length<=(1000000:Nat)/\List.length (l) < (4611686018427387904:Nat)/\List.length (iY (l)) < (4611686018427387904:Nat)/\[aC.row (3:TypeId) UZ (dD l)]=[aC.row (3:TypeId) UZ (Lib.compact (iY (l)))]/\aW.one IQ=aW.one IQ:=by
 delta UZ IQ;have hp:l.length<=1000000:=aS;exact⟨hp,by omega,by rw[QC];omega,by rw[YF],rfl⟩
theorem NW:bJ bM.gd 49 xk:=
 Uo (il:=aip) (rc:=[]) (cx:=bM) (n:=10) (cl:=[(32,tV)]) (by kernel_rfl) aF ⟨zD,trivial⟩ ⟨ado,adp,trivial⟩ Tryz.func49 (by kernel_rfl) (by kernel_rfl) rfl (by kernel_rfl) (by kernel_rfl) λd hd=>by
  obtain⟨l,⟨⟩⟩:=d;exact⟨λ_=>none,cast (by kernel_rfl) (adq l hd)⟩
abbrev NY:CT:={ ps:=[.sl (.int .i64),.int .i64],pre:=λd=>d.1.length<=1000000,res:=λd=>([],vB (gZ d.1 d.2.1)) }
theorem adr(l:List Int) (x:Int) (aS:NY.pre (l,x,())):
 l.length<=4611686018427387904/\qB (gZ l x) (gZ l x):=by
 delta qB;have hp:l.length<=1000000:=aS;exact⟨by omega,rfl,rfl⟩
theorem NZ:bJ bM.gd 31 NY:=
 jA (cx:=bM) (n:=8) (cl:=[(55,NU)]) aF ⟨NV,trivial⟩ Tryz.func31 λd hd=>by
  obtain⟨l,x,⟨⟩⟩:=d;exact⟨λ_=>none,cast (by kernel_rfl) (adr l x hd)⟩
abbrev N7:CT:={ ps:=[.sl (.int .i64),.int .i64],pre:=λd=>d.1.length<=999999,res:=λd=>([.row 3 (.int .i64) (dD (d.1++[d.2.1]))],.one (.c (.row 0))) }
theorem ads(l:List Int) (x:Int) (aS:N7.pre (l,x,())):
 let z1:=[aC.row (3:TypeId) UZ (dD (l++[x]))];l.length<=(1000000:Nat)/\wE (List.length (l)+List.length ([x])) (8:Nat)/\List.length (l++[x])<=(1000000:Nat)/\z1=z1/\aW.one IQ=aW.one IQ:=by
 conv=>zeta
 delta UZ IQ;have hp:l.length<=999999:=aS;refine⟨by omega,?_,?_,rfl,rfl⟩
 .rw[lJ];simp;omega
 .simp;omega
theorem N8:bJ bM.gd 27 N7:=
 jA (cx:=bM) (n:=11) (cl:=[(32,tV),(49,xk)]) aF ⟨zD,NW,trivial⟩ Tryz.func27 λd hd=>by
  obtain⟨l,x,⟨⟩⟩:=d;exact⟨λ_=>none,cast (by kernel_rfl) (ads l x hd)⟩
abbrev Ea:Sh:=.pair .str (.pair (.int .i64) .unit)
abbrev BM:Sh:=.pair .str (.pair (.sl kC) .unit)
abbrev kV:Sh:=.pair (.int .i64) (.pair (.int .i64) .unit)
abbrev qN:Sh:=.pair (.sl Ea) (.pair (.sl .str) (.pair (.sl .str) (.pair (.sl BM) (.pair (.sl kV) .unit))))
abbrev ID:=Int×Int×Int×Int×Int×Int×Int×Int×Unit
abbrev VD:=ByteArray×Int×Unit
variable {vs:List VD}
abbrev FD:=ByteArray×List ID×Unit
variable {fs:List FD}
abbrev SD:=Int×Int×Unit
abbrev PD:=List VD×List ByteArray×List ByteArray×List FD×List SD×Unit
def nN(f:Nat) (x:FD):List (bW [kV,kC]):=x.2.1.zipIdx.map λp=>(((f:Int),(p.2:Int),()),p.1,())
def je:Nat->List FD->List (bW [kV,kC])
 | _,[]=>[]
 | n,x :: l=>nN n x++je (n+1) l
def dF(fs:List FD):List (bW [kV,kC]):=je 0 fs
theorem Eb(f:Nat) (x:FD):(nN f x).length=x.2.1.length:=by simp[nN]
theorem Ec{f:Nat}{x:FD}{j:Nat}{e:ID} (h:x.2.1[j]?=some e):(nN f x)[j]?=some (((f:Int),(j:Int),()),e,()):=by
 unfold nN;rw[Gw,aaQ,h];simp
theorem qg:∀(l m:List FD) (n:Nat),je n (l++m)=je n l++je (n+l.length) m
 | [],m,n=>by simp[je]
 | x :: l,m,n=>by
   simp only[List.cons_append,je,qg l m,CJ,zI];rw[show n+1+l.length=n+(l.length+1) by omega]
theorem QD{d:FD} (h:fs[k]?=some d):dF fs=dF (fs.take k)++(nN k d++je (k+1) (fs.drop (k+1))):=by
 have hk:k < fs.length:=(eU.1 h).1;have e:fs=fs.take k++(d :: fs.drop (k+1)):=by
  have h2:=List.drop_eq_getElem_cons hk;rw[(eU.1 h).2]at h2;rw[<-h2,VX]
 unfold dF
 conv=>lhs;rw[e]
 rw[qg];rw[show 0+(fs.take k).length=k by simp;omega]
 rfl
theorem KI{d:FD} (h:fs[k]?=some d):dF (fs.take (k+1))=dF (fs.take k)++nN k d:=by
 have hk:k < fs.length:=(eU.1 h).1;rw[OV,h];unfold dF;rw[qg];rw[show 0+(fs.take k).length=k by simp;omega]
 simp[je]
theorem QE{j:Nat}{d:FD}{e:ID} (h:fs[k]?=some d) (h2:d.2.1[j]?=some e):(dF fs)[(dF (fs.take k)).length+j]?=some (((k:Int),(j:Int),()),e,()):=by
 have hj:j < d.2.1.length:=(eU.1 h2).1;rw[QD h,Jh (by omega),QM (by rw[Eb];omega)]
 rw[show(dF (fs.take k)).length+j - (dF (fs.take k)).length=j by omega]
 exact Ec h2
noncomputable abbrev adt:MK:={ ss:=[qN],f:=λd=>.seq Tryz.prog [kV,kC] (dF d.1.2.2.2.1),pre:=λd=>d.1.2.2.2.1.length<=1000000/\∀x∈d.1.2.2.2.1,x.2.1.length<=1000000 }
abbrev aiq:List (Nat×CT):=[]
abbrev agq(vs:List VD) (ms cs:List ByteArray) (fs:List FD) (ts:List SD):Nat->Option (St->mO):=λk=>match k with
 | 1=>some λ_=>.gen { α:=Nat,slots:=λk=>[(10,.c (.v (.int .i64 k)))],res:=λ_=>[],inv:=λk=>k<=fs.length,meas:=λk=>fs.length - k } λk=>(dF (fs.take k)).length
 | 4=>some λs=>.gen { α:=Nat,slots:=λk=>[(18,.c (.v (.int .i64 k)))],res:=λ_=>[],inv:=λk=>k<=(slotL kC s 16).length,meas:=λk=>(slotL kC s 16).length - k } λk=>(dF (fs.take (NC s 10).toNat)).length+k
 | _=>none
abbrev hlN:List (Nat×Nat×CT):=[]
abbrev mlN:List (Nat×MK):=[]
theorem adu(vs:List VD) (ms cs:List ByteArray) (fs:List FD) (ts:List SD) (l:Nat) (aS:adt.pre ((vs,ms,cs,fs,ts,()),())):
 let z2:=λ(x:Nat)=>dF (List.take x fs);let z1:=λ(x:Nat)=>dF (List.take (x:Int).toNat fs);let z3:=λ(x_1:Nat)=>(x_1:Int)+(1:Int);(∃x,x<=fs.length/\(z2 x).length=0/\(cI 0=cI (x:Int)/\True)/\([]:List o7)=[])/\∀(x:Nat),x<=fs.length->br (decide ((x:Int) < (fs.length:Int))) ((0<=(x:Int)/\(x:Int) < (fs.length:Int))/\∀(d:ByteArray×(kC.sl.pair Sh.unit).den),fs[(x:Int).toNat]?=some d->(∃x_1,x_1<=List.length (d.snd.fst)/\(z1 x).length+x_1=(z2 x).length/\(cI 0=cI (x_1:Int)/\True)/\sm [g0 (aC.blk 58 [SC.v (Value.string d.fst),SC.sl kC d.snd.fst])])/\∀(x_1:Nat),x_1<=List.length (d.snd.fst)->br (decide ((x_1:Int) < ((List.length d.snd.fst):Int))) ((0<=(x_1:Int)/\(x_1:Int) < ((List.length d.snd.fst):Int))/\∀(iC:ID),d.snd.fst[(x_1:Int).toNat]?=some iC->l=l/\(dF fs)[(z1 x).length+x_1]?=some (((x:Int),(x_1:Int),()),iC,())/\(iR (z3 x_1)/\∃x',x'<=List.length (d.snd.fst)/\(z1 x).length+x'=(z1 x).length+x_1+1/\(cI (z3 x_1)=cI (x':Int)/\True)/\sm [g0 (aC.blk 58 [SC.v (Value.string d.fst),SC.sl kC d.snd.fst])]/\List.length (d.snd.fst) - x' < List.length (d.snd.fst) - x_1)/\True) (iR (z3 x)/\∃x',x'<=fs.length/\(z2 x').length=(z1 x).length+x_1/\(cI (z3 x)=cI (x':Int)/\True)/\([]:List o7)=[]/\fs.length - x' < fs.length - x)) ((z2 x).length=aJ (dF fs)):=by
 conv=>zeta
 delta o7 cI g0 sm I6 iR;have hp1:fs.length<=1000000:=aS.1;have hp2:∀x∈fs,x.2.1.length<=1000000:=aS.2;refine⟨⟨0,by omega,by simp[dF,je],⟨rfl,trivial⟩,rfl⟩,λx hx=>ak.2 ⟨λh=>?_,λh=>?_⟩⟩
 .simp only[iE]at h;have hN:(x:Int).toNat=x:=by omega
  rw[hN];refine⟨by omega,λd hd=>?_⟩
  have hd:fs[x]?=some d:=by simpa using hd
  have hst:=KI hd;refine⟨⟨0,zJ _,by omega,⟨rfl,trivial⟩,rfl⟩,λy hy=>ak.2 ⟨λh2=>?_,λh2=>?_⟩⟩
  .simp only[iE]at h2;refine⟨by omega,λe he=>?_⟩
   have he:d.2.1[y]?=some e:=by simpa using he
   refine⟨rfl,QE hd he,⟨?_,y+1,?_,?_,⟨rfl,trivial⟩,rfl,?_⟩,trivial⟩
   .have:=hp2 d (kT hd);exact aA.2 (by omega)
   .omega
   .omega
   .omega
  .simp only[iZ]at h2;refine⟨aA.2 (by omega),x+1,by omega,?_,⟨rfl,trivial⟩,rfl,by omega⟩
   have hq:=hp2 d (kT hd);have hy:y=d.2.1.length:=by omega
   rw[hst,kD,Eb,hy]
 .simp only[iZ]at h;rw[Gy (by omega),aV]
theorem adv:ab8 Tryz.prog bM.gd 89 adt:=by
 intro d h lb hd hg cap;obtain⟨⟨vs,ms,cs,fs,ts,⟨⟩⟩,⟨⟩⟩:=d;exact Uw (E:=Ur Tryz.prog bM 32 aiq ilN hlN mlN [] [] λ_=>none) (NM (by kernel_rfl) aF trivial trivial trivial trivial) rfl Tryz.func89 (body:=mJ Tryz.f89) (by kernel_rfl) (by kernel_rfl) rfl rfl rfl rfl ⟨agq vs ms cs fs ts,λl=>cast (by kernel_rfl) (adu vs ms cs fs ts l hd)⟩ hg cap
noncomputable abbrev FY:CT:={ ps:=[qN],pre:=λd=>d.1.2.2.2.1.length<=1000000/\∀x∈d.1.2.2.2.1,x.2.1.length<=1000000,res:=λd=>([],.one (.c (.abs (.seq Tryz.prog [kV,kC] (dF d.1.2.2.2.1))))) }
noncomputable abbrev ait:List (Nat×MK):=[(89,adt)]
theorem adw(vs:List VD) (ms cs:List ByteArray) (fs:List FD) (ts:List SD) (aS:FY.pre ((vs,ms,cs,fs,ts,()),())):
 let z1:=aW.one (SV.c (SC.abs (Dj.seq Tryz.prog [I6.pair (I6.pair Sh.unit),I6.pair (I6.pair (I6.pair (I6.pair (I6.pair (I6.pair kV)))))] (dF fs))));(fs.length<=1000000/\∀(x:ByteArray×(kC.sl.pair Sh.unit).den),x∈fs->List.length x.snd.fst<=1000000)/\rE z1 z1:=by
 conv=>zeta
 delta rE I6;exact⟨aS,rfl,rfl⟩
theorem YM:bJ bM.gd 75 FY:=
 (zA (cx:=bM) (n:=4) (cl:=[]) (il:=ilN) (hl:=hlN) (ml:=ait) (rc:=[]) (lits:=[]) (suf:=[]) (by kernel_rfl) aF trivial trivial trivial ⟨adv,trivial⟩ Tryz.func75 (by kernel_rfl) (by kernel_rfl) rfl (by kernel_rfl) (by kernel_rfl) (by simp) λd hd=>by
  obtain⟨⟨vs,ms,cs,fs,ts,⟨⟩⟩,⟨⟩⟩:=d;exact⟨λ_=>none,cast (by kernel_rfl) (adw vs ms cs fs ts hd)⟩).met
def qh(c:Int):Bool:=decide (97<=c/\c<=122\/65<=c/\c<=90)
abbrev aaw:CT:={ ps:=[.int .u8],pre:=λd=>True,res:=λd=>([],vB (qh d.1)) }
theorem YN(c:Int):
 qB (qh c) (decide (97<=c) && decide (c<=122) || decide (65<=c) && decide (c<=90)):=by
 delta qB;refine⟨rfl,?_⟩;rw[show qh c=(decide (97<=c) && decide (c<=122) || decide (65<=c) && decide (c<=90)) by unfold qh;rw[Jb];simp]
theorem U3:bJ bM.gd 105 aaw:=
 jA (cx:=bM) (n:=17) (cl:=[]) aF trivial Tryz.func105 λd hd=>by
  obtain⟨c,⟨⟩⟩:=d;exact⟨λ_=>none,cast (by kernel_rfl) (YN c)⟩
def dJ(n:Int):Bool:=decide (-2147483648<=n/\n<=2147483647)
abbrev U4:CT:={ ps:=[.int .i64],pre:=λd=>True,res:=λd=>([],vB (dJ d.1)) }
theorem adx(n:Int):
 qB (dJ n) (decide ((-2147483648)<=n) && decide (n<=2147483647)):=by
 delta qB;refine⟨rfl,?_⟩;rw[show dJ n=(decide (-2147483648<=n) && decide (n<=2147483647)) by unfold dJ;rw[Jb];simp]
theorem N9:bJ bM.gd 72 U4:=
 jA (cx:=bM) (n:=9) (cl:=[]) aF trivial Tryz.func72 λd hd=>by
  obtain⟨n,⟨⟩⟩:=d;exact⟨λ_=>none,cast (by kernel_rfl) (adx n)⟩
abbrev KJ:CT:={ ps:=[.int .i64],pre:=λd=>True,res:=λd=>([],vB (dJ d.1)) }
theorem ady(n:Int):
 qB (dJ n) (decide ((-2147483648)<=n) && decide (n<=2147483647)):=by
 delta qB;refine⟨rfl,?_⟩;rw[show dJ n=(decide (-2147483648<=n) && decide (n<=2147483647)) by unfold dJ;rw[Jb];simp]
theorem Oa:bJ bM.gd 59 KJ:=
 jA (cx:=bM) (n:=9) (cl:=[]) aF trivial Tryz.func59 λd hd=>by
  obtain⟨n,⟨⟩⟩:=d;exact⟨λ_=>none,cast (by kernel_rfl) (ady n)⟩
def sJ(vs:List VD) (ms cs:List ByteArray) (fs:List FD) (op:Int):Int:=
 if op=8\/op=9\/op=10\/op=11\/op=12\/op=14 then vs.length else if op=15\/op=16\/op=17 then ms.length else if op=18\/op=19\/op=20 then cs.length else if op=21 then fs.length else -1
abbrev aax:CT:={ ps:=[qN,.int .i64],pre:=λd=>True,res:=λd=>([],.one (.c (.v (.int .i64 (sJ d.1.1 d.1.2.1 d.1.2.2.1 d.1.2.2.2.1 d.2.1))))) }
theorem adz(vs:List VD) (ms cs:List ByteArray) (fs:List FD) (ts:List SD) (op:Int):
 let z7:=sJ vs ms cs fs op;let z4:=qI z7 (vs.length:Int);let z5:=qI z7 (ms.length:Int);let z6:=qI z7 (cs.length:Int);let z3:=br (decide (op=21)) (qI z7 (fs.length:Int)) (qI z7 (-1:Int));let z2:=br (decide (op=18)) (br (decide (op=18)) z6 z3) (br (decide (op=19)) (br (decide (op=19)) z6 z3) (br (decide (op=20)) z6 z3));let z1:=br (decide (op=15)) (br (decide (op=15)) z5 z2) (br (decide (op=16)) (br (decide (op=16)) z5 z2) (br (decide (op=17)) z5 z2));br (decide (op=8)) (br (decide (op=8)) z4 z1) (br (decide (op=9)) (br (decide (op=9)) z4 z1) (br (decide (op=10)) (br (decide (op=10)) z4 z1) (br (decide (op=11)) (br (decide (op=11)) z4 z1) (br (decide (op=12)) (br (decide (op=12)) z4 z1) (br (decide (op=14)) z4 z1))))):=by
 conv=>zeta
 delta qI;unfold sJ;simp only[ak]
 repeat' (first | (refine And.intro ?_ ?_) | (intro _))
 all_goals first | rfl | (simp_all;done) | (simp_all;omega) | grind
theorem YO:bJ bM.gd 90 aax:=
 jA (cx:=bM) (n:=35) (cl:=[]) aF trivial Tryz.func90 λd hd=>by
  obtain⟨⟨vs,ms,cs,fs,ts,⟨⟩⟩,op,⟨⟩⟩:=d;exact⟨λ_=>none,cast (by kernel_rfl) (adz vs ms cs fs ts op)⟩
def gu(vs:List VD):List ByteArray:=vs.map λv=>v.1
def iK(fs:List FD):List ByteArray:=fs.map λf=>f.1
abbrev KL:CT:={ ps:=[qN],pre:=λd=>d.1.1.length<=1000000,res:=λd=>([.row 9 .str (gu d.1.1)],.one (.c (.row 0))) }
abbrev agr(vs:List VD) (ms cs:List ByteArray) (fs:List FD) (ts:List SD):Nat->Option (St->mO):=λk=>match k with
 | 3=>some λ_=>.inv { α:=Nat,slots:=λk=>[(9,.c (.v (.int .i64 k))),(3,.c (.row 1))],res:=λk=>[(1,.row 9 .str (gu (vs.take k)))],inv:=λk=>k<=(vs).length,meas:=λk=>(vs).length - k,nil:=[(3,9,.str)] }
 | _=>none
theorem adA(vs:List VD) (ms cs:List ByteArray) (fs:List FD) (ts:List SD) (aS:KL.pre ((vs,ms,cs,fs,ts,()),())):
 let z2:=[SC.sl Ea vs,SC.sl Sh.str ms,SC.sl Sh.str cs,SC.sl BM fs,SC.sl kV ts];let z1:=λ(x:Nat)=>[g0 (aC.blk 27 z2),g0 (aC.row 9 Sh.str (gu (List.take x vs)))];(∃x,x<=vs.length/\(cI 0=cI (x:Int)/\SV.c (SC.row (Nat.succ 0))=SV.c (SC.row 1)/\True)/\[g0 (aC.blk 27 z2),g0 (aC.row 9 Sh.str [])]=(z1 x))/\∀(x:Nat),x<=vs.length->br (decide ((x:Int) < (vs.length:Int))) ((0<=(x:Int)/\(x:Int) < (vs.length:Int))/\∀(d:ByteArray×(I6.pair Sh.unit).den),vs[(x:Int).toNat]?=some d->wE (List.length (gu (List.take x vs))+List.length ([d.fst])) 16/\iR ((x:Int)+(1:Int))/\∃x',x'<=vs.length/\(cI ((x:Int)+(1:Int))=cI (x':Int)/\SV.c (SC.row 1)=SV.c (SC.row 1)/\True)/\[g0 (aC.blk 27 z2),g0 (aC.row 9 Sh.str (gu (List.take x vs)++[d.fst]))]=(z1 x')/\vs.length - x' < vs.length - x) ([aC.row 9 Sh.str (gu vs)]=[aC.row 9 Sh.str (gu (List.take x vs))]/\aW.one (SV.c (SC.row 0))=aW.one (SV.c (SC.row 0))):=by
 conv=>zeta
 delta cI g0 I6 iR;have hp:(vs).length<=1000000:=aS;refine⟨⟨0,by omega,⟨rfl,rfl,trivial⟩,rfl⟩,λk hk=>ak.2 ⟨λh=>?_,λh=>?_⟩⟩
 .simp only[iE]at h;refine⟨by omega,λd hd=>?_⟩
  have hd:(vs)[k]?=some d:=by simpa using hd
  have e:gu ((vs).take (k+1))=gu ((vs).take k)++[d.1]:=by
   unfold gu;rw[OV,hd];simp
  refine⟨?_,aA.2 (by omega),k+1,by omega,⟨rfl,rfl,trivial⟩,?_,by omega⟩
  .have:(gu ((vs).take k)).length<=1000000:=by simp[gu];omega
   exact lJ.2 (by simp only[zI,OQ];omega)
  .rw[e]
 .simp only[iZ]at h;rw[Gy (by omega)];exact⟨rfl,rfl⟩
theorem YP:bJ bM.gd 69 KL:=
 jA (cx:=bM) (n:=20) (cl:=[]) aF trivial Tryz.func69 λd hd=>by
  obtain⟨⟨vs,ms,cs,fs,ts,⟨⟩⟩,⟨⟩⟩:=d;exact⟨agr vs ms cs fs ts,cast (by kernel_rfl) (adA vs ms cs fs ts hd)⟩
abbrev KN:CT:={ ps:=[qN],pre:=λd=>d.1.2.2.2.1.length<=1000000,res:=λd=>([.row 9 .str (iK d.1.2.2.2.1)],.one (.c (.row 0))) }
abbrev ags(vs:List VD) (ms cs:List ByteArray) (fs:List FD) (ts:List SD):Nat->Option (St->mO):=λk=>match k with
 | 3=>some λ_=>.inv { α:=Nat,slots:=λk=>[(9,.c (.v (.int .i64 k))),(3,.c (.row 1))],res:=λk=>[(1,.row 9 .str (iK (fs.take k)))],inv:=λk=>k<=(fs).length,meas:=λk=>(fs).length - k,nil:=[(3,9,.str)] }
 | _=>none
theorem adB(vs:List VD) (ms cs:List ByteArray) (fs:List FD) (ts:List SD) (aS:KN.pre ((vs,ms,cs,fs,ts,()),())):
 let z2:=[SC.sl Ea vs,SC.sl Sh.str ms,SC.sl Sh.str cs,SC.sl BM fs,SC.sl kV ts];let z1:=λ(x:Nat)=>[g0 (aC.blk 27 z2),g0 (aC.row 9 Sh.str (iK (List.take x fs)))];(∃x,x<=fs.length/\(cI 0=cI (x:Int)/\SV.c (SC.row (Nat.succ 0))=SV.c (SC.row 1)/\True)/\[g0 (aC.blk 27 z2),g0 (aC.row 9 Sh.str [])]=(z1 x))/\∀(x:Nat),x<=fs.length->br (decide ((x:Int) < (fs.length:Int))) ((0<=(x:Int)/\(x:Int) < (fs.length:Int))/\∀(d:ByteArray×(kC.sl.pair Sh.unit).den),fs[(x:Int).toNat]?=some d->wE (List.length (iK (List.take x fs))+List.length ([d.fst])) 16/\iR ((x:Int)+(1:Int))/\∃x',x'<=fs.length/\(cI ((x:Int)+(1:Int))=cI (x':Int)/\SV.c (SC.row 1)=SV.c (SC.row 1)/\True)/\[g0 (aC.blk 27 z2),g0 (aC.row 9 Sh.str (iK (List.take x fs)++[d.fst]))]=(z1 x')/\fs.length - x' < fs.length - x) ([aC.row 9 Sh.str (iK fs)]=[aC.row 9 Sh.str (iK (List.take x fs))]/\aW.one (SV.c (SC.row 0))=aW.one (SV.c (SC.row 0))):=by
 conv=>zeta
 delta cI g0 I6 iR;have hp:(fs).length<=1000000:=aS;refine⟨⟨0,by omega,⟨rfl,rfl,trivial⟩,rfl⟩,λk hk=>ak.2 ⟨λh=>?_,λh=>?_⟩⟩
 .simp only[iE]at h;refine⟨by omega,λd hd=>?_⟩
  have hd:(fs)[k]?=some d:=by simpa using hd
  have e:iK ((fs).take (k+1))=iK ((fs).take k)++[d.1]:=by
   unfold iK;rw[OV,hd];simp
  refine⟨?_,aA.2 (by omega),k+1,by omega,⟨rfl,rfl,trivial⟩,?_,by omega⟩
  .have:(iK ((fs).take k)).length<=1000000:=by simp[iK];omega
   exact lJ.2 (by simp only[zI,OQ];omega)
  .rw[e]
 .simp only[iZ]at h;rw[Gy (by omega)];exact⟨rfl,rfl⟩
theorem YQ:bJ bM.gd 71 KN:=
 jA (cx:=bM) (n:=20) (cl:=[]) aF trivial Tryz.func71 λd hd=>by
  obtain⟨⟨vs,ms,cs,fs,ts,⟨⟩⟩,⟨⟩⟩:=d;exact⟨ags vs ms cs fs ts,cast (by kernel_rfl) (adB vs ms cs fs ts hd)⟩
def Di(l:List ByteArray) (x:ByteArray):Int:=match l.findIdx? (λy=>decide (y=x)) with | some k=>(k:Int) | none=>-1
theorem KO{x:ByteArray} (hd:l[k]?=some x) (hn:∀j < k,∀y,l[j]?=some y->y≠x):Di l x=k:=by
 have gY:k < l.length:=(eU.1 hd).1;have:l.findIdx? (λy=>decide (y=x))=some k:=by
  rw[ZQ];refine⟨gY,by have:=(eU.1 hd).2;simp[this],λj hj=>?_⟩
  have:=hn j hj l[j] (kW (by omega))
  simpa using this
 simp[Di,this]
theorem QF{x:ByteArray} (hn:∀(j:Nat) y,l[j]?=some y->y≠x):Di l x = -1:=by
 have:l.findIdx? (λy=>decide (y=x))=none:=by
  rw[A86];intro y hy;obtain⟨j,hj⟩:=Ja hy;simpa using hn j y hj
 simp[Di,this]
abbrev KP:CT:={ ps:=[.sl .str,.str],pre:=λd=>d.1.length<=1000000,res:=λd=>([],.one (.c (.v (.int .i64 (Di d.1 d.2.1))))) }
abbrev adC(l:List ByteArray) (x:ByteArray):Nat->Option (St->mO):=λk=>match k with
 | 2=>some λ_=>.inv { α:=Nat,slots:=λk=>[(8,.c (.v (.int .i64 k)))],res:=λk=>[],inv:=λk=>k<=(l).length/\∀j < k,∀y,l[j]?=some y->y≠x,meas:=λk=>(l).length - k }
 | _=>none
theorem YR(l:List ByteArray) (x:ByteArray) (aS:KP.pre (l,x,())):
 let z1:=λ(x_1:Nat)=>(x_1<=l.length/\∀(j:Nat),j < x_1->∀(y:ByteArray),l[j]?=some y->y≠x);(∃x_1,(z1 x_1)/\(cI 0=cI (x_1:Int)/\True)/\([]:List o7)=[])/\∀(x_1:Nat),(z1 x_1)->br (decide ((x_1:Int) < (l.length:Int))) ((0<=(x_1:Int)/\(x_1:Int) < (l.length:Int))/\∀(d:ByteArray),l[(x_1:Int).toNat]?=some d->br (decide (x=d)) (qI (Di l x) (x_1:Int)) (iR ((x_1:Int)+(1:Int))/\∃x',(x'<=l.length/\∀(j:Nat),j < x'->∀(y:ByteArray),l[j]?=some y->y≠x)/\(cI ((x_1:Int)+(1:Int))=cI (x':Int)/\True)/\([]:List o7)=[]/\l.length - x' < l.length - x_1)) (qI (Di l x) (-1:Int)):=by
 conv=>zeta
 delta o7 cI qI iR;refine⟨⟨0,⟨by omega,λj hj=>by omega⟩,⟨rfl,trivial⟩,rfl⟩,λk hk=>ak.2 ⟨λh=>?_,λh=>?_⟩⟩
 .simp only[iE]at h;have hp:l.length<=1000000:=aS;refine⟨by omega,λd hd=>?_⟩
  have hd:l[k]?=some d:=by simpa using hd
  refine ak.2 ⟨λhe=>?_,λhe=>⟨aA.2 (by omega),k+1,⟨by omega,λj hj y hy=>?_⟩,⟨rfl,trivial⟩,rfl,by omega⟩⟩
  .have he:x=d:=by simpa using he
   rw[KO (by rw[hd,he]) hk.2];exact⟨rfl,rfl⟩
  .by_cases ku:j=k
   .subst ku;rw[hd]at hy;cases hy;intro hh;simp[hh]at he
   .exact hk.2 j (by omega) y hy
 .simp only[iZ]at h;rw[QF (λj y hy=>hk.2 j (by have:=(eU.1 hy).1;omega) y hy)];exact⟨rfl,rfl⟩
theorem U5:bJ bM.gd 106 KP:=
 jA (cx:=bM) (n:=19) (cl:=[]) aF trivial Tryz.func106 λd hd=>by
  obtain⟨l,x,⟨⟩⟩:=d;exact⟨adC l x,cast (by kernel_rfl) (YR l x hd)⟩
def qO(l:List ByteArray) (x:ByteArray):Bool:=l.any λy=>decide (y=x)
theorem U6(l:List ByteArray) (x:ByteArray):qO l x=decide (0<=Di l x):=by
 have h:=List.findIdx?_isSome (xs:=l) (p:=λy=>decide (y=x))
 unfold qO Di;rw[<-h];cases l.findIdx? (λy=>decide (y=x)) with
 | none=>rfl
 | some k=>simp
abbrev KQ:CT:={ ps:=[.sl .str,.str],pre:=λd=>d.1.length<=1000000,res:=λd=>([],vB (qO d.1 d.2.1)) }
theorem adD(l:List ByteArray) (x:ByteArray) (aS:KQ.pre (l,x,())):
 l.length<=1000000/\qB (qO l x) (decide (0<=Di l x)):=by
 delta qB;refine⟨aS,rfl,?_⟩;rw[U6]
theorem YT:bJ bM.gd 88 KQ:=
 jA (cx:=bM) (n:=9) (cl:=[(106,KP)]) aF ⟨U5,trivial⟩ Tryz.func88 λd hd=>by
  obtain⟨l,x,⟨⟩⟩:=d;exact⟨λ_=>none,cast (by kernel_rfl) (adD l x hd)⟩
def Ed(s:ByteArray) (i:Nat):Int:=match s[i]? with | some u=>(u.toNat:Int) | none=>0
theorem FZ{s:ByteArray}{i:Nat}{u:UInt8} (h:s[i]?=some u):Ed s i=u.toNat:=by simp[Ed,h]
def okB(c:Int):Bool:=qh c || decide (c=95) || decide (48<=c/\c<=57)
def dh(s:ByteArray):Bool:=decide (1<=s.size/\s.size<=16) && qh (Ed s 0) && (List.range s.size).all λi=>okB (Ed s i)
abbrev agt:CT:={ ps:=[.str],pre:=λd=>True,res:=λd=>([],vB (dh d.1)) }
abbrev agu(s:ByteArray):Nat->Option (St->mO):=λk=>match k with
 | 4=>some λ_=>.inv { α:=Nat,slots:=λk=>[(20,.c (.v (.int .i64 k)))],res:=λk=>[],inv:=λk=>k<=((List.range s.size)).length/\∀j < k,okB (Ed s j)=true,meas:=λk=>((List.range s.size)).length - k }
 | _=>none
theorem adE(s:ByteArray):
 let z5:=(s.size:Int) < (1:Int);let z3:=!(decide z5 || decide (16 < (s.size:Int)));let z6:=List.range s.size;let z2:=λ(x:Nat)=>(x<=z6.length/\∀(j:Nat),j < x->okB (Ed s j)=true);let z4:=λ(u u_1:UInt8)=>!qh (u.toNat:Int) && !decide ((u_1.toNat:Int)=(95:Int));let z1:=λ(u_2 u u_1:UInt8)=>!decide ((u_2.toNat:Int) < (48:Int)) && (z4 u u_1);(z3=true->(0:Int)<=(0:Int)/\0 < (s.size:Int))/\∀(u:UInt8),(z3=true->s[0]?=some u)->(z3=true->True)/\br (decide z5 || decide (16 < (s.size:Int)) || !qh (u.toNat:Int)) (qB (dh s) false) ((∃x,(z2 x)/\(cI 0=cI (x:Int)/\True)/\([]:List o7)=[])/\∀(x:Nat),(z2 x)->br (decide ((x:Int) < (s.size:Int))) ((0<=(x:Int)/\(x:Int) < (s.size:Int))/\∀(u:UInt8),s[(x:Int).toNat]?=some u->True/\((!qh (u.toNat:Int))=true->0<=(x:Int)/\(x:Int) < (s.size:Int))/\∀(u_1:UInt8),((!qh (u.toNat:Int))=true->s[(x:Int).toNat]?=some u_1)->((z4 u u_1)=true->0<=(x:Int)/\(x:Int) < (s.size:Int))/\∀(u_2:UInt8),((z4 u u_1)=true->s[(x:Int).toNat]?=some u_2)->((z1 u_2 u u_1)=true->0<=(x:Int)/\(x:Int) < (s.size:Int))/\∀(u_3:UInt8),((z1 u_2 u u_1)=true->s[(x:Int).toNat]?=some u_3)->br (!qh (u.toNat:Int) && !decide ((u_1.toNat:Int)=(95:Int)) && (decide ((u_2.toNat:Int) < (48:Int)) || decide (57 < (u_3.toNat:Int)))) (qB (dh s) false) (iR ((x:Int)+(1:Int))/\∃x',(z2 x')/\(cI ((x:Int)+(1:Int))=cI (x':Int)/\True)/\([]:List o7)=[]/\z6.length - x' < z6.length - x)) (qB (dh s) true)):=by
 conv=>zeta
 delta o7 cI qB iR;have hs2:(!(decide ((s.size:Int) < (1:Int)) || decide ((16:Int) < (s.size:Int))))=true↔(1<=s.size/\s.size<=16):=by
  simp only[yS,pz,iZ];omega
 refine⟨λh=>by have:=hs2.1 h;omega,λu hu=>⟨λ_=>trivial,ak.2 ⟨λh=>⟨rfl,?_⟩,λh=>?_⟩⟩⟩
 .have:dh s=false:=by
   unfold dh
   by_cases hs:1<=s.size/\s.size<=16
   .have e:=FZ (hu (hs2.2 hs));simp only[uM,iE,yS]at h;have h0:qh (Ed s 0)=false:=by
     rw[e];rcases h with(h | h) | h
     .omega
     .omega
     .exact h
    rw[h0];simp
   .rw[Ep hs];rfl
  rw[this]
 .simp only[pz,iZ,QN]at h;obtain⟨⟨h1,h2⟩,h3⟩:=h;have hs:1<=s.size/\s.size<=16:=by omega
  have e:=FZ (hu (hs2.2 hs));have hl:(List.range s.size).length=s.size:=List.length_range;rw[hl];refine⟨⟨0,⟨by omega,λj hj=>by omega⟩,⟨rfl,trivial⟩,rfl⟩,λk hk=>ak.2 ⟨λh=>?_,λh=>?_⟩⟩
  .simp only[iE]at h;have hN:(k:Int).toNat=k:=by omega
   rw[hN];refine⟨by omega,λv hv=>⟨trivial,λ_=>by omega,λv1 hv1=>⟨λ_=>by omega,λv2 hv2=>⟨λ_=>by omega,λv3 hv3=>?_⟩⟩⟩⟩
   have ev:=FZ hv;have bad:okB (Ed s k)=false->dh s=false:=by
    intro hb;unfold dh;have:((List.range s.size).all λi=>okB (Ed s i))=false:=by
     rw[List.all_eq_false];exact⟨k,by simp;omega,by rw[hb];simp⟩
    rw[this];simp
   have fin:okB (Ed s k)=true->(Je IntKind.i64 ((k:Int)+1)/\∃x',(x'<=s.size/\∀(j:Nat),j < x'->okB (Ed s j)=true)/\(SV.c (SC.v (Value.int IntKind.i64 ((k:Int)+1)))=SV.c (SC.v (Value.int IntKind.i64 (x':Int)))/\True)/\([]:List (Go.lM.Gd×Go.lM.aC))=[]/\s.size - x' < s.size - k):=λho=>
    ⟨aA.2 (by omega),k+1,⟨by omega,λj hj=>by
     by_cases ku:j=k
     .rw[ku];exact ho
     .exact hk.2 j (by omega)⟩,⟨rfl,trivial⟩,rfl,by omega⟩
   cases hA:qh (v.toNat:Int) with
   | true=>
     refine ak.2 ⟨λh=>by simp at h,λ_=>fin ?_⟩
     rw[ev];unfold okB;rw[hA];rfl
   | false=>
     have hv1:=hv1 (by rw[hA];rfl)
     rw[hv]at hv1;cases hv1
     by_cases h95:(v.toNat:Int)=95
     .refine ak.2 ⟨λh=>by simp[h95]at h,λ_=>fin ?_⟩
      rw[ev];unfold okB;simp[h95]
     .have hd95:decide ((v.toNat:Int)=95)=false:=Ep h95;have hv2:=hv2 (by rw[hA,hd95];rfl)
      rw[hv]at hv2;cases hv2
      by_cases h48:(v.toNat:Int) < 48
      .refine ak.2 ⟨λ_=>⟨rfl,?_⟩,λh=>by simp[h95,h48]at h⟩
       rw[bad (by rw[ev];unfold okB;rw[hA,hd95];simp;omega)]
      .have aiu:decide ((v.toNat:Int) < 48)=false:=Ep h48;have hv3:=hv3 (by rw[hA,hd95,aiu];rfl)
       rw[hv]at hv3;cases hv3
       by_cases h57:57 < (v.toNat:Int)
       .refine ak.2 ⟨λ_=>⟨rfl,?_⟩,λh=>by simp[h95,h57]at h⟩
        rw[bad (by rw[ev];unfold okB;rw[hA,hd95];simp;omega)]
       .refine ak.2 ⟨λh=>by simp[h95,h48,h57]at h,λ_=>fin ?_⟩
        rw[ev];unfold okB;rw[hA,hd95];simp;omega
  .simp only[iZ]at h;have:dh s=true:=by
    unfold dh;rw[Wx hs,e,h3];simp only[GH];rw[LM];intro i hi;simp at hi;exact hk.2 i (by omega)
   rw[this];exact⟨rfl,rfl⟩
theorem YU:bJ bM.gd 87 agt:=
 jA (cx:=bM) (n:=47) (cl:=[(105,aaw)]) aF ⟨U3,trivial⟩ Tryz.func87 λd hd=>by
  obtain⟨s,⟨⟩⟩:=d;exact⟨agu s,cast (by kernel_rfl) (adE s)⟩
def fG(l:List ByteArray):Int×Int:=match(List.range l.length).find? (λi=>!dh (l.getD i ⟨#[]⟩) || qO (l.take i) (l.getD i ⟨#[]⟩)) with
 | some i=>(if dh (l.getD i ⟨#[]⟩) then 7 else 6,i)
 | none=>(0,-1)
theorem tX(hk:k < l.length) (h:∀j < k,dh (l.getD j ⟨#[]⟩)=true/\qO (l.take j) (l.getD j ⟨#[]⟩)=false) (hf:dh (l.getD k ⟨#[]⟩)=false\/qO (l.take k) (l.getD k ⟨#[]⟩)=true):
 fG l=(if dh (l.getD k ⟨#[]⟩) then 7 else 6,(k:Int)):=by
 unfold fG;rw[show(List.range l.length).find? (λi=>!dh (l.getD i ⟨#[]⟩) || qO (l.take i) (l.getD i ⟨#[]⟩))=some k from List.find?_range_eq_some.2 ⟨by rcases hf with hf | hf<;>rw[hf]<;>simp,by simpa using hk,λj hj=>by obtain⟨a,b⟩:=h j hj;rw[a,b];rfl⟩]
theorem IZ(h:∀j < l.length,dh (l.getD j ⟨#[]⟩)=true/\qO (l.take j) (l.getD j ⟨#[]⟩)=false):fG l=(0,-1):=by
 unfold fG;rw[show(List.range l.length).find? (λi=>!dh (l.getD i ⟨#[]⟩) || qO (l.take i) (l.getD i ⟨#[]⟩))=none from WB.2 λi hi=>by
  obtain⟨a,b⟩:=h i (by simpa using hi)
  rw[a,b];simp]
abbrev U7:CT:={ ps:=[.sl .str],pre:=λd=>d.1.length<=1000000,res:=λd=>([],.iQ [.c (.v (.int .i64 (fG d.1).1)),.c (.v (.int .i64 (fG d.1).2))]) }
abbrev agv(l:List ByteArray):Nat->Option (St->mO):=λk=>match k with
 | 2=>some λ_=>.inv { α:=Nat,slots:=λk=>[(8,.c (.v (.int .i64 k)))],res:=λk=>[],inv:=λk=>k<=(l).length/\∀j < k,dh (l.getD j ⟨#[]⟩)=true/\qO (l.take j) (l.getD j ⟨#[]⟩)=false,meas:=λk=>(l).length - k }
 | _=>none
theorem adF(l:List ByteArray) (aS:U7.pre (l,())):
 let z1:=λ(x:Nat)=>(x<=l.length/\∀(j:Nat),j < x->dh (l.getD j { data:=#[]:ByteArray })=true/\qO (List.take j l) (l.getD j { data:=#[]:ByteArray })=false);let z2:=[cI ((fG l).fst),cI ((fG l).snd)];(∃x,(z1 x)/\(cI 0=cI (x:Int)/\True)/\([]:List o7)=[])/\∀(x:Nat),(z1 x)->br (decide ((x:Int) < (l.length:Int))) ((0<=(x:Int)/\(x:Int) < (l.length:Int))/\∀(d:ByteArray),l[(x:Int).toNat]?=some d->True/\br (!dh d) (rT z2 [cI 6,cI (x:Int)]) (((0:Int)<=(0:Int)/\0<=(x:Int)/\(x:Int)<=(l.length:Int))/\(List.drop 0 (List.take (x:Int).toNat l)).length<=1000000/\br (qO (List.drop 0 (List.take (x:Int).toNat l)) d) (rT z2 [cI 7,cI (x:Int)]) (iR ((x:Int)+(1:Int))/\∃x',(z1 x')/\(cI ((x:Int)+(1:Int))=cI (x':Int)/\True)/\([]:List o7)=[]/\l.length - x' < l.length - x))) (rT z2 [cI 0,cI (-1)]):=by
 conv=>zeta
 delta o7 cI rT iR;have hp:l.length<=1000000:=aS;refine⟨⟨0,⟨by omega,λj hj=>by omega⟩,⟨rfl,trivial⟩,rfl⟩,λk hk=>ak.2 ⟨λh=>?_,λh=>?_⟩⟩
 .simp only[iE]at h;have hN:(k:Int).toNat=k:=by omega
  rw[hN];refine⟨by omega,λd hd=>?_⟩
  have hg:l.getD k ⟨#[]⟩=d:=by rw[Gu,hd];rfl
  refine⟨trivial,ak.2 ⟨λh2=>⟨rfl,?_⟩,λh2=>⟨⟨by omega,by omega,by omega⟩,by simp;omega,ak.2 ⟨λh3=>⟨rfl,?_⟩,λh3=>⟨aA.2 (by omega),k+1,⟨by omega,λj hj=>?_⟩,⟨rfl,trivial⟩,rfl,by omega⟩⟩⟩⟩⟩
  .have h2:dh d=false:=by simpa using h2
   rw[tX (by omega) hk.2 (.inl (by rw[hg];exact h2)),hg,h2];rfl
  .have h2:dh d=true:=by simpa using h2
   have h3:qO (l.take k) d=true:=by simpa using h3
   rw[tX (by omega) hk.2 (.inr (by rw[hg];exact h3)),hg,h2];rfl
  .by_cases ku:j=k
   .subst ku;rw[hg];exact⟨by simpa using h2,by simpa using h3⟩
   .exact hk.2 j (by omega)
 .simp only[iZ]at h;rw[IZ λj hj=>hk.2 j (by omega)];exact⟨rfl,rfl⟩
theorem YV:bJ bM.gd 70 U7:=
 jA (cx:=bM) (n:=24) (cl:=[(87,agt),(88,KQ)]) aF ⟨YU,YT,trivial⟩ Tryz.func70 λd hd=>by
  obtain⟨l,⟨⟩⟩:=d;exact⟨agv l,cast (by kernel_rfl) (adF l hd)⟩
def Wh(vs:List VD) (ms cs:List ByteArray) (fs:List FD) (e op obj n m:Int):Int:=if e≠0 then e else if 0<=sJ vs ms cs fs op/\(obj < 0\/sJ vs ms cs fs op<=obj) then 11 else if op=18/\(n < 0\/(ms.length:Int)<=n) then 11 else if(op=4\/op=5)/\(n < 0\/m < n) then 12 else 0
abbrev qP(i:ID):Int:=nU i.1 i.2.1 i.2.2.1 i.2.2.2.1 i.2.2.2.2.1 i.2.2.2.2.2.1 i.2.2.2.2.2.2.1 i.2.2.2.2.2.2.2.1
abbrev tY(vs:List VD) (ms cs:List ByteArray) (fs:List FD) (i:ID) (m:Int):Int:=Wh vs ms cs fs (qP i) i.1 i.2.2.2.2.1 i.2.2.2.2.2.1 m
abbrev agw:CT:={ ps:=[qN,kC,.int .i64],pre:=λd=>True,res:=λd=>([],.one (.c (.v (.int .i64 (tY d.1.1 d.1.2.1 d.1.2.2.1 d.1.2.2.2.1 d.2.1 d.2.2.1))))) }
theorem adG(vs:List VD) (ms cs:List ByteArray) (fs:List FD) (ts:List SD) (op a b c obj n fn ord m:Int):
 let z3:=nU op a b c obj n fn ord;let z2:=Wh vs ms cs fs z3 op obj n m;let z1:=qI z2 (11:Int);True/\br (!decide (nU op a b c obj n fn ord=0)) (qI z2 z3) (True/\br (decide (0<=sJ vs ms cs fs op) && (decide (obj < 0) || decide (sJ vs ms cs fs op<=obj))) z1 (br (decide (op=18) && (decide (n < 0) || decide ((ms.length:Int)<=n))) z1 (br ((decide (op=4) || decide (op=5)) && (decide (n < 0) || decide (m < n))) (qI z2 (12:Int)) (qI z2 (0:Int))))):=by
 conv=>zeta
 delta qI;generalize nU op a b c obj n fn ord=e;unfold Wh;generalize sJ vs ms cs fs op=o;refine⟨trivial,ak.2 ⟨λh=>⟨rfl,?_⟩,λh=>⟨trivial,ak.2 ⟨λh2=>⟨rfl,?_⟩,λh2=>ak.2 ⟨λh3=>⟨rfl,?_⟩,λh3=>ak.2 ⟨λh4=>⟨rfl,?_⟩,λh4=>⟨rfl,?_⟩⟩⟩⟩⟩⟩⟩
 all_goals simp only[yS,QN,A8,uM,A94,pz,iE,iZ]at *
 all_goals (congr 4;(repeat' split)<;>first | rfl | omega | (exfalso;omega))
theorem YW:bJ bM.gd 76 agw:=
 jA (cx:=bM) (n:=66) (cl:=[(48,ac5),(90,aax)]) aF ⟨NR,YO,trivial⟩ Tryz.func76 λd hd=>by
  obtain⟨⟨vs,ms,cs,fs,ts,⟨⟩⟩,⟨op,a,b,c,obj,n,fn,ord,⟨⟩⟩,m,⟨⟩⟩:=d;exact⟨λ_=>none,cast (by kernel_rfl) (adG vs ms cs fs ts op a b c obj n fn ord m)⟩
def y7(vs:List VD) (ms cs:List ByteArray) (fs:List FD):Int×Int×Int:=
 if(fG (gu vs)).1≠0 then((fG (gu vs)).1,-1,-1) else if(fG ms).1≠0 then((fG ms).1,-1,-1) else if(fG cs).1≠0 then((fG cs).1,-1,-1) else((fG (iK fs)).1,(fG (iK fs)).2,-1)
theorem adH{d:List ByteArray} (hd:[gu vs,ms,cs][k]?=some d) (h:(fG d).1≠0) (hn:∀j < k,∀x,[gu vs,ms,cs][j]?=some x->(fG x).1=0):
 y7 vs ms cs fs=((fG d).1,-1,-1):=by
 unfold y7
 match k,hd,hn with
 | 0,hd,hn=>simp at hd;subst hd;rw[if_pos h]
 | 1,hd,hn=>
   simp at hd;subst hd;have h0:=hn 0 (by omega) (gu vs) rfl
   rw[if_neg (by rw[h0];simp),if_pos h]
 | 2,hd,hn=>
   simp at hd;subst hd;have h0:=hn 0 (by omega) (gu vs) rfl
   have h1:=hn 1 (by omega) ms rfl
   rw[if_neg (by rw[h0];simp),if_neg (by rw[h1];simp),if_pos h]
 | k+3,hd,hn=>simp at hd
theorem agx(hn:∀(j:Nat) x,[gu vs,ms,cs][j]?=some x->(fG x).1=0):y7 vs ms cs fs=((fG (iK fs)).1,(fG (iK fs)).2,-1):=by
 unfold y7;have h0:=hn 0 (gu vs) rfl;have h1:=hn 1 ms rfl;have h2:=hn 2 cs rfl;rw[if_neg (by rw[h0];simp),if_neg (by rw[h1];simp),if_neg (by rw[h2];simp)]
abbrev adI:CT:={ ps:=[qN],pre:=λd=>d.1.1.length<=1000000/\d.1.2.1.length<=1000000/\d.1.2.2.1.length<=1000000/\d.1.2.2.2.1.length<=1000000,res:=λd=>([],.iQ [.c (.v (.int .i64 ((y7 d.1.1 d.1.2.1 d.1.2.2.1 d.1.2.2.2.1).1))),.agg [.v (.int .i64 ((y7 d.1.1 d.1.2.1 d.1.2.2.1 d.1.2.2.2.1).2.1)),.v (.int .i64 ((y7 d.1.1 d.1.2.1 d.1.2.2.1 d.1.2.2.2.1).2.2))]]) }
abbrev agy(vs:List VD) (ms cs:List ByteArray) (fs:List FD) (ts:List SD):Nat->Option (St->mO):=λk=>match k with
 | 2=>some λ_=>.inv { α:=Nat,slots:=λk=>[(18,.c (.v (.int .i64 k)))],res:=λk=>[],inv:=λk=>k<=([gu vs,ms,cs]).length/\∀j < k,∀x,[gu vs,ms,cs][j]?=some x->(fG x).1=0,meas:=λk=>([gu vs,ms,cs]).length - k }
 | _=>none
abbrev QG:=[v6 (-1),v6 (-1)]
theorem adJ(vs:List VD) (ms cs:List ByteArray) (fs:List FD) (ts:List SD) (aS:adI.pre ((vs,ms,cs,fs,ts,()),())):
 let z3:=[gu vs,ms,cs];let z1:=[g0 (aC.blk 27 [SC.sl Ea vs,SC.sl Sh.str ms,SC.sl Sh.str cs,SC.sl BM fs,SC.sl kV ts]),g0 (aC.blk 94 [v6 0,v6 0]),g0 aC.gone,g0 (aC.row 23 Sh.str.sl z3)];let z4:=y7 vs ms cs fs;let z2:=[cI (z4.fst),SV.agg [v6 (z4.snd.fst),v6 (z4.snd.snd)]];vs.length<=1000000/\(∃x,(x<=z3.length/\∀(j:Nat),j < x->∀(x:List ByteArray),z3[j]?=some x->(fG x).fst=0)/\(cI 0=cI (x:Int)/\True)/\sm z1)/\∀(x:Nat),(x<=z3.length/\∀(j:Nat),j < x->∀(x:List ByteArray),z3[j]?=some x->(fG x).fst=0)->br (decide ((x:Int) < (z3.length:Int))) ((0<=(x:Int)/\(x:Int) < (z3.length:Int))/\(x:Int).toNat < z3.length/\∀(d:List ByteArray),z3[(x:Int).toNat]?=some d->d.length<=1000000/\br (!decide ((fG d).fst=0)) (rT z2 [cI ((fG d).fst),SV.agg QG]) (iR ((x:Int)+(1:Int))/\∃x',(x'<=z3.length/\∀(j:Nat),j < x'->∀(x:List ByteArray),z3[j]?=some x->(fG x).fst=0)/\(cI ((x:Int)+(1:Int))=cI (x':Int)/\True)/\sm z1/\z3.length - x' < z3.length - x)) (fs.length<=1000000/\(iK fs).length<=1000000/\rT z2 [cI ((fG (iK fs)).fst),SV.agg [v6 ((fG (iK fs)).snd),v6 (-1)]]):=by
 conv=>zeta
 delta QG v6 cI g0 rT sm I6 iR;obtain⟨hp1,hp2,hp3,hp4⟩:vs.length<=1000000/\ms.length<=1000000/\cs.length<=1000000/\fs.length<=1000000:=aS;refine⟨hp1,?_⟩;refine⟨⟨0,⟨by omega,λj hj=>by omega⟩,⟨rfl,trivial⟩,rfl⟩,λk hk=>ak.2 ⟨λh=>?_,λh=>?_⟩⟩
 .have h3:k < 3:=by simp at h;omega
  have h:k < [gu vs,ms,cs].length:=h3;have hN:(k:Int).toNat=k:=by omega
  rw[hN];refine⟨⟨by omega,by omega⟩,h,λd hd=>⟨?_,ak.2 ⟨λh2=>⟨rfl,?_⟩,λh2=>⟨aA.2 (by omega),k+1,⟨by omega,λj hj x hx=>?_⟩,⟨rfl,trivial⟩,rfl,by omega⟩⟩⟩⟩
  .have:d∈[gu vs,ms,cs]:=kT hd;simp only[jM,List.not_mem_nil,or_false]at this;rcases this with rfl | rfl | rfl
   .simpa[gu]using hp1
   .exact hp2
   .exact hp3
  .rw[adH hd (by simpa using h2) hk.2]
  .by_cases ku:j=k
   .subst ku;rw[hd]at hx;cases hx;simpa using h2
   .exact hk.2 j (by omega) x hx
 .have h:¬k < [gu vs,ms,cs].length:=by
   have:¬k < 3:=by simp at h;omega
   exact this
  refine⟨hp4,by simpa[iK]using hp4,rfl,?_⟩
  rw[agx λj x hx=>hk.2 j (by have:=(eU.1 hx).1;omega) x hx]
theorem YX:bJ bM.gd 51 adI:=
 jA (cx:=bM) (n:=41) (cl:=[(69,KL),(70,U7),(71,KN)]) aF ⟨YP,YV,YQ,trivial⟩ Tryz.func51 λd hd=>by
  obtain⟨⟨vs,ms,cs,fs,ts,⟨⟩⟩,⟨⟩⟩:=d;exact⟨agy vs ms cs fs ts,cast (by kernel_rfl) (adJ vs ms cs fs ts hd)⟩
def yR(vs:List VD) (ms cs:List ByteArray) (fs:List FD):Int:=if 8 < vs.length\/4 < ms.length\/4 < cs.length\/8 < fs.length then 4 else if vs.all λv=>dJ v.2.1 then 0 else 2
abbrev agz:CT:={ ps:=[qN],pre:=λd=>True,res:=λd=>([],.iQ [.c (.v (.int .i64 (yR d.1.1 d.1.2.1 d.1.2.2.1 d.1.2.2.2.1))),.agg [.v (.int .i64 (-1)),.v (.int .i64 (-1))]]) }
abbrev agA(vs:List VD) (ms cs:List ByteArray) (fs:List FD) (ts:List SD):Nat->Option (St->mO):=λk=>match k with
 | 5=>some λ_=>.inv { α:=Nat,slots:=λk=>[(34,.c (.v (.int .i64 k)))],res:=λk=>[],inv:=λk=>k<=(vs).length/\∀j < k,∀v,vs[j]?=some v->dJ v.2.1=true,meas:=λk=>(vs).length - k }
 | _=>none
abbrev kq3:=[cI 0,SV.agg [v6 (-1),v6 (-1)]]
theorem adK(vs:List VD) (ms cs:List ByteArray) (fs:List FD) (ts:List SD):
 let z3:=[cI (yR vs ms cs fs),SV.agg QG];let z2:=λ(x:Nat)=>(x<=vs.length/\∀(j:Nat),j < x->∀(v:ByteArray×Int×Unit),vs[j]?=some v->dJ v.snd.fst=true);let z1:=[g0 (aC.blk 27 [SC.sl Ea vs,SC.sl Sh.str ms,SC.sl Sh.str cs,SC.sl BM fs,SC.sl kV ts]),g0 (aC.blk 94 [v6 0,v6 0]),g0 (aC.blk 94 QG)];br (decide (8 < (vs.length:Int)) || decide (4 < (ms.length:Int)) || decide (4 < (cs.length:Int)) || decide (8 < (fs.length:Int))) (rT z3 [cI 4,SV.agg QG]) ((∃x,(z2 x)/\(cI 0=cI (x:Int)/\True)/\sm z1)/\∀(x:Nat),(z2 x)->br (decide ((x:Int) < (vs.length:Int))) ((0<=(x:Int)/\(x:Int) < (vs.length:Int))/\∀(d:ByteArray×(I6.pair Sh.unit).den),vs[(x:Int).toNat]?=some d->True/\br (!dJ (d.snd.fst,()).fst) (rT z3 [cI 2,SV.agg QG]) (iR ((x:Int)+(1:Int))/\∃x',(z2 x')/\(cI ((x:Int)+(1:Int))=cI (x':Int)/\True)/\sm z1/\vs.length - x' < vs.length - x)) (rT z3 kq3)):=by
 conv=>zeta
 delta QG kq3 v6 cI g0 rT sm I6 iR
 by_cases hc:8 < vs.length\/4 < ms.length\/4 < cs.length\/8 < fs.length
 .have e:yR vs ms cs fs=4:=by unfold yR;rw[if_pos hc]
  rw[e];refine ak.2 ⟨λ_=>⟨rfl,rfl⟩,λh=>?_⟩
  simp only[pz,iZ]at h;omega
 refine ak.2 ⟨λh=>?_,λh=>⟨⟨0,⟨by omega,λj hj=>by omega⟩,⟨rfl,trivial⟩,rfl⟩,λk hk=>ak.2 ⟨λh2=>?_,λh2=>?_⟩⟩⟩
 .simp only[uM,iE]at h;omega
 .simp only[iE]at h2;have hN:(k:Int).toNat=k:=by omega
  rw[hN];refine⟨by omega,λd hd=>⟨trivial,ak.2 ⟨λh3=>⟨rfl,?_⟩,λh3=>⟨aA.2 (by omega),k+1,⟨by omega,λj hj v hv=>?_⟩,⟨rfl,trivial⟩,rfl,by omega⟩⟩⟩⟩
  .have h3:dJ d.2.1=false:=by simpa using h3
   have e:yR vs ms cs fs=2:=by
    unfold yR;rw[if_neg hc,if_neg];intro hh;rw[LM]at hh;have:=hh d (kT hd);rw[h3]at this;cases this
   rw[e]
  .have h3:dJ d.2.1=true:=by simpa using h3
   by_cases ku:j=k
   .subst ku;rw[hd]at hv;cases hv;exact h3
   .exact hk.2 j (by omega) v hv
 .simp only[iZ]at h2;have e:yR vs ms cs fs=0:=by
   unfold yR;rw[if_neg hc,if_pos];rw[LM];intro v hv;obtain⟨j,hj⟩:=Ja hv;exact hk.2 j (by have:=(eU.1 hj).1;omega) v hj
  rw[e];exact⟨rfl,rfl⟩
theorem YZ:bJ bM.gd 52 agz:=
 jA (cx:=bM) (n:=45) (cl:=[(72,U4)]) aF ⟨N9,trivial⟩ Tryz.func52 λd hd=>by
  obtain⟨⟨vs,ms,cs,fs,ts,⟨⟩⟩,⟨⟩⟩:=d;exact⟨agA vs ms cs fs ts,cast (by kernel_rfl) (adK vs ms cs fs ts)⟩
def Ee(n:Nat) (t:SD):Int:=if t.1 < 0\/(n:Int)<=t.1 then 11 else if dJ t.2.1 then 0 else 2
def CG(fs:List FD) (ts:List SD):Int:=if ts.length < 1\/8 < ts.length then 4 else match ts.find? (λt=>decide (Ee fs.length t≠0)) with | some t=>Ee fs.length t | none=>0
theorem vM{α:Type}{l:List α}{p:α->Bool}{d:α} (hd:l[k]?=some d) (hp:p d=true) (hn:∀j < k,∀t,l[j]?=some t->p t=false):l.find? p=some d:=by
 induction l generalizing k with
 | nil=>simp at hd
 | cons x l ih=>
   cases k with
   | zero=>simp at hd;subst hd;simp[hp]
   | succ k=>
     have h0:=hn 0 (by omega) x (by simp)
     rw[List.find?_cons,h0];exact ih (by simpa using hd) λj hj t ht=>hn (j+1) (by omega) t (by simpa using ht)
theorem Ob{α:Type}{l:List α}{p:α->Bool} (hn:∀(j:Nat) t,l[j]?=some t->p t=false):l.find? p=none:=by
 rw[WB];intro x hx;obtain⟨j,hj⟩:=Ja hx;rw[hn j x hj];simp
theorem xq{ts:List SD}{d:SD} (hc:¬(ts.length < 1\/8 < ts.length)) (hd:ts[k]?=some d) (h:Ee fs.length d≠0) (hn:∀j < k,∀t,ts[j]?=some t->Ee fs.length t=0):CG fs ts=Ee fs.length d:=by
 unfold CG;rw[if_neg hc,vM hd (by simpa using h) λj hj t ht=>by simpa using hn j hj t ht]
theorem Oc{ts:List SD} (hc:¬(ts.length < 1\/8 < ts.length)) (hn:∀(j:Nat) t,ts[j]?=some t->Ee fs.length t=0):CG fs ts=0:=by
 unfold CG;rw[if_neg hc,Ob λj t ht=>by simpa using hn j t ht]
abbrev agB:CT:={ ps:=[qN],pre:=λd=>True,res:=λd=>([],.iQ [.c (.v (.int .i64 (CG d.1.2.2.2.1 d.1.2.2.2.2.1))),.agg [.v (.int .i64 (-1)),.v (.int .i64 (-1))]]) }
abbrev agC(vs:List VD) (ms cs:List ByteArray) (fs:List FD) (ts:List SD):Nat->Option (St->mO):=λk=>match k with
 | 5=>some λ_=>.inv { α:=Nat,slots:=λk=>[(22,.c (.v (.int .i64 k)))],res:=λk=>[],inv:=λk=>k<=(ts).length/\∀j < k,∀t,ts[j]?=some t->Ee fs.length t=0,meas:=λk=>(ts).length - k }
 | _=>none
theorem adL(vs:List VD) (ms cs:List ByteArray) (fs:List FD) (ts:List SD):
 let z3:=[cI (CG fs ts),SV.agg QG];let z2:=λ(x:Nat)=>(x<=ts.length/\∀(j:Nat),j < x->∀(t:Int×Int×Unit),ts[j]?=some t->Ee fs.length t=0);let z1:=[g0 (aC.blk 27 [SC.sl Ea vs,SC.sl Sh.str ms,SC.sl Sh.str cs,SC.sl BM fs,SC.sl kV ts]),g0 (aC.blk 94 [v6 0,v6 0]),g0 (aC.blk 94 QG)];br (decide ((ts.length:Int) < (1:Int)) || decide (8 < (ts.length:Int))) (rT z3 [cI 4,SV.agg QG]) ((∃x,(z2 x)/\(cI 0=cI (x:Int)/\True)/\sm z1)/\∀(x:Nat),(z2 x)->br (decide ((x:Int) < (ts.length:Int))) ((0<=(x:Int)/\(x:Int) < (ts.length:Int))/\∀(d:Int×(I6.pair Sh.unit).den),ts[(x:Int).toNat]?=some d->br (decide (d.fst < 0) || decide ((fs.length:Int)<=d.fst)) (rT z3 [cI 11,SV.agg QG]) (True/\br (!dJ (d.snd.fst,()).fst) (rT z3 [cI 2,SV.agg QG]) (iR ((x:Int)+(1:Int))/\∃x',(z2 x')/\(cI ((x:Int)+(1:Int))=cI (x':Int)/\True)/\sm z1/\ts.length - x' < ts.length - x))) (rT z3 kq3)):=by
 conv=>zeta
 delta QG kq3 v6 cI g0 rT sm I6 iR
 by_cases hc:ts.length < 1\/8 < ts.length
 .have e:CG fs ts=4:=by unfold CG;rw[if_pos hc]
  rw[e];refine ak.2 ⟨λ_=>⟨rfl,rfl⟩,λh=>?_⟩
  simp only[pz,iZ]at h;omega
 refine ak.2 ⟨λh=>?_,λh=>⟨⟨0,⟨by omega,λj hj=>by omega⟩,⟨rfl,trivial⟩,rfl⟩,λk hk=>ak.2 ⟨λh2=>?_,λh2=>?_⟩⟩⟩
 .simp only[uM,iE]at h;omega
 .simp only[iE]at h2;have hN:(k:Int).toNat=k:=by omega
  rw[hN];refine⟨by omega,λd hd=>ak.2 ⟨λh3=>⟨rfl,?_⟩,λh3=>⟨trivial,ak.2 ⟨λh4=>⟨rfl,?_⟩,λh4=>⟨aA.2 (by omega),k+1,⟨by omega,λj hj v hv=>?_⟩,⟨rfl,trivial⟩,rfl,by omega⟩⟩⟩⟩⟩
  .have h3:d.1 < 0\/(fs.length:Int)<=d.1:=by simpa using h3
   have e:Ee fs.length d=11:=by unfold Ee;rw[if_pos h3]
   rw[xq hc hd (by rw[e];simp) hk.2,e]
  .have h3:¬(d.1 < 0\/(fs.length:Int)<=d.1):=by simpa using h3
   have h4:dJ d.2.1=false:=by simpa using h4
   have e:Ee fs.length d=2:=by unfold Ee;rw[if_neg h3,if_neg (by rw[h4];simp)]
   rw[xq hc hd (by rw[e];simp) hk.2,e]
  .have h3:¬(d.1 < 0\/(fs.length:Int)<=d.1):=by simpa using h3
   have h4:dJ d.2.1=true:=by simpa using h4
   by_cases ku:j=k
   .subst ku;rw[hd]at hv;cases hv;unfold Ee;rw[if_neg h3,if_pos h4]
   .exact hk.2 j (by omega) v hv
 .simp only[iZ]at h2;rw[Oc hc λj t hj=>hk.2 j (by have:=(eU.1 hj).1;omega) t hj];exact⟨rfl,rfl⟩
theorem Y0:bJ bM.gd 54 agB:=
 jA (cx:=bM) (n:=45) (cl:=[(72,U4)]) aF ⟨N9,trivial⟩ Tryz.func54 λd hd=>by
  obtain⟨⟨vs,ms,cs,fs,ts,⟨⟩⟩,⟨⟩⟩:=d;exact⟨agC vs ms cs fs ts,cast (by kernel_rfl) (adL vs ms cs fs ts)⟩
abbrev U8:CT:={ ps:=[BM],pre:=λd=>True,res:=λd=>([],vB (decide (64 < d.1.2.1.length))) }
theorem adM(nm:ByteArray) (l:List ID):
 qB (decide (64 < l.length)) (decide (64 < (l.length:Int))):=by
 delta qB;refine⟨rfl,?_⟩
 congr 4
 rw[Jb];simp only[iE];omega
theorem Y1:bJ bM.gd 74 U8:=
 jA (cx:=bM) (n:=7) (cl:=[]) aF trivial Tryz.func74 λd hd=>by
  obtain⟨⟨nm,l,⟨⟩⟩,⟨⟩⟩:=d;exact⟨λ_=>none,cast (by kernel_rfl) (adM nm l)⟩
def dw(fs:List FD):Int:=match fs.findIdx? (λf=>decide (64 < f.2.1.length)) with | some k=>(k:Int) | none=>-1
theorem BN{d:FD} (hd:fs[k]?=some d) (h2:64 < d.2.1.length) (hn:∀j < k,∀f,fs[j]?=some f->f.2.1.length<=64):dw fs=k:=by
 have gY:k < fs.length:=(eU.1 hd).1;have:fs.findIdx? (λf=>decide (64 < f.2.1.length))=some k:=by
  rw[ZQ];refine⟨gY,by rw[(eU.1 hd).2];simpa using h2,λj hj=>?_⟩
  have:=hn j hj fs[j] (kW (by omega))
  simpa using this
 simp[dw,this]
theorem yB(hn:∀(j:Nat) f,fs[j]?=some f->f.2.1.length<=64):dw fs = -1:=by
 have:fs.findIdx? (λf=>decide (64 < f.2.1.length))=none:=by
  rw[A86];intro y hy;obtain⟨j,hj⟩:=Ja hy;simpa using hn j y hj
 simp[dw,this]
abbrev F5:CT:={ ps:=[.sl BM],pre:=λd=>d.1.length<=1000000,res:=λd=>([],.one (.c (.v (.int .i64 (dw d.1))))) }
abbrev agD(fs:List FD):Nat->Option (St->mO):=λk=>match k with
 | 2=>some λ_=>.inv { α:=Nat,slots:=λk=>[(8,.c (.v (.int .i64 k)))],res:=λk=>[],inv:=λk=>k<=(fs).length/\∀j < k,∀f,fs[j]?=some f->f.2.1.length<=64,meas:=λk=>(fs).length - k }
 | _=>none
theorem adN(fs:List FD) (aS:F5.pre (fs,())):
 let z1:=λ(x:Nat)=>(x<=fs.length/\∀(j:Nat),j < x->∀(f:ByteArray×List ID×Unit),fs[j]?=some f->f.snd.fst.length<=64);(∃x,(z1 x)/\(cI 0=cI (x:Int)/\True)/\([]:List o7)=[])/\∀(x:Nat),(z1 x)->br (decide ((x:Int) < (fs.length:Int))) ((0<=(x:Int)/\(x:Int) < (fs.length:Int))/\∀(d:ByteArray×(kC.sl.pair Sh.unit).den),fs[(x:Int).toNat]?=some d->True/\br (decide (64 < List.length (d.snd.fst,()).fst)) (qI (dw fs) (x:Int)) (iR ((x:Int)+(1:Int))/\∃x',(z1 x')/\(cI ((x:Int)+(1:Int))=cI (x':Int)/\True)/\([]:List o7)=[]/\fs.length - x' < fs.length - x)) (qI (dw fs) (-1:Int)):=by
 conv=>zeta
 delta o7 cI qI I6 iR;have hp:fs.length<=1000000:=aS;refine⟨⟨0,⟨by omega,λj hj=>by omega⟩,⟨rfl,trivial⟩,rfl⟩,λk hk=>ak.2 ⟨λh=>?_,λh=>?_⟩⟩
 .simp only[iE]at h;have hN:(k:Int).toNat=k:=by omega
  rw[hN];refine⟨by omega,λd hd=>⟨trivial,ak.2 ⟨λh2=>⟨rfl,?_⟩,λh2=>⟨aA.2 (by omega),k+1,⟨by omega,λj hj f hf=>?_⟩,⟨rfl,trivial⟩,rfl,by omega⟩⟩⟩⟩
  .have h2:64 < d.2.1.length:=by simpa using h2
   rw[BN hd h2 hk.2]
  .have h2:¬64 < d.2.1.length:=by simpa using h2
   by_cases ku:j=k
   .subst ku;rw[hd]at hf;cases hf;omega
   .exact hk.2 j (by omega) f hf
 .simp only[iZ]at h;rw[yB λj f hf=>hk.2 j (by have:=(eU.1 hf).1;omega) f hf];exact⟨rfl,rfl⟩
theorem U9:Qq Tryz.prog bM.gd 73 [.func (.func 74) #[] #[]] F5:=
 (zA (cx:=bM) (n:=19) (cl:=[(74,U8)]) (il:=ilN) (hl:=hlN) (ml:=mlN) (rc:=[]) (lits:=[]) (suf:=[.func (.func 74) #[] #[]]) (by kernel_rfl) aF ⟨Y1,trivial⟩ trivial trivial trivial Tryz.func73 (by kernel_rfl) (by kernel_rfl) rfl (by kernel_rfl) (by kernel_rfl) (by simp) λd hd=>by
  obtain⟨fs,⟨⟩⟩:=d;exact⟨agD fs,cast (by kernel_rfl) (adN fs hd)⟩)
def F6(vs:List VD) (ms cs:List ByteArray) (fs:List FD) (d:bW [kV,kC]):Int:=tY vs ms cs fs d.2.1 (((fs.getD d.1.1.toNat (⟨#[]⟩,[],())).2.1.length:Nat):Int)
def BO(vs:List VD) (ms cs:List ByteArray) (fs:List FD):Int×Int×Int:=match(dF fs).find? (λd=>decide (d.1.1=dw fs) || decide (F6 vs ms cs fs d≠0)) with
 | some d=>if d.1.1=dw fs then(4,dw fs,-1) else(F6 vs ms cs fs d,d.1.1,d.1.2.1)
 | none=>if 0<=dw fs then(4,dw fs,-1) else(0,-1,-1)
theorem Oe{d:bW [kV,kC]}{e:FD} (he:fs[d.1.1.toNat]?=some e):F6 vs ms cs fs d=tY vs ms cs fs d.2.1 (e.2.1.length:Int):=by
 unfold F6;rw[Gu,he];rfl
theorem tZ:∀(l:List FD) (n:Nat){d:bW [kV,kC]},d∈je n l->∃(k:Nat) (x:FD) (j:Nat) (e:ID),l[k]?=some x/\x.2.1[j]?=some e/\d=((((n+k:Nat):Int),(j:Int),()),e,())
 | [],n,d,h=>by simp[je]at h
 | x :: l,n,d,h=>by
   simp only[je,Cj]at h;rcases h with h | h
   .unfold nN at h;obtain⟨p,hp,rfl⟩:=QS.1 h;have:=List.mk_mem_zipIdx_iff_getElem?.1 (show(p.1,p.2)∈x.2.1.zipIdx from hp)
    exact⟨0,x,p.2,p.1,rfl,this,rfl⟩
   .obtain⟨k,y,j,e,h1,h2,rfl⟩:=tZ l (n+1) h;exact⟨k+1,y,j,e,by simpa using h1,h2,by rw[show n+1+k=n+(k+1) by omega]⟩
theorem I4{i:Nat}{d:bW [kV,kC]} (hd:(dF fs)[i]?=some d):0<=d.1.1/\d.1.1 < fs.length:=by
 obtain⟨k,x,j,e,h1,h2,rfl⟩:=tZ fs 0 (kT hd);have:=(eU.1 h1).1;show 0<=((0+k:Nat):Int)/\((0+k:Nat):Int) < _;omega
theorem Og{i:Nat}{d:bW [kV,kC]} (hd:(dF fs)[i]?=some d) (hb:d.1.1=dw fs\/F6 vs ms cs fs d≠0)
 (hn:∀j < i,∀d,(dF fs)[j]?=some d->d.1.1≠dw fs/\F6 vs ms cs fs d=0):BO vs ms cs fs=if d.1.1=dw fs then(4,dw fs,-1) else(F6 vs ms cs fs d,d.1.1,d.1.2.1):=by
 unfold BO;rw[vM hd (by simpa using hb) λj hj t ht=>by obtain⟨a,b⟩:=hn j hj t ht;simp[a,b]]
theorem KR(hn:∀(j:Nat) d,(dF fs)[j]?=some d->d.1.1≠dw fs/\F6 vs ms cs fs d=0):BO vs ms cs fs=if 0<=dw fs then(4,dw fs,-1) else(0,-1,-1):=by
 unfold BO;rw[Ob λj t ht=>by obtain⟨a,b⟩:=hn j t ht;simp[a,b]]
abbrev adO:CT:={ ps:=[qN],pre:=λd=>d.1.2.2.2.1.length<=1000000/\∀x∈d.1.2.2.2.1,x.2.1.length<=1000000,res:=λd=>([],.iQ [.c (.v (.int .i64 ((BO d.1.1 d.1.2.1 d.1.2.2.1 d.1.2.2.2.1).1))),.agg [.v (.int .i64 ((BO d.1.1 d.1.2.1 d.1.2.2.1 d.1.2.2.2.1).2.1)),.v (.int .i64 ((BO d.1.1 d.1.2.1 d.1.2.2.1 d.1.2.2.2.1).2.2))]]) }
abbrev agE(vs:List VD) (ms cs:List ByteArray) (fs:List FD) (ts:List SD):Nat->Option (St->mO):=λk=>match k with
 | 5=>some λ_=>.rng { α:=Nat,res:=λ_=>[],inv:=λi n=>n=i/\∀j < n,∀d,(dF fs)[j]?=some d->d.1.1≠dw fs/\F6 vs ms cs fs d=0 }
 | _=>none
abbrev aiv:List (Nat×Nat×CT):=[(73,74,F5)]
theorem adP(vs:List VD) (ms cs:List ByteArray) (fs:List FD) (ts:List SD) (aS:adO.pre ((vs,ms,cs,fs,ts,()),())):
 let z5:=[g0 (aC.blk 27 [SC.sl Ea vs,SC.sl Sh.str ms,SC.sl Sh.str cs,SC.sl BM fs,SC.sl kV ts]),g0 (aC.blk 31 [v6 0]),g0 (aC.blk 94 [v6 0,v6 0]),g0 (aC.blk 3 [v6 (dw fs)])];let z11:=BO vs ms cs fs;let z9:=[cI (z11.fst),SV.agg [v6 (z11.snd.fst),v6 (z11.snd.snd)]];let z10:=[cI 4,SV.agg [v6 (dw fs),v6 (-1)]];let z3:=((rT z9 z10)/\rT z9 z10)/\rT z9 z10;let z8:=rT z9 kq3;let z4:=λ(d:kV.den×bW [I6.pair (I6.pair (I6.pair (I6.pair (I6.pair (I6.pair kV)))))])=>(d.snd.fst.fst,d.snd.fst.snd.fst,d.snd.fst.snd.snd.fst,d.snd.fst.snd.snd.snd.fst,d.snd.fst.snd.snd.snd.snd.fst,d.snd.fst.snd.snd.snd.snd.snd.fst,d.snd.fst.snd.snd.snd.snd.snd.snd.fst,d.snd.fst.snd.snd.snd.snd.snd.snd.snd.fst,());let z6:=λ(d:kV.den×bW [I6.pair (I6.pair (I6.pair (I6.pair (I6.pair (I6.pair kV)))))])=>(d.snd.fst.snd.snd.snd.snd.fst,d.snd.fst.snd.snd.snd.snd.snd.fst,d.snd.fst.snd.snd.snd.snd.snd.snd.fst,d.snd.fst.snd.snd.snd.snd.snd.snd.snd.fst,());let z7:=λ(d:kV.den×bW [I6.pair (I6.pair (I6.pair (I6.pair (I6.pair (I6.pair kV)))))])=>(d.snd.fst.snd.snd.snd.snd.snd.fst,d.snd.fst.snd.snd.snd.snd.snd.snd.fst,d.snd.fst.snd.snd.snd.snd.snd.snd.snd.fst,());let z2:=λ(d:kV.den×bW [I6.pair (I6.pair (I6.pair (I6.pair (I6.pair (I6.pair kV)))))])=>nU (z4 d).fst (d.snd.fst.snd.fst,d.snd.fst.snd.snd.fst,d.snd.fst.snd.snd.snd.fst,d.snd.fst.snd.snd.snd.snd.fst,d.snd.fst.snd.snd.snd.snd.snd.fst,d.snd.fst.snd.snd.snd.snd.snd.snd.fst,d.snd.fst.snd.snd.snd.snd.snd.snd.snd.fst,()).fst (d.snd.fst.snd.snd.fst,d.snd.fst.snd.snd.snd.fst,d.snd.fst.snd.snd.snd.snd.fst,d.snd.fst.snd.snd.snd.snd.snd.fst,d.snd.fst.snd.snd.snd.snd.snd.snd.fst,d.snd.fst.snd.snd.snd.snd.snd.snd.snd.fst,()).fst (d.snd.fst.snd.snd.snd.fst,d.snd.fst.snd.snd.snd.snd.fst,d.snd.fst.snd.snd.snd.snd.snd.fst,d.snd.fst.snd.snd.snd.snd.snd.snd.fst,d.snd.fst.snd.snd.snd.snd.snd.snd.snd.fst,()).fst (z6 d).fst (z7 d).fst (d.snd.fst.snd.snd.snd.snd.snd.snd.fst,d.snd.fst.snd.snd.snd.snd.snd.snd.snd.fst,()).fst (d.snd.fst.snd.snd.snd.snd.snd.snd.snd.fst,()).fst;let z1:=λ(d:kV.den×bW [I6.pair (I6.pair (I6.pair (I6.pair (I6.pair (I6.pair kV)))))]) (iC:ByteArray×(kC.sl.pair Sh.unit).den)=>[cI (Wh vs ms cs fs (z2 d) (z4 d).fst (z6 d).fst (z7 d).fst ((List.length iC.snd.fst):Int)),SV.agg [v6 d.fst.fst,v6 d.fst.snd.fst]];fs.length<=1000000/\(fs.length<=1000000/\∀(x:ByteArray×(kC.sl.pair Sh.unit).den),x∈fs->List.length x.snd.fst<=1000000)/\some Tryz.prog=some Tryz.prog/\(∃x,(x=0/\∀(j:Nat),j < x->∀(d:kV.den×bW [I6.pair (I6.pair (I6.pair (I6.pair (I6.pair (I6.pair kV)))))]),(dF fs)[j]?=some d->d.fst.fst≠dw fs/\F6 vs ms cs fs d=0)/\sm z5)/\(∀(i x:Nat) (d:kV.den×bW [I6.pair (I6.pair (I6.pair (I6.pair (I6.pair (I6.pair kV)))))]),(x=i/\∀(j:Nat),j < x->∀(d:kV.den×bW [I6.pair (I6.pair (I6.pair (I6.pair (I6.pair (I6.pair kV)))))]),(dF fs)[j]?=some d->d.fst.fst≠dw fs/\F6 vs ms cs fs d=0)->(dF fs)[i]?=some d->br (decide (d.fst.fst=dw fs)) (br (decide (0<=dw fs)) z3 z8) ((0<=d.fst.fst/\d.fst.fst < (fs.length:Int))/\∀(iC:ByteArray×(kC.sl.pair Sh.unit).den),fs[Int.toNat d.fst.fst]?=some iC->True/\br (!decide (Wh vs ms cs fs (z2 d) (z4 d).fst (z6 d).fst (z7 d).fst ((List.length iC.snd.fst):Int)=(0:Int))) ((rT z9 (z1 d iC))/\rT z9 (z1 d iC)) (∃x',(x'=i+1/\∀(j:Nat),j < x'->∀(d:kV.den×bW [I6.pair (I6.pair (I6.pair (I6.pair (I6.pair (I6.pair kV)))))]),(dF fs)[j]?=some d->d.fst.fst≠dw fs/\F6 vs ms cs fs d=0)/\sm z5)))/\∀(x:Nat),(x=aJ (dF fs)/\∀(j:Nat),j < x->∀(d:kV.den×bW [I6.pair (I6.pair (I6.pair (I6.pair (I6.pair (I6.pair kV)))))]),(dF fs)[j]?=some d->d.fst.fst≠dw fs/\F6 vs ms cs fs d=0)->br (decide (0<=dw fs)) z3 z8:=by
 conv=>zeta
 delta kq3 v6 cI g0 rT sm I6;refine⟨aS.1,aS,rfl,⟨0,⟨rfl,λj hj=>by omega⟩,rfl⟩,λi x d hi hd=>?_,λx hx=>?_⟩
 .obtain⟨rfl,hi⟩:=hi;refine ak.2 ⟨λh=>?_,λh=>?_⟩
  .have h:d.1.1=dw fs:=by simpa using h
   obtain⟨hb1,hb2⟩:=I4 hd;have hl:(0:Int)<=dw fs:=by rw[<-h];exact hb1
   rw[Og hd (.inl h) hi,if_pos h];exact ak.2 ⟨λ_=>⟨⟨⟨rfl,rfl⟩,rfl,rfl⟩,rfl,rfl⟩,λhh=>absurd hl (QY hh)⟩
  .have h:¬d.1.1=dw fs:=by simpa using h
   obtain⟨hb1,hb2⟩:=I4 hd;refine⟨⟨hb1,hb2⟩,λe he=>⟨trivial,ak.2 ⟨λh2=>?_,λh2=>⟨x+1,⟨rfl,λj hj d' hd'=>?_⟩,rfl⟩⟩⟩⟩
   .have h2:F6 vs ms cs fs d≠0:=by rw[Oe he];simpa using h2
    rw[Og hd (.inr h2) hi,if_neg h,Oe he];exact⟨⟨rfl,rfl⟩,rfl,rfl⟩
   .by_cases hji:j=x
    .subst hji;rw[hd]at hd';cases hd';exact⟨h,by rw[Oe he];simpa using h2⟩
    .exact hi j (by omega) d' hd'
 .obtain⟨rfl,hx⟩:=hx;refine ak.2 ⟨λh=>?_,λh=>?_⟩
  .have h:(0:Int)<=dw fs:=by simpa using h
   rw[KR λj d hd=>hx j (by rw[aV];exact(eU.1 hd).1) d hd,if_pos h]
   exact⟨⟨⟨rfl,rfl⟩,rfl,rfl⟩,rfl,rfl⟩
  .have h:¬(0:Int)<=dw fs:=by simpa using h
   rw[KR λj d hd=>hx j (by rw[aV];exact(eU.1 hd).1) d hd,if_neg h]
   exact⟨rfl,rfl⟩
theorem Y2:bJ bM.gd 53 adO:=
 (zA (cx:=bM) (n:=39) (cl:=[(75,FY),(76,agw)]) (il:=ilN) (hl:=aiv) (ml:=mlN) (rc:=[]) (lits:=[]) (suf:=[]) (by kernel_rfl) aF ⟨YM,YW,trivial⟩ trivial ⟨U9,trivial⟩ trivial Tryz.func53 (by kernel_rfl) (by kernel_rfl) rfl (by kernel_rfl) (by kernel_rfl) (by simp) λd hd=>by
  obtain⟨⟨vs,ms,cs,fs,ts,⟨⟩⟩,⟨⟩⟩:=d;exact⟨agE vs ms cs fs ts,cast (by kernel_rfl) (adP vs ms cs fs ts hd)⟩).met
end Go.Proofs.YtaagmchgokmdgaaGreatDoor
