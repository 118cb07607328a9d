/- Part 6 of the proof. Conditions: the rows'. -/
import Derived.Test.YtjhenjhcbcalpaaGreatDoorB5
import Derived.Test.YtjhenjhcbcalpaaGreatDoorProg
import Derived.Shelf.Small.Bits
import Derived.Shelf.Strconv.Itoa0
import Derived.Shelf.Sort.Plain
import Derived.Shelf.Slices.Turned
import Derived.Shelf.Slices.Equal
import Derived.Ground.Names2Prog
import Derived.Shelf.Slices.Clone
import Derived.Shelf.Slices.CompactI
import Derived.Shelf.Slices.SearchI
import Derived.Shelf.Slices.Cells
import Derived.Shelf.Slices.In.SortNone
import Derived.Shelf.Slices.Empties2
import Derived.Ground.SlgnProg
import Derived.Shelf.SlicesE.Clone
set_option linter.unusedSimpArgs false
set_option linter.unusedVariables false
set_option maxRecDepth 1000000
set_option maxHeartbeats 8000000
namespace Go.Proofs.YtjhenjhcbcalpaaGreatDoor
open Go Go.l9
abbrev aU:=Go.l9.Met Tryz.prog
variable {l:List Int}
abbrev ti3:TI:={ desc:=.int .i64,size:=1,bytes:=8,zero:=[.int .i64 0],iO:=some (.int .i64) }
theorem ajw:aJ Tryz.prog 3 ti3:=aJ.of_eq (by kernel_rfl) (by kernel_rfl) rfl rfl (aH (i:=ti3) (s0:=(.int .i64)) rfl rfl rfl rfl)
abbrev ti4:TI:={ desc:=.bool,size:=1,bytes:=1,zero:=[.bool false],iO:=some .bool }
theorem ajx:aJ Tryz.prog 4 ti4:=aJ.of_eq (by kernel_rfl) (by kernel_rfl) rfl rfl (aH (i:=ti4) (s0:=.bool) rfl rfl rfl rfl)
abbrev ti5:TI:={ desc:=.int .u8,size:=1,bytes:=1,zero:=[.int .u8 0],iO:=some (.int .u8) }
theorem ajy:aJ Tryz.prog 5 ti5:=aJ.of_eq (by kernel_rfl) (by kernel_rfl) rfl rfl (aH (i:=ti5) (s0:=(.int .u8)) rfl rfl rfl rfl)
abbrev ti9:TI:={ desc:=.string,size:=1,bytes:=16,zero:=[.string ⟨#[]⟩],iO:=some .str }
theorem ajz:aJ Tryz.prog 9 ti9:=aJ.of_eq (by kernel_rfl) (by kernel_rfl) rfl rfl (aH (i:=ti9) (s0:=.str) rfl rfl rfl rfl)
abbrev ajA:TI:={ desc:=.int .i32,size:=1,bytes:=4,zero:=[.int .i32 0],iO:=some (.int .i32) }
theorem aem:aJ Tryz.prog 21 ajA:=aJ.of_eq (by kernel_rfl) (by kernel_rfl) rfl rfl (aH (i:=ajA) (s0:=(.int .i32)) rfl rfl rfl rfl)
abbrev ajB:TI:={ desc:=.slice 118,size:=1,bytes:=24,zero:=[.slice none 0 0],iO:=some (.sl (.pair .str (.pair (.int .i64) .unit))) }
theorem aen:aJ Tryz.prog 22 ajB:=aJ.of_eq (by kernel_rfl) (by kernel_rfl) rfl rfl (aH (i:=ajB) (s0:=(.sl (.pair .str (.pair (.int .i64) .unit)))) rfl rfl rfl rfl)
abbrev ajC:TI:={ desc:=.slice 9,size:=1,bytes:=24,zero:=[.slice none 0 0],iO:=some (.sl .str) }
theorem aeo:aJ Tryz.prog 23 ajC:=aJ.of_eq (by kernel_rfl) (by kernel_rfl) rfl rfl (aH (i:=ajC) (s0:=(.sl .str)) rfl rfl rfl rfl)
abbrev ajD:TI:={ desc:=.slice 77,size:=1,bytes:=24,zero:=[.slice none 0 0],iO:=some (.sl (.pair .str (.pair (.sl (.pair (.int .i64) (.pair (.int .i64) (.pair (.int .i64) (.pair (.int .i64) (.pair (.int .i64) (.pair (.int .i64) (.pair (.int .i64) (.pair (.int .i64) .unit))))))))) .unit))) }
theorem aep:aJ Tryz.prog 24 ajD:=aJ.of_eq (by kernel_rfl) (by kernel_rfl) rfl rfl (aH (i:=ajD) (s0:=(.sl (.pair .str (.pair (.sl (.pair (.int .i64) (.pair (.int .i64) (.pair (.int .i64) (.pair (.int .i64) (.pair (.int .i64) (.pair (.int .i64) (.pair (.int .i64) (.pair (.int .i64) .unit))))))))) .unit)))) rfl rfl rfl rfl)
abbrev ajE:TI:={ desc:=.slice 82,size:=1,bytes:=24,zero:=[.slice none 0 0],iO:=some (.sl (.pair (.int .i64) (.pair (.int .i64) .unit))) }
theorem aer:aJ Tryz.prog 25 ajE:=aJ.of_eq (by kernel_rfl) (by kernel_rfl) rfl rfl (aH (i:=ajE) (s0:=(.sl (.pair (.int .i64) (.pair (.int .i64) .unit)))) rfl rfl rfl rfl)
abbrev ajF:TI:={ desc:=.struct #[dR 22 0,dR 23 1,dR 23 2,dR 24 3,dR 25 4],size:=5,bytes:=120,zero:=[.slice none 0 0,.slice none 0 0,.slice none 0 0,.slice none 0 0,.slice none 0 0],iO:=some (.pair (.sl (.pair .str (.pair (.int .i64) .unit))) (.pair (.sl .str) (.pair (.sl .str) (.pair (.sl (.pair .str (.pair (.sl (.pair (.int .i64) (.pair (.int .i64) (.pair (.int .i64) (.pair (.int .i64) (.pair (.int .i64) (.pair (.int .i64) (.pair (.int .i64) (.pair (.int .i64) .unit))))))))) .unit))) (.pair (.sl (.pair (.int .i64) (.pair (.int .i64) .unit))) .unit))))) }
theorem aes:aJ Tryz.prog 26 ajF:=aJ.of_eq (by kernel_rfl) (by kernel_rfl) rfl rfl (aH (i:=ajF) (s0:=(.pair (.sl (.pair .str (.pair (.int .i64) .unit))) (.pair (.sl .str) (.pair (.sl .str) (.pair (.sl (.pair .str (.pair (.sl (.pair (.int .i64) (.pair (.int .i64) (.pair (.int .i64) (.pair (.int .i64) (.pair (.int .i64) (.pair (.int .i64) (.pair (.int .i64) (.pair (.int .i64) .unit))))))))) .unit))) (.pair (.sl (.pair (.int .i64) (.pair (.int .i64) .unit))) .unit)))))) rfl rfl rfl rfl)
abbrev ajG:TI:={ desc:=.struct #[dR 22 0,dR 23 1,dR 23 2,dR 24 3,dR 25 4],size:=5,bytes:=120,zero:=[.slice none 0 0,.slice none 0 0,.slice none 0 0,.slice none 0 0,.slice none 0 0],iO:=some (.pair (.sl (.pair .str (.pair (.int .i64) .unit))) (.pair (.sl .str) (.pair (.sl .str) (.pair (.sl (.pair .str (.pair (.sl (.pair (.int .i64) (.pair (.int .i64) (.pair (.int .i64) (.pair (.int .i64) (.pair (.int .i64) (.pair (.int .i64) (.pair (.int .i64) (.pair (.int .i64) .unit))))))))) .unit))) (.pair (.sl (.pair (.int .i64) (.pair (.int .i64) .unit))) .unit))))) }
theorem aeu:aJ Tryz.prog 27 ajG:=aJ.of_eq (by kernel_rfl) (by kernel_rfl) rfl rfl (aH (i:=ajG) (s0:=(.pair (.sl (.pair .str (.pair (.int .i64) .unit))) (.pair (.sl .str) (.pair (.sl .str) (.pair (.sl (.pair .str (.pair (.sl (.pair (.int .i64) (.pair (.int .i64) (.pair (.int .i64) (.pair (.int .i64) (.pair (.int .i64) (.pair (.int .i64) (.pair (.int .i64) (.pair (.int .i64) .unit))))))))) .unit))) (.pair (.sl (.pair (.int .i64) (.pair (.int .i64) .unit))) .unit)))))) rfl rfl rfl rfl)
abbrev ajH:TI:={ desc:=.slice 56,size:=1,bytes:=24,zero:=[.slice none 0 0],iO:=some (.sl (.pair (.int .i64) (.pair (.int .i64) (.pair (.int .i64) (.pair (.arr 8 (.int .i64)) (.pair (.int .i64) (.pair (.int .i64) (.pair (.int .i64) (.pair (.int .i64) (.pair (.int .i64) (.pair (.sl (.int .i64)) .unit))))))))))) }
theorem aev:aJ Tryz.prog 30 ajH:=aJ.of_eq (by kernel_rfl) (by kernel_rfl) rfl rfl (aH (i:=ajH) (s0:=(.sl (.pair (.int .i64) (.pair (.int .i64) (.pair (.int .i64) (.pair (.arr 8 (.int .i64)) (.pair (.int .i64) (.pair (.int .i64) (.pair (.int .i64) (.pair (.int .i64) (.pair (.int .i64) (.pair (.sl (.int .i64)) .unit)))))))))))) rfl rfl rfl rfl)
abbrev ajI:TI:={ desc:=.slice 3,size:=1,bytes:=24,zero:=[.slice none 0 0],iO:=some (.sl (.int .i64)) }
theorem aew:aJ Tryz.prog 31 ajI:=aJ.of_eq (by kernel_rfl) (by kernel_rfl) rfl rfl (aH (i:=ajI) (s0:=(.sl (.int .i64))) rfl rfl rfl rfl)
abbrev ajJ:TI:={ desc:=.slice 31,size:=1,bytes:=24,zero:=[.slice none 0 0],iO:=some (.sl (.sl (.int .i64))) }
theorem aex:aJ Tryz.prog 32 ajJ:=aJ.of_eq (by kernel_rfl) (by kernel_rfl) rfl rfl (aH (i:=ajJ) (s0:=(.sl (.sl (.int .i64)))) rfl rfl rfl rfl)
abbrev ajK:TI:={ desc:=.struct #[dR 31 0,dR 31 1,dR 32 2,dR 31 3],size:=4,bytes:=96,zero:=[.slice none 0 0,.slice none 0 0,.slice none 0 0,.slice none 0 0],iO:=some (.pair (.sl (.int .i64)) (.pair (.sl (.int .i64)) (.pair (.sl (.sl (.int .i64))) (.pair (.sl (.int .i64)) .unit)))) }
theorem aey:aJ Tryz.prog 33 ajK:=aJ.of_eq (by kernel_rfl) (by kernel_rfl) rfl rfl (aH (i:=ajK) (s0:=(.pair (.sl (.int .i64)) (.pair (.sl (.int .i64)) (.pair (.sl (.sl (.int .i64))) (.pair (.sl (.int .i64)) .unit))))) rfl rfl rfl rfl)
abbrev ajL:TI:={ desc:=.struct #[dR 31 0,dR 31 1,dR 32 2,dR 31 3],size:=4,bytes:=96,zero:=[.slice none 0 0,.slice none 0 0,.slice none 0 0,.slice none 0 0],iO:=some (.pair (.sl (.int .i64)) (.pair (.sl (.int .i64)) (.pair (.sl (.sl (.int .i64))) (.pair (.sl (.int .i64)) .unit)))) }
theorem aez:aJ Tryz.prog 34 ajL:=aJ.of_eq (by kernel_rfl) (by kernel_rfl) rfl rfl (aH (i:=ajL) (s0:=(.pair (.sl (.int .i64)) (.pair (.sl (.int .i64)) (.pair (.sl (.sl (.int .i64))) (.pair (.sl (.int .i64)) .unit))))) rfl rfl rfl rfl)
abbrev ajM:TI:={ desc:=.slice 65,size:=1,bytes:=24,zero:=[.slice none 0 0],iO:=some (.sl (.pair (.int .i64) (.pair (.int .i64) (.pair (.sl (.pair (.int .i64) (.pair (.int .i64) .unit))) .unit)))) }
theorem aeA:aJ Tryz.prog 35 ajM:=aJ.of_eq (by kernel_rfl) (by kernel_rfl) rfl rfl (aH (i:=ajM) (s0:=(.sl (.pair (.int .i64) (.pair (.int .i64) (.pair (.sl (.pair (.int .i64) (.pair (.int .i64) .unit))) .unit))))) rfl rfl rfl rfl)
abbrev ajN:TI:={ desc:=.struct #[dR 30 0,dR 34 1,dR 35 5],size:=6,bytes:=144,zero:=[.slice none 0 0,.slice none 0 0,.slice none 0 0,.slice none 0 0,.slice none 0 0,.slice none 0 0],iO:=some (.pair (.sl (.pair (.int .i64) (.pair (.int .i64) (.pair (.int .i64) (.pair (.arr 8 (.int .i64)) (.pair (.int .i64) (.pair (.int .i64) (.pair (.int .i64) (.pair (.int .i64) (.pair (.int .i64) (.pair (.sl (.int .i64)) .unit))))))))))) (.pair (.pair (.sl (.int .i64)) (.pair (.sl (.int .i64)) (.pair (.sl (.sl (.int .i64))) (.pair (.sl (.int .i64)) .unit)))) (.pair (.sl (.pair (.int .i64) (.pair (.int .i64) (.pair (.sl (.pair (.int .i64) (.pair (.int .i64) .unit))) .unit)))) .unit))) }
theorem aeB:aJ Tryz.prog 36 ajN:=aJ.of_eq (by kernel_rfl) (by kernel_rfl) rfl rfl (aH (i:=ajN) (s0:=(.pair (.sl (.pair (.int .i64) (.pair (.int .i64) (.pair (.int .i64) (.pair (.arr 8 (.int .i64)) (.pair (.int .i64) (.pair (.int .i64) (.pair (.int .i64) (.pair (.int .i64) (.pair (.int .i64) (.pair (.sl (.int .i64)) .unit))))))))))) (.pair (.pair (.sl (.int .i64)) (.pair (.sl (.int .i64)) (.pair (.sl (.sl (.int .i64))) (.pair (.sl (.int .i64)) .unit)))) (.pair (.sl (.pair (.int .i64) (.pair (.int .i64) (.pair (.sl (.pair (.int .i64) (.pair (.int .i64) .unit))) .unit)))) .unit)))) rfl rfl rfl rfl)
abbrev ajO:TI:={ desc:=.struct #[dR 30 0,dR 34 1,dR 35 5],size:=6,bytes:=144,zero:=[.slice none 0 0,.slice none 0 0,.slice none 0 0,.slice none 0 0,.slice none 0 0,.slice none 0 0],iO:=some (.pair (.sl (.pair (.int .i64) (.pair (.int .i64) (.pair (.int .i64) (.pair (.arr 8 (.int .i64)) (.pair (.int .i64) (.pair (.int .i64) (.pair (.int .i64) (.pair (.int .i64) (.pair (.int .i64) (.pair (.sl (.int .i64)) .unit))))))))))) (.pair (.pair (.sl (.int .i64)) (.pair (.sl (.int .i64)) (.pair (.sl (.sl (.int .i64))) (.pair (.sl (.int .i64)) .unit)))) (.pair (.sl (.pair (.int .i64) (.pair (.int .i64) (.pair (.sl (.pair (.int .i64) (.pair (.int .i64) .unit))) .unit)))) .unit))) }
theorem aeC:aJ Tryz.prog 37 ajO:=aJ.of_eq (by kernel_rfl) (by kernel_rfl) rfl rfl (aH (i:=ajO) (s0:=(.pair (.sl (.pair (.int .i64) (.pair (.int .i64) (.pair (.int .i64) (.pair (.arr 8 (.int .i64)) (.pair (.int .i64) (.pair (.int .i64) (.pair (.int .i64) (.pair (.int .i64) (.pair (.int .i64) (.pair (.sl (.int .i64)) .unit))))))))))) (.pair (.pair (.sl (.int .i64)) (.pair (.sl (.int .i64)) (.pair (.sl (.sl (.int .i64))) (.pair (.sl (.int .i64)) .unit)))) (.pair (.sl (.pair (.int .i64) (.pair (.int .i64) (.pair (.sl (.pair (.int .i64) (.pair (.int .i64) .unit))) .unit)))) .unit)))) rfl rfl rfl rfl)
abbrev ajP:TI:={ desc:=.int .i64,size:=1,bytes:=8,zero:=[.int .i64 0],iO:=some (.int .i64) }
theorem aeD:aJ Tryz.prog 38 ajP:=aJ.of_eq (by kernel_rfl) (by kernel_rfl) rfl rfl (aH (i:=ajP) (s0:=(.int .i64)) rfl rfl rfl rfl)
abbrev ajQ:TI:={ desc:=.struct #[dR 27 0,dR 3 5,dR 3 6,dR 37 7],size:=13,bytes:=280,zero:=[.slice none 0 0,.slice none 0 0,.slice none 0 0,.slice none 0 0,.slice none 0 0,.int .i64 0,.int .i64 0,.slice none 0 0,.slice none 0 0,.slice none 0 0,.slice none 0 0,.slice none 0 0,.slice none 0 0],iO:=some (.pair (.pair (.sl (.pair .str (.pair (.int .i64) .unit))) (.pair (.sl .str) (.pair (.sl .str) (.pair (.sl (.pair .str (.pair (.sl (.pair (.int .i64) (.pair (.int .i64) (.pair (.int .i64) (.pair (.int .i64) (.pair (.int .i64) (.pair (.int .i64) (.pair (.int .i64) (.pair (.int .i64) .unit))))))))) .unit))) (.pair (.sl (.pair (.int .i64) (.pair (.int .i64) .unit))) .unit))))) (.pair (.int .i64) (.pair (.int .i64) (.pair (.pair (.sl (.pair (.int .i64) (.pair (.int .i64) (.pair (.int .i64) (.pair (.arr 8 (.int .i64)) (.pair (.int .i64) (.pair (.int .i64) (.pair (.int .i64) (.pair (.int .i64) (.pair (.int .i64) (.pair (.sl (.int .i64)) .unit))))))))))) (.pair (.pair (.sl (.int .i64)) (.pair (.sl (.int .i64)) (.pair (.sl (.sl (.int .i64))) (.pair (.sl (.int .i64)) .unit)))) (.pair (.sl (.pair (.int .i64) (.pair (.int .i64) (.pair (.sl (.pair (.int .i64) (.pair (.int .i64) .unit))) .unit)))) .unit))) .unit)))) }
theorem aeE:aJ Tryz.prog 43 ajQ:=aJ.of_eq (by kernel_rfl) (by kernel_rfl) rfl rfl (aH (i:=ajQ) (s0:=(.pair (.pair (.sl (.pair .str (.pair (.int .i64) .unit))) (.pair (.sl .str) (.pair (.sl .str) (.pair (.sl (.pair .str (.pair (.sl (.pair (.int .i64) (.pair (.int .i64) (.pair (.int .i64) (.pair (.int .i64) (.pair (.int .i64) (.pair (.int .i64) (.pair (.int .i64) (.pair (.int .i64) .unit))))))))) .unit))) (.pair (.sl (.pair (.int .i64) (.pair (.int .i64) .unit))) .unit))))) (.pair (.int .i64) (.pair (.int .i64) (.pair (.pair (.sl (.pair (.int .i64) (.pair (.int .i64) (.pair (.int .i64) (.pair (.arr 8 (.int .i64)) (.pair (.int .i64) (.pair (.int .i64) (.pair (.int .i64) (.pair (.int .i64) (.pair (.int .i64) (.pair (.sl (.int .i64)) .unit))))))))))) (.pair (.pair (.sl (.int .i64)) (.pair (.sl (.int .i64)) (.pair (.sl (.sl (.int .i64))) (.pair (.sl (.int .i64)) .unit)))) (.pair (.sl (.pair (.int .i64) (.pair (.int .i64) (.pair (.sl (.pair (.int .i64) (.pair (.int .i64) .unit))) .unit)))) .unit))) .unit))))) rfl rfl rfl rfl)
abbrev ajR:TI:={ desc:=.struct #[dR 27 0,dR 3 5,dR 3 6,dR 37 7],size:=13,bytes:=280,zero:=[.slice none 0 0,.slice none 0 0,.slice none 0 0,.slice none 0 0,.slice none 0 0,.int .i64 0,.int .i64 0,.slice none 0 0,.slice none 0 0,.slice none 0 0,.slice none 0 0,.slice none 0 0,.slice none 0 0],iO:=some (.pair (.pair (.sl (.pair .str (.pair (.int .i64) .unit))) (.pair (.sl .str) (.pair (.sl .str) (.pair (.sl (.pair .str (.pair (.sl (.pair (.int .i64) (.pair (.int .i64) (.pair (.int .i64) (.pair (.int .i64) (.pair (.int .i64) (.pair (.int .i64) (.pair (.int .i64) (.pair (.int .i64) .unit))))))))) .unit))) (.pair (.sl (.pair (.int .i64) (.pair (.int .i64) .unit))) .unit))))) (.pair (.int .i64) (.pair (.int .i64) (.pair (.pair (.sl (.pair (.int .i64) (.pair (.int .i64) (.pair (.int .i64) (.pair (.arr 8 (.int .i64)) (.pair (.int .i64) (.pair (.int .i64) (.pair (.int .i64) (.pair (.int .i64) (.pair (.int .i64) (.pair (.sl (.int .i64)) .unit))))))))))) (.pair (.pair (.sl (.int .i64)) (.pair (.sl (.int .i64)) (.pair (.sl (.sl (.int .i64))) (.pair (.sl (.int .i64)) .unit)))) (.pair (.sl (.pair (.int .i64) (.pair (.int .i64) (.pair (.sl (.pair (.int .i64) (.pair (.int .i64) .unit))) .unit)))) .unit))) .unit)))) }
theorem aeF:aJ Tryz.prog 44 ajR:=aJ.of_eq (by kernel_rfl) (by kernel_rfl) rfl rfl (aH (i:=ajR) (s0:=(.pair (.pair (.sl (.pair .str (.pair (.int .i64) .unit))) (.pair (.sl .str) (.pair (.sl .str) (.pair (.sl (.pair .str (.pair (.sl (.pair (.int .i64) (.pair (.int .i64) (.pair (.int .i64) (.pair (.int .i64) (.pair (.int .i64) (.pair (.int .i64) (.pair (.int .i64) (.pair (.int .i64) .unit))))))))) .unit))) (.pair (.sl (.pair (.int .i64) (.pair (.int .i64) .unit))) .unit))))) (.pair (.int .i64) (.pair (.int .i64) (.pair (.pair (.sl (.pair (.int .i64) (.pair (.int .i64) (.pair (.int .i64) (.pair (.arr 8 (.int .i64)) (.pair (.int .i64) (.pair (.int .i64) (.pair (.int .i64) (.pair (.int .i64) (.pair (.int .i64) (.pair (.sl (.int .i64)) .unit))))))))))) (.pair (.pair (.sl (.int .i64)) (.pair (.sl (.int .i64)) (.pair (.sl (.sl (.int .i64))) (.pair (.sl (.int .i64)) .unit)))) (.pair (.sl (.pair (.int .i64) (.pair (.int .i64) (.pair (.sl (.pair (.int .i64) (.pair (.int .i64) .unit))) .unit)))) .unit))) .unit))))) rfl rfl rfl rfl)
abbrev ajS:TI:={ desc:=.int .i64,size:=1,bytes:=8,zero:=[.int .i64 0],iO:=some (.int .i64) }
theorem aeG:aJ Tryz.prog 46 ajS:=aJ.of_eq (by kernel_rfl) (by kernel_rfl) rfl rfl (aH (i:=ajS) (s0:=(.int .i64)) rfl rfl rfl rfl)
abbrev ajT:TI:={ desc:=.int .i64,size:=1,bytes:=8,zero:=[.int .i64 0],iO:=some (.int .i64) }
theorem aeH:aJ Tryz.prog 47 ajT:=aJ.of_eq (by kernel_rfl) (by kernel_rfl) rfl rfl (aH (i:=ajT) (s0:=(.int .i64)) rfl rfl rfl rfl)
abbrev ajU:TI:={ desc:=.struct #[dR 3 0,dR 3 1,dR 46 2,dR 3 3,dR 3 4,dR 3 5,dR 47 6,dR 3 7,dR 3 8],size:=9,bytes:=72,zero:=[.int .i64 0,.int .i64 0,.int .i64 0,.int .i64 0,.int .i64 0,.int .i64 0,.int .i64 0,.int .i64 0,.int .i64 0],iO:=some (.pair (.int .i64) (.pair (.int .i64) (.pair (.int .i64) (.pair (.int .i64) (.pair (.int .i64) (.pair (.int .i64) (.pair (.int .i64) (.pair (.int .i64) (.pair (.int .i64) .unit))))))))),Aj:=[.i,.i,.i,.i,.i,.i,.i,.i,.i] }
theorem aeI:aJ Tryz.prog 48 ajU:=aJ.of_eq (by kernel_rfl) (by kernel_rfl) rfl rfl (aH (i:=ajU) (s0:=(.pair (.int .i64) (.pair (.int .i64) (.pair (.int .i64) (.pair (.int .i64) (.pair (.int .i64) (.pair (.int .i64) (.pair (.int .i64) (.pair (.int .i64) (.pair (.int .i64) .unit)))))))))) rfl rfl rfl rfl) (λ_=>by kernel_rfl)
abbrev ajV:TI:={ desc:=.struct #[dR 3 0,dR 3 1,dR 46 2,dR 3 3,dR 3 4,dR 3 5,dR 47 6,dR 3 7,dR 3 8],size:=9,bytes:=72,zero:=[.int .i64 0,.int .i64 0,.int .i64 0,.int .i64 0,.int .i64 0,.int .i64 0,.int .i64 0,.int .i64 0,.int .i64 0],iO:=some (.pair (.int .i64) (.pair (.int .i64) (.pair (.int .i64) (.pair (.int .i64) (.pair (.int .i64) (.pair (.int .i64) (.pair (.int .i64) (.pair (.int .i64) (.pair (.int .i64) .unit))))))))),Aj:=[.i,.i,.i,.i,.i,.i,.i,.i,.i] }
theorem aeJ:aJ Tryz.prog 49 ajV:=aJ.of_eq (by kernel_rfl) (by kernel_rfl) rfl rfl (aH (i:=ajV) (s0:=(.pair (.int .i64) (.pair (.int .i64) (.pair (.int .i64) (.pair (.int .i64) (.pair (.int .i64) (.pair (.int .i64) (.pair (.int .i64) (.pair (.int .i64) (.pair (.int .i64) .unit)))))))))) rfl rfl rfl rfl) (λ_=>by kernel_rfl)
abbrev ajW:TI:={ desc:=.array 8 3,size:=8,bytes:=64,zero:=[.int .i64 0,.int .i64 0,.int .i64 0,.int .i64 0,.int .i64 0,.int .i64 0,.int .i64 0,.int .i64 0],iO:=some (.arr 8 (.int .i64)),Aj:=[.i] }
theorem aeK:aJ Tryz.prog 52 ajW:=aJ.of_eq (by kernel_rfl) (by kernel_rfl) rfl rfl (aH (i:=ajW) (s0:=(.arr 8 (.int .i64))) rfl rfl rfl rfl) (λ_=>by kernel_rfl)
abbrev ajX:TI:={ desc:=.int .i64,size:=1,bytes:=8,zero:=[.int .i64 0],iO:=some (.int .i64) }
theorem aeL:aJ Tryz.prog 53 ajX:=aJ.of_eq (by kernel_rfl) (by kernel_rfl) rfl rfl (aH (i:=ajX) (s0:=(.int .i64)) rfl rfl rfl rfl)
abbrev ajY:TI:={ desc:=.int .i64,size:=1,bytes:=8,zero:=[.int .i64 0],iO:=some (.int .i64) }
theorem aeM:aJ Tryz.prog 54 ajY:=aJ.of_eq (by kernel_rfl) (by kernel_rfl) rfl rfl (aH (i:=ajY) (s0:=(.int .i64)) rfl rfl rfl rfl)
abbrev ajZ:TI:={ desc:=.struct #[dR 3 0,dR 3 1,dR 3 2,dR 52 3,dR 3 11,dR 3 12,dR 53 13,dR 54 14,dR 38 15,dR 31 16],size:=17,bytes:=152,zero:=[.int .i64 0,.int .i64 0,.int .i64 0,.int .i64 0,.int .i64 0,.int .i64 0,.int .i64 0,.int .i64 0,.int .i64 0,.int .i64 0,.int .i64 0,.int .i64 0,.int .i64 0,.int .i64 0,.int .i64 0,.int .i64 0,.slice none 0 0],iO:=some (.pair (.int .i64) (.pair (.int .i64) (.pair (.int .i64) (.pair (.arr 8 (.int .i64)) (.pair (.int .i64) (.pair (.int .i64) (.pair (.int .i64) (.pair (.int .i64) (.pair (.int .i64) (.pair (.sl (.int .i64)) .unit)))))))))) }
theorem aeN:aJ Tryz.prog 55 ajZ:=aJ.of_eq (by kernel_rfl) (by kernel_rfl) rfl rfl (aH (i:=ajZ) (s0:=(.pair (.int .i64) (.pair (.int .i64) (.pair (.int .i64) (.pair (.arr 8 (.int .i64)) (.pair (.int .i64) (.pair (.int .i64) (.pair (.int .i64) (.pair (.int .i64) (.pair (.int .i64) (.pair (.sl (.int .i64)) .unit))))))))))) rfl rfl rfl rfl)
abbrev aj0:TI:={ desc:=.struct #[dR 3 0,dR 3 1,dR 3 2,dR 52 3,dR 3 11,dR 3 12,dR 53 13,dR 54 14,dR 38 15,dR 31 16],size:=17,bytes:=152,zero:=[.int .i64 0,.int .i64 0,.int .i64 0,.int .i64 0,.int .i64 0,.int .i64 0,.int .i64 0,.int .i64 0,.int .i64 0,.int .i64 0,.int .i64 0,.int .i64 0,.int .i64 0,.int .i64 0,.int .i64 0,.int .i64 0,.slice none 0 0],iO:=some (.pair (.int .i64) (.pair (.int .i64) (.pair (.int .i64) (.pair (.arr 8 (.int .i64)) (.pair (.int .i64) (.pair (.int .i64) (.pair (.int .i64) (.pair (.int .i64) (.pair (.int .i64) (.pair (.sl (.int .i64)) .unit)))))))))) }
theorem aeO:aJ Tryz.prog 56 aj0:=aJ.of_eq (by kernel_rfl) (by kernel_rfl) rfl rfl (aH (i:=aj0) (s0:=(.pair (.int .i64) (.pair (.int .i64) (.pair (.int .i64) (.pair (.arr 8 (.int .i64)) (.pair (.int .i64) (.pair (.int .i64) (.pair (.int .i64) (.pair (.int .i64) (.pair (.int .i64) (.pair (.sl (.int .i64)) .unit))))))))))) rfl rfl rfl rfl)
abbrev aj1:TI:={ desc:=.slice 67,size:=1,bytes:=24,zero:=[.slice none 0 0],iO:=some (.sl (.pair (.int .i64) (.pair (.int .i64) .unit))) }
theorem aeP:aJ Tryz.prog 63 aj1:=aJ.of_eq (by kernel_rfl) (by kernel_rfl) rfl rfl (aH (i:=aj1) (s0:=(.sl (.pair (.int .i64) (.pair (.int .i64) .unit)))) rfl rfl rfl rfl)
abbrev aj2:TI:={ desc:=.struct #[dR 3 0,dR 3 1,dR 63 2],size:=3,bytes:=40,zero:=[.int .i64 0,.int .i64 0,.slice none 0 0],iO:=some (.pair (.int .i64) (.pair (.int .i64) (.pair (.sl (.pair (.int .i64) (.pair (.int .i64) .unit))) .unit))) }
theorem aeQ:aJ Tryz.prog 64 aj2:=aJ.of_eq (by kernel_rfl) (by kernel_rfl) rfl rfl (aH (i:=aj2) (s0:=(.pair (.int .i64) (.pair (.int .i64) (.pair (.sl (.pair (.int .i64) (.pair (.int .i64) .unit))) .unit)))) rfl rfl rfl rfl)
abbrev aj3:TI:={ desc:=.struct #[dR 3 0,dR 3 1,dR 63 2],size:=3,bytes:=40,zero:=[.int .i64 0,.int .i64 0,.slice none 0 0],iO:=some (.pair (.int .i64) (.pair (.int .i64) (.pair (.sl (.pair (.int .i64) (.pair (.int .i64) .unit))) .unit))) }
theorem aeR:aJ Tryz.prog 65 aj3:=aJ.of_eq (by kernel_rfl) (by kernel_rfl) rfl rfl (aH (i:=aj3) (s0:=(.pair (.int .i64) (.pair (.int .i64) (.pair (.sl (.pair (.int .i64) (.pair (.int .i64) .unit))) .unit)))) rfl rfl rfl rfl)
abbrev aj6:TI:={ desc:=.struct #[dR 3 0,dR 3 1],size:=2,bytes:=16,zero:=[.int .i64 0,.int .i64 0],iO:=some (.pair (.int .i64) (.pair (.int .i64) .unit)),Aj:=[.i,.i] }
theorem aeS:aJ Tryz.prog 66 aj6:=aJ.of_eq (by kernel_rfl) (by kernel_rfl) rfl rfl (aH (i:=aj6) (s0:=(.pair (.int .i64) (.pair (.int .i64) .unit))) rfl rfl rfl rfl) (λ_=>by kernel_rfl)
abbrev aj7:TI:={ desc:=.struct #[dR 3 0,dR 3 1],size:=2,bytes:=16,zero:=[.int .i64 0,.int .i64 0],iO:=some (.pair (.int .i64) (.pair (.int .i64) .unit)),Aj:=[.i,.i] }
theorem aeT:aJ Tryz.prog 67 aj7:=aJ.of_eq (by kernel_rfl) (by kernel_rfl) rfl rfl (aH (i:=aj7) (s0:=(.pair (.int .i64) (.pair (.int .i64) .unit))) rfl rfl rfl rfl) (λ_=>by kernel_rfl)
abbrev aj8:TI:={ desc:=.slice 91,size:=1,bytes:=24,zero:=[.slice none 0 0],iO:=some (.sl (.pair (.int .i64) (.pair (.int .i64) (.pair (.int .i64) (.pair (.int .i64) (.pair (.int .i64) (.pair (.int .i64) (.pair (.int .i64) (.pair (.int .i64) .unit))))))))) }
theorem aeU:aJ Tryz.prog 75 aj8:=aJ.of_eq (by kernel_rfl) (by kernel_rfl) rfl rfl (aH (i:=aj8) (s0:=(.sl (.pair (.int .i64) (.pair (.int .i64) (.pair (.int .i64) (.pair (.int .i64) (.pair (.int .i64) (.pair (.int .i64) (.pair (.int .i64) (.pair (.int .i64) .unit)))))))))) rfl rfl rfl rfl)
abbrev aj9:TI:={ desc:=.struct #[dR 9 0,dR 75 1],size:=2,bytes:=40,zero:=[.string ⟨#[]⟩,.slice none 0 0],iO:=some (.pair .str (.pair (.sl (.pair (.int .i64) (.pair (.int .i64) (.pair (.int .i64) (.pair (.int .i64) (.pair (.int .i64) (.pair (.int .i64) (.pair (.int .i64) (.pair (.int .i64) .unit))))))))) .unit)) }
theorem aeV:aJ Tryz.prog 76 aj9:=aJ.of_eq (by kernel_rfl) (by kernel_rfl) rfl rfl (aH (i:=aj9) (s0:=(.pair .str (.pair (.sl (.pair (.int .i64) (.pair (.int .i64) (.pair (.int .i64) (.pair (.int .i64) (.pair (.int .i64) (.pair (.int .i64) (.pair (.int .i64) (.pair (.int .i64) .unit))))))))) .unit))) rfl rfl rfl rfl)
abbrev akb:TI:={ desc:=.struct #[dR 9 0,dR 75 1],size:=2,bytes:=40,zero:=[.string ⟨#[]⟩,.slice none 0 0],iO:=some (.pair .str (.pair (.sl (.pair (.int .i64) (.pair (.int .i64) (.pair (.int .i64) (.pair (.int .i64) (.pair (.int .i64) (.pair (.int .i64) (.pair (.int .i64) (.pair (.int .i64) .unit))))))))) .unit)) }
theorem aeW:aJ Tryz.prog 77 akb:=aJ.of_eq (by kernel_rfl) (by kernel_rfl) rfl rfl (aH (i:=akb) (s0:=(.pair .str (.pair (.sl (.pair (.int .i64) (.pair (.int .i64) (.pair (.int .i64) (.pair (.int .i64) (.pair (.int .i64) (.pair (.int .i64) (.pair (.int .i64) (.pair (.int .i64) .unit))))))))) .unit))) rfl rfl rfl rfl)
abbrev akc:TI:={ desc:=.struct #[dR 3 0,dR 3 1],size:=2,bytes:=16,zero:=[.int .i64 0,.int .i64 0],iO:=some (.pair (.int .i64) (.pair (.int .i64) .unit)),Aj:=[.i,.i] }
theorem aeX:aJ Tryz.prog 81 akc:=aJ.of_eq (by kernel_rfl) (by kernel_rfl) rfl rfl (aH (i:=akc) (s0:=(.pair (.int .i64) (.pair (.int .i64) .unit))) rfl rfl rfl rfl) (λ_=>by kernel_rfl)
abbrev akd:TI:={ desc:=.struct #[dR 3 0,dR 3 1],size:=2,bytes:=16,zero:=[.int .i64 0,.int .i64 0],iO:=some (.pair (.int .i64) (.pair (.int .i64) .unit)),Aj:=[.i,.i] }
theorem aeY:aJ Tryz.prog 82 akd:=aJ.of_eq (by kernel_rfl) (by kernel_rfl) rfl rfl (aH (i:=akd) (s0:=(.pair (.int .i64) (.pair (.int .i64) .unit))) rfl rfl rfl rfl) (λ_=>by kernel_rfl)
abbrev ake:TI:={ desc:=.int .i64,size:=1,bytes:=8,zero:=[.int .i64 0],iO:=some (.int .i64) }
theorem aeZ:aJ Tryz.prog 88 ake:=aJ.of_eq (by kernel_rfl) (by kernel_rfl) rfl rfl (aH (i:=ake) (s0:=(.int .i64)) rfl rfl rfl rfl)
abbrev akf:TI:={ desc:=.int .i64,size:=1,bytes:=8,zero:=[.int .i64 0],iO:=some (.int .i64) }
theorem ae0:aJ Tryz.prog 89 akf:=aJ.of_eq (by kernel_rfl) (by kernel_rfl) rfl rfl (aH (i:=akf) (s0:=(.int .i64)) rfl rfl rfl rfl)
abbrev akg:TI:={ desc:=.struct #[dR 88 0,dR 3 1,dR 3 2,dR 3 3,dR 3 4,dR 3 5,dR 89 6,dR 47 7],size:=8,bytes:=64,zero:=[.int .i64 0,.int .i64 0,.int .i64 0,.int .i64 0,.int .i64 0,.int .i64 0,.int .i64 0,.int .i64 0],iO:=some (.pair (.int .i64) (.pair (.int .i64) (.pair (.int .i64) (.pair (.int .i64) (.pair (.int .i64) (.pair (.int .i64) (.pair (.int .i64) (.pair (.int .i64) .unit)))))))),Aj:=[.i,.i,.i,.i,.i,.i,.i,.i] }
theorem ae1:aJ Tryz.prog 90 akg:=aJ.of_eq (by kernel_rfl) (by kernel_rfl) rfl rfl (aH (i:=akg) (s0:=(.pair (.int .i64) (.pair (.int .i64) (.pair (.int .i64) (.pair (.int .i64) (.pair (.int .i64) (.pair (.int .i64) (.pair (.int .i64) (.pair (.int .i64) .unit))))))))) rfl rfl rfl rfl) (λ_=>by kernel_rfl)
abbrev akh:TI:={ desc:=.struct #[dR 88 0,dR 3 1,dR 3 2,dR 3 3,dR 3 4,dR 3 5,dR 89 6,dR 47 7],size:=8,bytes:=64,zero:=[.int .i64 0,.int .i64 0,.int .i64 0,.int .i64 0,.int .i64 0,.int .i64 0,.int .i64 0,.int .i64 0],iO:=some (.pair (.int .i64) (.pair (.int .i64) (.pair (.int .i64) (.pair (.int .i64) (.pair (.int .i64) (.pair (.int .i64) (.pair (.int .i64) (.pair (.int .i64) .unit)))))))),Aj:=[.i,.i,.i,.i,.i,.i,.i,.i] }
theorem ae2:aJ Tryz.prog 91 akh:=aJ.of_eq (by kernel_rfl) (by kernel_rfl) rfl rfl (aH (i:=akh) (s0:=(.pair (.int .i64) (.pair (.int .i64) (.pair (.int .i64) (.pair (.int .i64) (.pair (.int .i64) (.pair (.int .i64) (.pair (.int .i64) (.pair (.int .i64) .unit))))))))) rfl rfl rfl rfl) (λ_=>by kernel_rfl)
abbrev Za:TI:={ desc:=.struct #[dR 9 0,dR 3 1],size:=2,bytes:=24,zero:=[.string ⟨#[]⟩,.int .i64 0],iO:=some (.pair .str (.pair (.int .i64) .unit)),Aj:=[.s,.i] }
theorem Zb:aJ Tryz.prog 117 Za:=aJ.of_eq (by kernel_rfl) (by kernel_rfl) rfl rfl (aH (i:=Za) (s0:=(.pair .str (.pair (.int .i64) .unit))) rfl rfl rfl rfl) (λ_=>by kernel_rfl)
abbrev Zc:TI:={ desc:=.struct #[dR 9 0,dR 3 1],size:=2,bytes:=24,zero:=[.string ⟨#[]⟩,.int .i64 0],iO:=some (.pair .str (.pair (.int .i64) .unit)),Aj:=[.s,.i] }
theorem Zd:aJ Tryz.prog 118 Zc:=aJ.of_eq (by kernel_rfl) (by kernel_rfl) rfl rfl (aH (i:=Zc) (s0:=(.pair .str (.pair (.int .i64) .unit))) rfl rfl rfl rfl) (λ_=>by kernel_rfl)
abbrev Ze:TI:={ desc:=.int .i64,size:=1,bytes:=8,zero:=[.int .i64 0],iO:=some (.int .i64) }
theorem Zf:aJ Tryz.prog 151 Ze:=aJ.of_eq (by kernel_rfl) (by kernel_rfl) rfl rfl (aH (i:=Ze) (s0:=(.int .i64)) rfl rfl rfl rfl)
abbrev Zg:TI:={ desc:=.struct #[dR 3 0,dR 4 1,dR 3 2,dR 3 3,dR 4 4,dR 3 5,dR 151 6,dR 4 7],size:=8,bytes:=64,zero:=[.int .i64 0,.bool false,.int .i64 0,.int .i64 0,.bool false,.int .i64 0,.int .i64 0,.bool false],iO:=some (.pair (.int .i64) (.pair .bool (.pair (.int .i64) (.pair (.int .i64) (.pair .bool (.pair (.int .i64) (.pair (.int .i64) (.pair .bool .unit)))))))),Aj:=[.i,.b,.i,.i,.b,.i,.i,.b] }
theorem Zh:aJ Tryz.prog 152 Zg:=aJ.of_eq (by kernel_rfl) (by kernel_rfl) rfl rfl (aH (i:=Zg) (s0:=(.pair (.int .i64) (.pair .bool (.pair (.int .i64) (.pair (.int .i64) (.pair .bool (.pair (.int .i64) (.pair (.int .i64) (.pair .bool .unit))))))))) rfl rfl rfl rfl) (λ_=>by kernel_rfl)
abbrev Zi:TI:={ desc:=.struct #[dR 3 0,dR 4 1,dR 3 2,dR 3 3,dR 4 4,dR 3 5,dR 151 6,dR 4 7],size:=8,bytes:=64,zero:=[.int .i64 0,.bool false,.int .i64 0,.int .i64 0,.bool false,.int .i64 0,.int .i64 0,.bool false],iO:=some (.pair (.int .i64) (.pair .bool (.pair (.int .i64) (.pair (.int .i64) (.pair .bool (.pair (.int .i64) (.pair (.int .i64) (.pair .bool .unit)))))))),Aj:=[.i,.b,.i,.i,.b,.i,.i,.b] }
theorem Zj:aJ Tryz.prog 153 Zi:=aJ.of_eq (by kernel_rfl) (by kernel_rfl) rfl rfl (aH (i:=Zi) (s0:=(.pair (.int .i64) (.pair .bool (.pair (.int .i64) (.pair (.int .i64) (.pair .bool (.pair (.int .i64) (.pair (.int .i64) (.pair .bool .unit))))))))) rfl rfl rfl rfl) (λ_=>by kernel_rfl)
abbrev Zk:TI:={ desc:=.array 17 153,size:=136,bytes:=1088,zero:=[.int .i64 0,.bool false,.int .i64 0,.int .i64 0,.bool false,.int .i64 0,.int .i64 0,.bool false,.int .i64 0,.bool false,.int .i64 0,.int .i64 0,.bool false,.int .i64 0,.int .i64 0,.bool false,.int .i64 0,.bool false,.int .i64 0,.int .i64 0,.bool false,.int .i64 0,.int .i64 0,.bool false,.int .i64 0,.bool false,.int .i64 0,.int .i64 0,.bool false,.int .i64 0,.int .i64 0,.bool false,.int .i64 0,.bool false,.int .i64 0,.int .i64 0,.bool false,.int .i64 0,.int .i64 0,.bool false,.int .i64 0,.bool false,.int .i64 0,.int .i64 0,.bool false,.int .i64 0,.int .i64 0,.bool false,.int .i64 0,.bool false,.int .i64 0,.int .i64 0,.bool false,.int .i64 0,.int .i64 0,.bool false,.int .i64 0,.bool false,.int .i64 0,.int .i64 0,.bool false,.int .i64 0,.int .i64 0,.bool false,.int .i64 0,.bool false,.int .i64 0,.int .i64 0,.bool false,.int .i64 0,.int .i64 0,.bool false,.int .i64 0,.bool false,.int .i64 0,.int .i64 0,.bool false,.int .i64 0,.int .i64 0,.bool false,.int .i64 0,.bool false,.int .i64 0,.int .i64 0,.bool false,.int .i64 0,.int .i64 0,.bool false,.int .i64 0,.bool false,.int .i64 0,.int .i64 0,.bool false,.int .i64 0,.int .i64 0,.bool false,.int .i64 0,.bool false,.int .i64 0,.int .i64 0,.bool false,.int .i64 0,.int .i64 0,.bool false,.int .i64 0,.bool false,.int .i64 0,.int .i64 0,.bool false,.int .i64 0,.int .i64 0,.bool false,.int .i64 0,.bool false,.int .i64 0,.int .i64 0,.bool false,.int .i64 0,.int .i64 0,.bool false,.int .i64 0,.bool false,.int .i64 0,.int .i64 0,.bool false,.int .i64 0,.int .i64 0,.bool false,.int .i64 0,.bool false,.int .i64 0,.int .i64 0,.bool false,.int .i64 0,.int .i64 0,.bool false],iO:=some (.arr 17 (.pair (.int .i64) (.pair .bool (.pair (.int .i64) (.pair (.int .i64) (.pair .bool (.pair (.int .i64) (.pair (.int .i64) (.pair .bool .unit))))))))) }
theorem Zl:aJ Tryz.prog 154 Zk:=aJ.of_eq (by kernel_rfl) (by kernel_rfl) rfl rfl (aH (i:=Zk) (s0:=(.arr 17 (.pair (.int .i64) (.pair .bool (.pair (.int .i64) (.pair (.int .i64) (.pair .bool (.pair (.int .i64) (.pair (.int .i64) (.pair .bool .unit)))))))))) rfl rfl rfl rfl)
abbrev Zm:TI:={ desc:=.slice 158,size:=1,bytes:=24,zero:=[.slice none 0 0],iO:=some (.sl (.pair (.int .i64) (.pair (.int .i64) (.pair (.int .i64) (.pair .bool .unit))))) }
theorem Zn:aJ Tryz.prog 155 Zm:=aJ.of_eq (by kernel_rfl) (by kernel_rfl) rfl rfl (aH (i:=Zm) (s0:=(.sl (.pair (.int .i64) (.pair (.int .i64) (.pair (.int .i64) (.pair .bool .unit)))))) rfl rfl rfl rfl)
abbrev Zo:TI:={ desc:=.struct #[dR 151 0,dR 3 1,dR 3 2,dR 4 3],size:=4,bytes:=32,zero:=[.int .i64 0,.int .i64 0,.int .i64 0,.bool false],iO:=some (.pair (.int .i64) (.pair (.int .i64) (.pair (.int .i64) (.pair .bool .unit)))),Aj:=[.i,.i,.i,.b] }
theorem Zp:aJ Tryz.prog 157 Zo:=aJ.of_eq (by kernel_rfl) (by kernel_rfl) rfl rfl (aH (i:=Zo) (s0:=(.pair (.int .i64) (.pair (.int .i64) (.pair (.int .i64) (.pair .bool .unit))))) rfl rfl rfl rfl) (λ_=>by kernel_rfl)
abbrev Zq:TI:={ desc:=.struct #[dR 151 0,dR 3 1,dR 3 2,dR 4 3],size:=4,bytes:=32,zero:=[.int .i64 0,.int .i64 0,.int .i64 0,.bool false],iO:=some (.pair (.int .i64) (.pair (.int .i64) (.pair (.int .i64) (.pair .bool .unit)))),Aj:=[.i,.i,.i,.b] }
theorem Zr:aJ Tryz.prog 158 Zq:=aJ.of_eq (by kernel_rfl) (by kernel_rfl) rfl rfl (aH (i:=Zq) (s0:=(.pair (.int .i64) (.pair (.int .i64) (.pair (.int .i64) (.pair .bool .unit))))) rfl rfl rfl rfl) (λ_=>by kernel_rfl)
abbrev Zt:TI:={ desc:=.slice 4,size:=1,bytes:=24,zero:=[.slice none 0 0],iO:=some (.sl .bool) }
theorem Zu:aJ Tryz.prog 159 Zt:=aJ.of_eq (by kernel_rfl) (by kernel_rfl) rfl rfl (aH (i:=Zt) (s0:=(.sl .bool)) rfl rfl rfl rfl)
abbrev Zv:TI:={ desc:=.struct #[dR 3 0,dR 3 1],size:=2,bytes:=16,zero:=[.int .i64 0,.int .i64 0],iO:=some (.pair (.int .i64) (.pair (.int .i64) .unit)),Aj:=[.i,.i] }
theorem Zw:aJ Tryz.prog 161 Zv:=aJ.of_eq (by kernel_rfl) (by kernel_rfl) rfl rfl (aH (i:=Zv) (s0:=(.pair (.int .i64) (.pair (.int .i64) .unit))) rfl rfl rfl rfl) (λ_=>by kernel_rfl)
abbrev Zx:TI:={ desc:=.struct #[dR 3 0,dR 3 1],size:=2,bytes:=16,zero:=[.int .i64 0,.int .i64 0],iO:=some (.pair (.int .i64) (.pair (.int .i64) .unit)),Aj:=[.i,.i] }
theorem Zy:aJ Tryz.prog 162 Zx:=aJ.of_eq (by kernel_rfl) (by kernel_rfl) rfl rfl (aH (i:=Zx) (s0:=(.pair (.int .i64) (.pair (.int .i64) .unit))) rfl rfl rfl rfl) (λ_=>by kernel_rfl)
abbrev Zz:TI:={ desc:=.int .u32,size:=1,bytes:=4,zero:=[.int .u32 0],iO:=some (.int .u32) }
theorem ZA:aJ Tryz.prog 167 Zz:=aJ.of_eq (by kernel_rfl) (by kernel_rfl) rfl rfl (aH (i:=Zz) (s0:=(.int .u32)) rfl rfl rfl rfl)
abbrev ZB:TI:={ desc:=.array 7 4,size:=7,bytes:=7,zero:=[.bool false,.bool false,.bool false,.bool false,.bool false,.bool false,.bool false],iO:=some (.arr 7 .bool) }
theorem ZC:aJ Tryz.prog 180 ZB:=aJ.of_eq (by kernel_rfl) (by kernel_rfl) rfl rfl (aH (i:=ZB) (s0:=(.arr 7 .bool)) rfl rfl rfl rfl)
abbrev ZE:TI:={ desc:=.struct #[dR 9 0,dR 180 1],size:=8,bytes:=24,zero:=[.string ⟨#[]⟩,.bool false,.bool false,.bool false,.bool false,.bool false,.bool false,.bool false],iO:=some (.pair .str (.pair (.arr 7 .bool) .unit)) }
theorem ZF:aJ Tryz.prog 181 ZE:=aJ.of_eq (by kernel_rfl) (by kernel_rfl) rfl rfl (aH (i:=ZE) (s0:=(.pair .str (.pair (.arr 7 .bool) .unit))) rfl rfl rfl rfl)
abbrev ZG:TI:={ desc:=.struct #[dR 9 0,dR 180 1],size:=8,bytes:=24,zero:=[.string ⟨#[]⟩,.bool false,.bool false,.bool false,.bool false,.bool false,.bool false,.bool false],iO:=some (.pair .str (.pair (.arr 7 .bool) .unit)) }
theorem ZH:aJ Tryz.prog 182 ZG:=aJ.of_eq (by kernel_rfl) (by kernel_rfl) rfl rfl (aH (i:=ZG) (s0:=(.pair .str (.pair (.arr 7 .bool) .unit))) rfl rfl rfl rfl)
abbrev ZI:TI:={ desc:=.array 22 182,size:=176,bytes:=528,zero:=[.string ⟨#[]⟩,.bool false,.bool false,.bool false,.bool false,.bool false,.bool false,.bool false,.string ⟨#[]⟩,.bool false,.bool false,.bool false,.bool false,.bool false,.bool false,.bool false,.string ⟨#[]⟩,.bool false,.bool false,.bool false,.bool false,.bool false,.bool false,.bool false,.string ⟨#[]⟩,.bool false,.bool false,.bool false,.bool false,.bool false,.bool false,.bool false,.string ⟨#[]⟩,.bool false,.bool false,.bool false,.bool false,.bool false,.bool false,.bool false,.string ⟨#[]⟩,.bool false,.bool false,.bool false,.bool false,.bool false,.bool false,.bool false,.string ⟨#[]⟩,.bool false,.bool false,.bool false,.bool false,.bool false,.bool false,.bool false,.string ⟨#[]⟩,.bool false,.bool false,.bool false,.bool false,.bool false,.bool false,.bool false,.string ⟨#[]⟩,.bool false,.bool false,.bool false,.bool false,.bool false,.bool false,.bool false,.string ⟨#[]⟩,.bool false,.bool false,.bool false,.bool false,.bool false,.bool false,.bool false,.string ⟨#[]⟩,.bool false,.bool false,.bool false,.bool false,.bool false,.bool false,.bool false,.string ⟨#[]⟩,.bool false,.bool false,.bool false,.bool false,.bool false,.bool false,.bool false,.string ⟨#[]⟩,.bool false,.bool false,.bool false,.bool false,.bool false,.bool false,.bool false,.string ⟨#[]⟩,.bool false,.bool false,.bool false,.bool false,.bool false,.bool false,.bool false,.string ⟨#[]⟩,.bool false,.bool false,.bool false,.bool false,.bool false,.bool false,.bool false,.string ⟨#[]⟩,.bool false,.bool false,.bool false,.bool false,.bool false,.bool false,.bool false,.string ⟨#[]⟩,.bool false,.bool false,.bool false,.bool false,.bool false,.bool false,.bool false,.string ⟨#[]⟩,.bool false,.bool false,.bool false,.bool false,.bool false,.bool false,.bool false,.string ⟨#[]⟩,.bool false,.bool false,.bool false,.bool false,.bool false,.bool false,.bool false,.string ⟨#[]⟩,.bool false,.bool false,.bool false,.bool false,.bool false,.bool false,.bool false,.string ⟨#[]⟩,.bool false,.bool false,.bool false,.bool false,.bool false,.bool false,.bool false,.string ⟨#[]⟩,.bool false,.bool false,.bool false,.bool false,.bool false,.bool false,.bool false],iO:=some (.arr 22 (.pair .str (.pair (.arr 7 .bool) .unit))) }
theorem ZJ:aJ Tryz.prog 183 ZI:=aJ.of_eq (by kernel_rfl) (by kernel_rfl) rfl rfl (aH (i:=ZI) (s0:=(.arr 22 (.pair .str (.pair (.arr 7 .bool) .unit)))) rfl rfl rfl rfl)
abbrev ZK:TI:={ desc:=.slice 23,size:=1,bytes:=24,zero:=[.slice none 0 0],iO:=some (.sl (.sl .str)) }
theorem ZL:aJ Tryz.prog 194 ZK:=aJ.of_eq (by kernel_rfl) (by kernel_rfl) rfl rfl (aH (i:=ZK) (s0:=(.sl (.sl .str))) rfl rfl rfl rfl)
abbrev ZM:TI:={ desc:=.array 4 3,size:=4,bytes:=32,zero:=[.int .i64 0,.int .i64 0,.int .i64 0,.int .i64 0],iO:=some (.arr 4 (.int .i64)),Aj:=[.i] }
theorem ZN:aJ Tryz.prog 203 ZM:=aJ.of_eq (by kernel_rfl) (by kernel_rfl) rfl rfl (aH (i:=ZM) (s0:=(.arr 4 (.int .i64))) rfl rfl rfl rfl) (λ_=>by kernel_rfl)
abbrev ZO:TI:={ desc:=.array 7 3,size:=7,bytes:=56,zero:=[.int .i64 0,.int .i64 0,.int .i64 0,.int .i64 0,.int .i64 0,.int .i64 0,.int .i64 0],iO:=some (.arr 7 (.int .i64)),Aj:=[.i] }
theorem ZP:aJ Tryz.prog 204 ZO:=aJ.of_eq (by kernel_rfl) (by kernel_rfl) rfl rfl (aH (i:=ZO) (s0:=(.arr 7 (.int .i64))) rfl rfl rfl rfl) (λ_=>by kernel_rfl)
abbrev ZQ:TI:={ desc:=.array 3 3,size:=3,bytes:=24,zero:=[.int .i64 0,.int .i64 0,.int .i64 0],iO:=some (.arr 3 (.int .i64)),Aj:=[.i] }
theorem ZR:aJ Tryz.prog 206 ZQ:=aJ.of_eq (by kernel_rfl) (by kernel_rfl) rfl rfl (aH (i:=ZQ) (s0:=(.arr 3 (.int .i64))) rfl rfl rfl rfl) (λ_=>by kernel_rfl)
abbrev ZT:TI:={ desc:=.array 10 9,size:=10,bytes:=160,zero:=[.string ⟨#[]⟩,.string ⟨#[]⟩,.string ⟨#[]⟩,.string ⟨#[]⟩,.string ⟨#[]⟩,.string ⟨#[]⟩,.string ⟨#[]⟩,.string ⟨#[]⟩,.string ⟨#[]⟩,.string ⟨#[]⟩],iO:=some (.arr 10 .str) }
theorem ZU:aJ Tryz.prog 214 ZT:=aJ.of_eq (by kernel_rfl) (by kernel_rfl) rfl rfl (aH (i:=ZT) (s0:=(.arr 10 .str)) rfl rfl rfl rfl)
abbrev ZV:TI:={ desc:=.int .u64,size:=1,bytes:=8,zero:=[.int .u64 0],iO:=some (.int .u64) }
theorem ZW:aJ Tryz.prog 217 ZV:=aJ.of_eq (by kernel_rfl) (by kernel_rfl) rfl rfl (aH (i:=ZV) (s0:=(.int .u64)) rfl rfl rfl rfl)
abbrev ZX:TI:={ desc:=.int .u64,size:=1,bytes:=8,zero:=[.int .u64 0],iO:=some (.int .u64) }
theorem ZY:aJ Tryz.prog 230 ZX:=aJ.of_eq (by kernel_rfl) (by kernel_rfl) rfl rfl (aH (i:=ZX) (s0:=(.int .u64)) rfl rfl rfl rfl)
abbrev tis:List (Nat×TI):=[(3,ti3),(4,ti4),(5,ti5),(9,ti9),(21,ajA),(22,ajB),(23,ajC),(24,ajD),(25,ajE),(26,ajF),(27,ajG),(30,ajH),(31,ajI),(32,ajJ),(33,ajK),(34,ajL),(35,ajM),(36,ajN),(37,ajO),(38,ajP),(43,ajQ),(44,ajR),(46,ajS),(47,ajT),(48,ajU),(49,ajV),(52,ajW),(53,ajX),(54,ajY),(55,ajZ),(56,aj0),(63,aj1),(64,aj2),(65,aj3),(66,aj6),(67,aj7),(75,aj8),(76,aj9),(77,akb),(81,akc),(82,akd),(88,ake),(89,akf),(90,akg),(91,akh),(117,Za),(118,Zc),(151,Ze),(152,Zg),(153,Zi),(154,Zk),(155,Zm),(157,Zo),(158,Zq),(159,Zt),(161,Zv),(162,Zx),(167,Zz),(180,ZB),(181,ZE),(182,ZG),(183,ZI),(194,ZK),(203,ZM),(204,ZO),(206,ZQ),(214,ZT),(217,ZV),(230,ZX)]
theorem au:bV Tryz.prog tis:=⟨ajw,ajx,ajy,ajz,aem,aen,aeo,aep,aer,aes,aeu,aev,aew,aex,aey,aez,aeA,aeB,aeC,aeD,aeE,aeF,aeG,aeH,aeI,aeJ,aeK,aeL,aeM,aeN,aeO,aeP,aeQ,aeR,aeS,aeT,aeU,aeV,aeW,aeX,aeY,aeZ,ae0,ae1,ae2,Zb,Zd,Zf,Zh,Zj,Zl,Zn,Zp,Zr,Zu,Zw,Zy,ZA,ZC,ZF,ZH,ZJ,ZL,ZN,ZP,ZR,ZU,ZW,ZY,trivial⟩
abbrev I6:Sh:=.int .i64
abbrev iR(n:Int):Prop:=WS IntKind.i64 n
abbrev iN:SC:=SC.v (Value.slice none 0 0)
abbrev v6(n:Int):SC:=.v (.int .i64 n)
abbrev cI(n:Int):SV:=.c (.v (.int .i64 n))
abbrev cB(b:Bool):SV:=.c (.v (.bool b))
abbrev g0(r:ak):Go.l9.Gd×ak:=([],r)
abbrev rE(a b:bg):Prop:=([]:List ak)=[]/\a=b
abbrev rT(a b:List SV):Prop:=([]:List ak)=[]/\bg.iJ a=bg.iJ b
abbrev qI(a b:Int):Prop:=([]:List ak)=[]/\bg.one (.c (.v (.int .i64 a)))=bg.one (.c (.v (.int .i64 b)))
abbrev qB(a b:Bool):Prop:=([]:List ak)=[]/\bg.one (.c (.v (.bool a)))=bg.one (.c (.v (.bool b)))
abbrev sm{α:Type} (a:α):Prop:=a=a
def aki:List (List Bool):=[[true,false,false,false,true,false,false],[true,true,false,false,false,false,false],[true,true,true,false,false,true,false],[false,false,false,false,true,false,false],[false,true,false,false,true,false,false],[false,true,false,false,false,false,false],[false,false,false,false,false,false,false],[true,false,false,true,false,false,true],[false,true,false,true,false,false,true],[true,true,false,true,false,false,true],[true,true,false,true,false,false,true],[true,true,true,true,false,false,true],[false,false,false,false,false,false,false],[true,true,false,true,false,true,true],[false,false,false,true,false,false,false],[false,false,false,true,false,false,false],[true,false,false,true,false,false,false],[false,false,false,true,true,false,false],[false,false,false,true,false,false,false],[false,false,false,true,false,false,false],[true,true,false,true,false,false,false],[false,true,false,false,false,false,false]]
def fieldsD:List ByteArray:=[⟨#[65,78]⟩,⟨#[65,66]⟩,⟨#[70,65,66,67]⟩,⟨#[78]⟩,⟨#[66,78]⟩,⟨#[66]⟩,⟨#[]⟩,⟨#[65,79,82]⟩,⟨#[79,66,82]⟩,⟨#[65,79,66,82]⟩,⟨#[65,79,66,82]⟩,⟨#[65,79,66,67,82]⟩,⟨#[]⟩,⟨#[65,79,70,66,82]⟩,⟨#[79]⟩,⟨#[79]⟩,⟨#[65,79]⟩,⟨#[79,78]⟩,⟨#[79]⟩,⟨#[79]⟩,⟨#[65,79,66]⟩,⟨#[66]⟩]
def Ku:List ByteArray:=[⟨#[97,100,100]⟩,⟨#[115,117,98]⟩,⟨#[109,117,108]⟩,⟨#[97,110,100]⟩,⟨#[111,114]⟩,⟨#[120,111,114]⟩,⟨#[101,113]⟩,⟨#[110,101]⟩,⟨#[108,116]⟩,⟨#[108,101]⟩]
def Nz:List (ByteArray×List Bool×Unit):=[(⟨#[99,111,110,115,116]⟩,[true,false,false,false,true,false,false],()),(⟨#[99,111,112,121]⟩,[true,true,false,false,false,false,false],()),(⟨#[99,97,108,99]⟩,[true,true,true,false,false,true,false],()),(⟨#[106,117,109,112]⟩,[false,false,false,false,true,false,false],()),(⟨#[98,114,97,110,99,104]⟩,[false,true,false,false,true,false,false],()),(⟨#[97,115,115,101,114,116]⟩,[false,true,false,false,false,false,false],()),(⟨#[115,116,111,112]⟩,[false,false,false,false,false,false,false],()),(⟨#[108,111,97,100]⟩,[true,false,false,true,false,false,true],()),(⟨#[115,116,111,114,101]⟩,[false,true,false,true,false,false,true],()),(⟨#[115,119,97,112]⟩,[true,true,false,true,false,false,true],()),(⟨#[102,101,116,99,104,97,100,100]⟩,[true,true,false,true,false,false,true],()),(⟨#[99,97,115]⟩,[true,true,true,true,false,false,true],()),(⟨#[102,101,110,99,101]⟩,[false,false,false,false,false,false,false],()),(⟨#[97,119,97,105,116]⟩,[true,true,false,true,false,true,true],()),(⟨#[108,111,99,107]⟩,[false,false,false,true,false,false,false],()),(⟨#[117,110,108,111,99,107]⟩,[false,false,false,true,false,false,false],()),(⟨#[116,114,121,108,111,99,107]⟩,[true,false,false,true,false,false,false],()),(⟨#[119,97,105,116]⟩,[false,false,false,true,true,false,false],()),(⟨#[115,105,103,110,97,108]⟩,[false,false,false,true,false,false,false],()),(⟨#[98,114,111,97,100,99,97,115,116]⟩,[false,false,false,true,false,false,false],()),(⟨#[115,112,97,119,110]⟩,[true,true,false,true,false,false,false],()),(⟨#[106,111,105,110]⟩,[false,true,false,false,false,false,false],())]
abbrev gd0:Nat->Option (Sigma Sh.den):=λg=>match g with
 | 1=>some ⟨.arr 22 (.pair .str (.pair (.arr 7 .bool) .unit)),Nz⟩
 | 2=>some ⟨.arr 10 .str,Ku⟩
 | _=>none
abbrev aS:Cx:={ ti:=tis,gd:=gd0 }
abbrev lY:Sh:=.pair (.int .i64) (.pair (.int .i64) (.pair (.int .i64) (.pair (.int .i64) (.pair (.int .i64) (.pair (.int .i64) (.pair (.int .i64) (.pair (.int .i64) .unit)))))))
def use(op:Int) (k:Nat):Bool:=decide (1<=op) && decide (op<=22) && (aki.getD (op - 1).toNat []).getD k false
def sJ(op:Int):Bool:=decide (1<=op) && decide (op<=22)
def wW(f:Int):ByteArray:=if 1<=f/\f<=10 then Ku.getD (f - 1).toNat ByteArray.empty else ByteArray.empty
abbrev anP:CT:={ ps:=[],pre:=λd=>True,res:=λd=>([.row 9 .str fieldsD],.one (.c (.row 0))) }
abbrev akj  : Nat->Option (St->jK):=λ_=>none
abbrev IE:=SV.c (SC.row (0:Nat))
theorem ae3 :
 [ak.row (9:TypeId) Sh.str fieldsD]=[ak.row (9:TypeId) Sh.str [{ data:=#[(65:UInt8),78]:ByteArray },{ data:=#[(65:UInt8),66]:ByteArray },{ data:=#[(70:UInt8),65,66,67]:ByteArray },{ data:=#[(78:UInt8)]:ByteArray },{ data:=#[(66:UInt8),78]:ByteArray },{ data:=#[(66:UInt8)]:ByteArray },{ data:=#[]:ByteArray },{ data:=#[(65:UInt8),79,82]:ByteArray },{ data:=#[(79:UInt8),66,82]:ByteArray },{ data:=#[(65:UInt8),79,66,82]:ByteArray },{ data:=#[(65:UInt8),79,66,82]:ByteArray },{ data:=#[(65:UInt8),79,66,67,82]:ByteArray },{ data:=#[]:ByteArray },{ data:=#[(65:UInt8),79,70,66,82]:ByteArray },{ data:=#[(79:UInt8)]:ByteArray },{ data:=#[(79:UInt8)]:ByteArray },{ data:=#[(65:UInt8),79]:ByteArray },{ data:=#[(79:UInt8),78]:ByteArray },{ data:=#[(79:UInt8)]:ByteArray },{ data:=#[(79:UInt8)]:ByteArray },{ data:=#[(65:UInt8),79,66]:ByteArray },{ data:=#[(66:UInt8)]:ByteArray }]]/\bg.one IE=bg.one IE:=by
 delta IE;exact⟨rfl,rfl⟩
theorem Z4:aU aS.gd 206 anP:=
 jW (cx:=aS) (n:=2) (cl:=[]) au trivial Tryz.func206 λd hd=>by
  obtain⟨⟩:=d;exact⟨akj ,cast (by kernel_rfl) (ae3 )⟩
abbrev anQ:CT:={ ps:=[.int .i64],pre:=λd=>True,res:=λd=>([],vB (sJ d.1)) }
theorem ae4(op:Int):
 qB (sJ op) (decide (1<=op) && decide (op<=22)):=by
 delta qB;exact⟨rfl,rfl⟩
theorem Z5:aU aS.gd 197 anQ:=
 jW (cx:=aS) (n:=9) (cl:=[]) au trivial Tryz.func197 λd hd=>by
  obtain⟨op,⟨⟩⟩:=d;exact⟨λ_=>none,cast (by kernel_rfl) (ae4 op)⟩
abbrev anR:CT:={ ps:=[.int .i64],pre:=λd=>True,res:=λd=>([],vB (decide (0<=d.1) && decide (d.1 < 8))) }
theorem ae5(r:Int):
 let z1:=decide (0<=r) && decide (r < 8);qB z1 z1:=by
 conv=>zeta
 delta qB;exact⟨rfl,rfl⟩
theorem Z7:aU aS.gd 204 anR:=
 jW (cx:=aS) (n:=9) (cl:=[]) au trivial Tryz.func204 λd hd=>by
  obtain⟨r,⟨⟩⟩:=d;exact⟨λ_=>none,cast (by kernel_rfl) (ae5 r)⟩
abbrev anS:CT:={ ps:=[lY],pre:=λd=>True,res:=λd=>([],.one (.dat (.arr 7 (.int .i64)) [d.1.2.1,d.1.2.2.1,d.1.2.2.2.1,d.1.2.2.2.2.1,d.1.2.2.2.2.2.1,d.1.2.2.2.2.2.2.1,d.1.2.2.2.2.2.2.2.1])) }
theorem ae6(op a b c obj n fn ord:Int):
 let z1:=[a,b,c,obj,n,fn,ord];rE (bg.one (SV.dat (Sh.arr 7 I6) z1)) (bg.one (SV.dat (Sh.arr 7 I6) z1)):=by
 conv=>zeta
 delta rE I6;exact⟨rfl,rfl⟩
theorem Z8:aU aS.gd 198 anS:=
 jW (cx:=aS) (n:=18) (cl:=[]) au trivial Tryz.func198 λd hd=>by
  obtain⟨⟨op,a,b,c,obj,n,fn,ord,⟨⟩⟩,⟨⟩⟩:=d;exact⟨λ_=>none,cast (by kernel_rfl) (ae6 op a b c obj n fn ord)⟩
abbrev anT:CT:={ ps:=[.int .i64],pre:=λd=>True,res:=λd=>([],.one (.c (.v (.string (wW d.1))))) }
theorem ae7(f:Int):
 let z1:=bg.one (SV.c (SC.v (Value.string (wW f))));br (decide (f < 1) || decide (10 < f)) (rE z1 (bg.one (SV.c (SC.v (Value.string { data:=#[]:ByteArray }))))) (iR (f - 1)/\(0<=f - 1/\f - 1 < (10:Int))/\∀(d:ByteArray),Ku[(f - 1).toNat]?=some d->rE z1 (bg.one (SV.c (SC.v (Value.string d))))):=by
 conv=>zeta
 delta rE iR;refine ah.2 ⟨λh=>?_,λh=>?_⟩
 .simp only[xk,dN]at h;rw[show wW f=ByteArray.empty from if_neg (by omega)]
  exact⟨rfl,rfl⟩
 .simp only[l7,eH]at h;refine⟨ay.2 (by omega),by omega,λd hd=>⟨rfl,?_⟩⟩
  rw[show wW f=Ku.getD (f - 1).toNat ByteArray.empty from if_pos (by omega),List.getD,hd];rfl
theorem Z9:aU aS.gd 199 anT:=
 jW (cx:=aS) (n:=13) (cl:=[]) au trivial Tryz.func199 λd hd=>by
  obtain⟨f,⟨⟩⟩:=d;exact⟨λ_=>none,cast (by kernel_rfl) (ae7 f)⟩
abbrev anU:CT:={ ps:=[.int .i64],pre:=λd=>True,res:=λd=>([],.one (.c (.v (.string (wW d.1))))) }
theorem ae8(f:Int):
 let z1:=bg.one (SV.c (SC.v (Value.string (wW f))));br (decide (f=1)) (rE z1 (bg.one (SV.c (SC.v (Value.string { data:=#[(97:UInt8),100,100]:ByteArray }))))) (br (decide (f=2)) (rE z1 (bg.one (SV.c (SC.v (Value.string { data:=#[(115:UInt8),117,98]:ByteArray }))))) (br (decide (f=3)) (rE z1 (bg.one (SV.c (SC.v (Value.string { data:=#[(109:UInt8),117,108]:ByteArray }))))) (br (decide (f=4)) (rE z1 (bg.one (SV.c (SC.v (Value.string { data:=#[(97:UInt8),110,100]:ByteArray }))))) (br (decide (f=5)) (rE z1 (bg.one (SV.c (SC.v (Value.string { data:=#[(111:UInt8),114]:ByteArray }))))) (br (decide (f=6)) (rE z1 (bg.one (SV.c (SC.v (Value.string { data:=#[(120:UInt8),111,114]:ByteArray }))))) (br (decide (f=7)) (rE z1 (bg.one (SV.c (SC.v (Value.string { data:=#[(101:UInt8),113]:ByteArray }))))) (br (decide (f=8)) (rE z1 (bg.one (SV.c (SC.v (Value.string { data:=#[(110:UInt8),101]:ByteArray }))))) (br (decide (f=9)) (rE z1 (bg.one (SV.c (SC.v (Value.string { data:=#[(108:UInt8),116]:ByteArray }))))) (br (decide (f=10)) (rE z1 (bg.one (SV.c (SC.v (Value.string { data:=#[(108:UInt8),101]:ByteArray }))))) (rE z1 (bg.one (SV.c (SC.v (Value.string { data:=#[]:ByteArray })))))))))))))):=by
 conv=>zeta
 delta rE
 by_cases h:1<=f/\f<=10
 .have:f=1\/f=2\/f=3\/f=4\/f=5\/f=6\/f=7\/f=8\/f=9\/f=10:=by omega
  rcases this with rfl | rfl | rfl | rfl | rfl | rfl | rfl | rfl | rfl | rfl<;>exact⟨rfl,rfl⟩
 .have e:wW f=ByteArray.empty:=if_neg h;rw[e];rw[show decide (f=1)=false from Aw (by omega)]
  rw[show decide (f=2)=false from Aw (by omega)]
  rw[show decide (f=3)=false from Aw (by omega)]
  rw[show decide (f=4)=false from Aw (by omega)]
  rw[show decide (f=5)=false from Aw (by omega)]
  rw[show decide (f=6)=false from Aw (by omega)]
  rw[show decide (f=7)=false from Aw (by omega)]
  rw[show decide (f=8)=false from Aw (by omega)]
  rw[show decide (f=9)=false from Aw (by omega)]
  rw[show decide (f=10)=false from Aw (by omega)]
  exact⟨rfl,rfl⟩
theorem aac:aU aS.gd 205 anU:=
 jW (cx:=aS) (n:=24) (cl:=[]) au trivial Tryz.func205 λd hd=>by
  obtain⟨f,⟨⟩⟩:=d;exact⟨λ_=>none,cast (by kernel_rfl) (ae8 f)⟩
def gV(op c:Int):Bool:=decide (1<=op) && decide (op<=22) && ((fieldsD.getD (op - 1).toNat ByteArray.empty).data.toList.any λb=>decide ((b.toNat:Int)=c))
abbrev anV:CT:={ ps:=[.int .i64,.int .u8],pre:=λd=>True,res:=λd=>([],vB (gV d.1 d.2.1)) }
abbrev akk(op c:Int):Nat->Option (St->jK):=λk=>match k with
 | 5=>some λs=>.inv { α:=Nat,slots:=λk=>[(6,.c (.v (.int .i64 k)))],res:=λ_=>[],inv:=λk=>k<=(YL s 5).size/\∀j,j < k->∀b,(YL s 5)[j]?=some b->¬((b.toNat:Int)=c),meas:=λk=>(YL s 5).size - k }
 | _=>none
theorem ae9(op c:Int):
 let z1:=λ(x:Nat) (d:ByteArray)=>(x<=d.size/\∀(j:Nat),j < x->∀(b:UInt8),d[j]?=some b->¬(b.toNat:Int)=c);let z2:=[g0 (ak.row 9 Sh.str fieldsD)];br (decide (op < 1) || decide (22 < op)) (qB (gV op c) false) (True/\iR (op - 1)/\(0<=op - 1/\op - 1 < (22:Int))/\(op - 1).toNat < 22/\∀(d:ByteArray),fieldsD[(op - 1).toNat]?=some d->(∃x,(z1 x d)/\(cI 0=cI (x:Int)/\True)/\sm z2)/\∀(x:Nat),(z1 x d)->br (decide ((x:Int) < (d.size:Int))) ((0<=(x:Int)/\(x:Int) < (d.size:Int))/\∀(u:UInt8),d[(x:Int).toNat]?=some u->br (decide ((u.toNat:Int)=c)) (qB (gV op c) true) (iR ((x:Int)+(1:Int))/\∃x',(z1 x' d)/\(cI ((x:Int)+(1:Int))=cI (x':Int)/\True)/\sm z2/\d.size - x' < d.size - x)) (qB (gV op c) false)):=by
 conv=>zeta
 delta cI g0 qB sm iR;refine ah.2 ⟨λh=>?_,λh=>?_⟩
 .simp only[xk,dN]at h;have:gV op c=false:=by
   unfold gV
   by_cases h1:1<=op<;>by_cases h2:op<=22<;>simp[h1,h2]
   omega
  rw[this];exact⟨rfl,rfl⟩
 .simp only[l7,eH]at h;refine⟨trivial,ay.2 (by omega),by omega,by omega,λd hd=>⟨⟨0,⟨by omega,λj hj=>by omega⟩,⟨rfl,trivial⟩,rfl⟩,λx hx=>?_⟩⟩
  have e:gV op c=d.data.toList.any λb=>decide ((b.toNat:Int)=c):=by
   unfold gV;rw[List.getD,hd];simp[show 1<=op by omega,show op<=22 by omega]
  have hs:d.size<=9:=(show∀d∈fieldsD,d.size<=9 by decide) d (gZ hd)
  have get:∀j:Nat,d[j]?=d.data.toList[j]?:=aju d;refine ah.2 ⟨λgX=>⟨by simp only[dN]at gX;omega,λu hu=>ah.2 ⟨λhc=>?_,λhc=>?_⟩⟩,λhge=>?_⟩
  .simp only[dN]at hc;have hm:u∈d.data.toList:=gZ (i:=x) (by rw[<-get];simpa using hu)
   rw[e,Ls.2 ⟨u,hm,by simpa using hc⟩]
   exact⟨rfl,rfl⟩
  .simp only[eH]at hc;simp only[dN]at gX;refine⟨ay.2 (by omega),x+1,⟨by omega,λj hj b hb=>?_⟩,⟨by simp,trivial⟩,rfl,by omega⟩
   by_cases hjx:j=x
   .subst hjx;have:some u=some b:=by rw[<-hu,<-hb];simp
    cases this;exact hc
   .exact hx.2 j (by omega) b hb
  .simp only[eH]at hge;have:gV op c=false:=by
    rw[e,Xh];intro b hb;obtain⟨j,hj⟩:=Ai hb;have hj':j < d.data.toList.length:=(A8.1 hj).1;have hsz:d.data.toList.length=d.size:=by cases d;simp[ByteArray.size]
    simpa using hx.2 j (by omega) b (by rw[get];exact hj)
   rw[this];exact⟨rfl,rfl⟩
theorem aad:aU aS.gd 177 anV:=
 jW (cx:=aS) (n:=29) (cl:=[(206,anP)]) au ⟨Z4,trivial⟩ Tryz.func177 λd hd=>by
  obtain⟨op,c,⟨⟩⟩:=d;exact⟨akk op c,cast (by kernel_rfl) (ae9 op c)⟩
def V7(r:Int):Bool:=decide (0<=r) && decide (r < 8)
def qC(op a b c obj n fn ord:Int):Int:=
 if sJ op=false then 8 else
 if(!use op 0 && a != 0 || !use op 1 && b != 0 || !use op 2 && c != 0 || !use op 3 && obj != 0 || !use op 4 && n != 0 || !use op 5 && fn != 0 || !use op 6 && ord != 0)=true then 9 else
 if(!V7 a || !V7 b || !V7 c)=true then 10 else
 if(decide (ord < 0) || decide (2 < ord))=true then 13 else
 if(use op 5 && decide (wW fn=(⟨#[]⟩:ByteArray)))=true then 8 else
 if(decide (op=1) && (decide (n < -2147483648) || decide (2147483647 < n)))=true then 2 else 0
theorem NC{op:Int}{nm:ByteArray}{us:List Bool}{u:Unit} (hb:1<=op/\op<=22) (hd:Nz[(op - 1).toNat]?=some (nm,us,u)):
 us=[use op 0,use op 1,use op 2,use op 3,use op 4,use op 5,use op 6]:=by
 have key:∀k:Fin 22,(Nz[k.1]?).map (λr=>r.2.1)=some ([0,1,2,3,4,5,6].map λj=>(aki.getD k.1 []).getD j false):=by decide
 have h1:=key ⟨(op - 1).toNat,by omega⟩
 simp only at h1;rw[hd]at h1;simp only[WQ,WO]at h1;rw[h1];simp[use,hb.1,hb.2]
abbrev akl:CT:={ ps:=[lY],pre:=λd=>True,res:=λd=>([],.one (.c (.v (.int .i64 (qC d.1.1 d.1.2.1 d.1.2.2.1 d.1.2.2.2.1 d.1.2.2.2.2.1 d.1.2.2.2.2.2.1 d.1.2.2.2.2.2.2.1 d.1.2.2.2.2.2.2.2.1))))) }
abbrev akm(op a b c obj n fn ord:Int):Nat->Option (St->jK):=λk=>match k with
 | 5=>some λ_=>.ET 8
 | 11=>some λ_=>.ET 4
 | _=>none
theorem afa(op a b c obj n fn ord:Int):
 let z11:=qC op a b c obj n fn ord;let z8:=qI z11 (8:Int);let z12:=[a,b,c,obj,n,fn,ord];let z2:=(0:Int)<=(0:Int)/\(0:Int) < (7:Int);let z10:=λ(kW:Bool) (bJ:Int)=>!kW && !decide (bJ=(0:Int));let z9:=qI z11 (9:Int);let z3:=(0:Int)<=(1:Int)/\(1:Int) < (7:Int);let z4:=(0:Int)<=(2:Int)/\(2:Int) < (7:Int);let z5:=(0:Int)<=(5:Int)/\(5:Int) < (7:Int);let z6:=(0:Int)<=(6:Int)/\(6:Int) < (7:Int);let z1:=λ(afb:Bool) (aae:Int)=>afb && (decide (aae < (0:Int)) || decide (8<=aae));let z7:=qI z11 (10:Int);True/\br (!sJ op) z8 (iR (op - 1)/\(0<=op - 1/\op - 1 < (22:Int))/\∀(d:ByteArray×((Sh.arr 7 Sh.bool).pair Sh.unit).den),Nz[(op - 1).toNat]?=some d->True/\((0:Int)<=(0:Int)/\0 < (z12.length:Int))/\∀(bJ:Int),z12[0]?=some bJ->z2/\0 < 7/\∀(kW:Bool),(d.snd.fst)[0]?=some kW->br (z10 kW bJ) z9 (iR (1:Int)/\((0:Int)<=(1:Int)/\1 < (z12.length:Int))/\∀(wC:Int),z12[1]?=some wC->z3/\1 < 7/\∀(Aq:Bool),(d.snd.fst)[1]?=some Aq->br (z10 Aq wC) z9 (iR (2:Int)/\((0:Int)<=(2:Int)/\2 < (z12.length:Int))/\∀(Dq:Int),z12[2]?=some Dq->z4/\2 < 7/\∀(IG:Bool),(d.snd.fst)[2]?=some IG->br (z10 IG Dq) z9 (iR (3:Int)/\((0:Int)<=(3:Int)/\3 < (z12.length:Int))/\∀(WT:Int),z12[3]?=some WT->((0:Int)<=(3:Int)/\(3:Int) < (7:Int))/\3 < 7/\∀(d_8:Bool),(d.snd.fst)[3]?=some d_8->br (z10 d_8 WT) z9 (iR (4:Int)/\((0:Int)<=(4:Int)/\4 < (z12.length:Int))/\∀(d_9:Int),z12[4]?=some d_9->((0:Int)<=(4:Int)/\(4:Int) < (7:Int))/\4 < 7/\∀(anY:Bool),(d.snd.fst)[4]?=some anY->br (z10 anY d_9) z9 (iR (5:Int)/\((0:Int)<=(5:Int)/\5 < (z12.length:Int))/\∀(anZ:Int),z12[5]?=some anZ->z5/\5 < 7/\∀(an0:Bool),(d.snd.fst)[5]?=some an0->br (z10 an0 anZ) z9 (iR (6:Int)/\((0:Int)<=(6:Int)/\6 < (z12.length:Int))/\∀(an1:Int),z12[6]?=some an1->z6/\6 < 7/\∀(an2:Bool),(d.snd.fst)[6]?=some an2->br (z10 an2 an1) z9 (iR (7:Int)/\((0:Int)<=(0:Int)/\0 < (↑[a,b,c].length:Int))/\∀(aae:Int),[a,b,c][0]?=some aae->z2/\0 < 7/\∀(afb:Bool),(d.snd.fst)[0]?=some afb->br (z1 afb aae) z7 (iR (1:Int)/\((0:Int)<=(1:Int)/\1 < (↑[a,b,c].length:Int))/\∀(an3:Int),[a,b,c][1]?=some an3->z3/\1 < 7/\∀(an4:Bool),(d.snd.fst)[1]?=some an4->br (z1 an4 an3) z7 (iR (2:Int)/\((0:Int)<=(2:Int)/\2 < (↑[a,b,c].length:Int))/\∀(an5:Int),[a,b,c][2]?=some an5->z4/\2 < 7/\∀(an6:Bool),(d.snd.fst)[2]?=some an6->br (z1 an6 an5) z7 (iR (3:Int)/\z6/\6 < 7/\∀(an7:Bool),(d.snd.fst)[6]?=some an7->br (an7 && (decide (ord < 0) || decide (2 < ord))) (qI z11 (13:Int)) (z5/\5 < 7/\∀(akn:Bool),(d.snd.fst)[5]?=some akn->(akn=true->True)/\br (akn && decide (wW fn={ data:=#[]:ByteArray })) z8 (br (decide (op=1) && (decide (n < (-2147483648)) || decide (2147483647 < n))) (qI z11 (2:Int)) (qI z11 (0:Int))))))))))))))):=by
 conv=>zeta
 delta qI iR;refine⟨trivial,ah.2 ⟨λh=>?_,λh=>?_⟩⟩
 .have hk:sJ op=false:=by simpa using h
  rw[show qC op a b c obj n fn ord=8 by simp[qC,hk]]
  exact⟨rfl,rfl⟩
 .have hk:sJ op=true:=by simpa using h
  have hb:1<=op/\op<=22:=by simpa[sJ]using hk
  refine⟨ay.2 (by omega),by omega,λd hd=>?_⟩
  obtain⟨nm,us,⟨⟩⟩:=d;have hu:=NC hb hd;subst hu;clear hd;simp only[UQ,ado,WO,forall_eq',ah,ay,sV,Lp,true_and,bg.one.injEq,SV.c.injEq,SC.v.injEq,Value.int.injEq,qC,hk,V7];generalize use op 0=u0;generalize use op 1=u1;generalize use op 2=u2;generalize use op 3=u3;generalize use op 4=u4;generalize use op 5=u5;generalize use op 6=u6
  repeat' (first | apply And.intro | intro _)
  all_goals first | omega | decide | skip
  all_goals simp_all
  all_goals grind
theorem ND:aU aS.gd 168 akl:=
 jW (cx:=aS) (n:=89) (cl:=[(197,anQ),(198,anS),(199,anT)]) au ⟨Z5,Z8,Z9,trivial⟩ Tryz.func168 λd hd=>by
  obtain⟨⟨op,a,b,c,obj,n,fn,ord,⟨⟩⟩,⟨⟩⟩:=d;exact⟨akm op a b c obj n fn ord,cast (by kernel_rfl) (afa op a b c obj n fn ord)⟩
theorem afc(op:Int):gV op 65=use op 0/\gV op 66=use op 1/\gV op 67=use op 2/\gV op 79=use op 3/\gV op 78=use op 4/\gV op 70=use op 5/\gV op 82=use op 6:=by
 by_cases hb:1<=op/\op<=22
 .have key:∀k:Fin 22,([65,66,67,79,78,70,82].map λc:Int=>(fieldsD.getD k.1 ByteArray.empty).data.toList.any λb=>decide ((b.toNat:Int)=c))=[0,1,2,3,4,5,6].map λj=>(aki.getD k.1 []).getD j false:=by decide
  have h1:=key ⟨(op - 1).toNat,by omega⟩
  simp only[UO,List.map_nil,List.cons.injEq,and_true]at h1;obtain⟨h1,h2,h3,h4,h5,h6,h7⟩:=h1;simp only[gV,use,hb.1,hb.2,decide_true,Hy,h1,h2,h3,h4,h5,h6,h7,and_self]
 .have:(decide (1<=op) && decide (op<=22))=false:=by simp only[A72,eH];omega
  simp only[gV,use,this,Bool.false_and,and_self]
abbrev an8:CT:={ ps:=[lY],pre:=λd=>True,res:=λd=>([],.one (.c (.v (.int .i64 (qC d.1.1 d.1.2.1 d.1.2.2.1 d.1.2.2.2.1 d.1.2.2.2.2.1 d.1.2.2.2.2.2.1 d.1.2.2.2.2.2.2.1 d.1.2.2.2.2.2.2.2.1))))) }
theorem afd(op a b c obj n fn ord:Int):
 let z4:=qC op a b c obj n fn ord;let z1:=qI z4 (8:Int);let z2:=decide (0<=a) && decide (a < 8);let z3:=decide (0<=b) && decide (b < 8);br (decide (op < 1) || decide (22 < op)) z1 (True/\((!(!gV op (65:Int) && !decide (a=0)))=true->True)/\((!(!gV op (65:Int) && !decide (a=0) || !gV op (66:Int) && !decide (b=0)))=true->True)/\((!(!gV op (65:Int) && !decide (a=0) || !gV op (66:Int) && !decide (b=0) || !gV op (67:Int) && !decide (c=0)))=true->True)/\((!(!gV op (65:Int) && !decide (a=0) || !gV op (66:Int) && !decide (b=0) || !gV op (67:Int) && !decide (c=0) || !gV op (79:Int) && !decide (obj=0)))=true->True)/\((!(!gV op (65:Int) && !decide (a=0) || !gV op (66:Int) && !decide (b=0) || !gV op (67:Int) && !decide (c=0) || !gV op (79:Int) && !decide (obj=0) || !gV op (78:Int) && !decide (n=0)))=true->True)/\((!(!gV op (65:Int) && !decide (a=0) || !gV op (66:Int) && !decide (b=0) || !gV op (67:Int) && !decide (c=0) || !gV op (79:Int) && !decide (obj=0) || !gV op (78:Int) && !decide (n=0) || !gV op (70:Int) && !decide (fn=0)))=true->True)/\br (!gV op (65:Int) && !decide (a=0) || !gV op (66:Int) && !decide (b=0) || !gV op (67:Int) && !decide (c=0) || !gV op (79:Int) && !decide (obj=0) || !gV op (78:Int) && !decide (n=0) || !gV op (70:Int) && !decide (fn=0) || !gV op (82:Int) && !decide (ord=0)) (qI z4 (9:Int)) (True/\((!!z2)=true->True)/\((!(!z2 || !z3))=true->True)/\br (!z2 || !z3 || !(decide (0<=c) && decide (c < 8))) (qI z4 (10:Int)) (br (decide (ord < 0) || decide (2 < ord)) (qI z4 (13:Int)) (True/\(gV op 70=true->True)/\br (gV op (70:Int) && decide (wW fn={ data:=#[]:ByteArray })) z1 (br (decide (op=1) && (decide (n < (-2147483648)) || decide (2147483647 < n))) (qI z4 (2:Int)) (qI z4 (0:Int))))))):=by
 conv=>zeta
 delta qI;obtain⟨e0,e1,e2,e3,e4,e5,e6⟩:=afc op;rw[e0,e1,e2,e3,e4,e5,e6];simp only[ah,ay,true_and,bg.one.injEq,SV.c.injEq,SC.v.injEq,Value.int.injEq,qC,sJ,V7];generalize use op 0=u0;generalize use op 1=u1;generalize use op 2=u2;generalize use op 3=u3;generalize use op 4=u4;generalize use op 5=u5;generalize use op 6=u6
 repeat' (first | apply And.intro | intro _)
 all_goals first | trivial | omega | skip
 all_goals first | grind | (simp_all<;>grind)
theorem aaf:aU aS.gd 176 an8:=
 jW (cx:=aS) (n:=132) (cl:=[(177,anV),(204,anR),(205,anU)]) au ⟨aad,Z7,aac,trivial⟩ Tryz.func176 λd hd=>by
  obtain⟨⟨op,a,b,c,obj,n,fn,ord,⟨⟩⟩,⟨⟩⟩:=d;exact⟨λ_=>none,cast (by kernel_rfl) (afd op a b c obj n fn ord)⟩
def dO(l:List Int) (x:Int):Bool:=l.any λy=>decide (y=x)
def zn(l:List Int) (x:Int):Nat:=(l.takeWhile λy=>decide (y < x)).length
def wE(l:List Int) (x:Int):List Int:=l.take (zn l x)++[x]++l.drop (zn l x)
def aY(l:List Int):List Int:=l.foldl (λo x=>if dO o x then o else wE o x) []
theorem FC(l:List Int) (x:Int):(wE l x).length=l.length+1:=by
 simp only[wE,kH,lu,yj,sV,Lp];omega
theorem II(l:List Int):(aY l).length<=l.length:=by
 have:∀(l o:List Int),(l.foldl (λo x=>if dO o x then o else wE o x) o).length<=o.length+l.length:=by
  intro l
  induction l with
  | nil=>intro o;simp
  | cons x l ih=>
    intro o;simp only[Jk,sV];refine pI (ih _) ?_;split
    .omega
    .rw[FC];omega
 have h:=this l [];rw[Lp,D6]at h;exact h
theorem FI{k:Nat}{d:Int} (hd:l[k]?=some d):aY (l.take (k+1))=if dO (aY (l.take k)) d then aY (l.take k) else wE (aY (l.take k)) d:=by
 rw[OJ,hd];unfold aY;rw[adu,List.foldl_append];rfl
def SS(l:List Int):Prop:=l.Pairwise (· < ·)
theorem Qq:∀{l m:List Int},SS l->SS m->(∀x,x∈l↔x∈m)->l=m
 | [],[],_,_,_=>rfl
 | [],y :: m,_,_,h=>by have:=(h y).2 (by simp);simp at this
 | x :: l,[],_,_,h=>by have:=(h x).1 (by simp);simp at this
 | x :: l,y :: m,hl,hm,h=>by
   obtain⟨h1,h2⟩:=WL.1 hl;obtain⟨h3,h4⟩:=WL.1 hm;have hxy:x=y:=by
    have a:=(h x).1 (by simp)
    have b:=(h y).2 (by simp)
    rcases lU.1 a with a | a
    .exact a
    .rcases lU.1 b with b | b
     .exact b.symm
     .have:=h3 x a;have:=h1 y b;omega
   subst hxy
   congr 1
   refine Qq h2 h4 λz=>?_
   have hz:=h z;simp only[lU]at hz;constructor
   .intro hh;rcases hz.1 (.inr hh) with rfl | h5
    .have:=h1 z hh;omega
    .exact h5
   .intro hh;rcases hz.2 (.inr hh) with rfl | h5
    .have:=h3 z hh;omega
    .exact h5
theorem jO{x:Int}:dO l x=true↔x∈l:=by
 unfold dO;rw[Ls];constructor
 .rintro⟨y,h1,h2⟩;simp only[dN]at h2;subst h2;exact h1
 .intro h;exact⟨x,h,by simp⟩
theorem oV{x:Int}:dO l x=false↔x∉l:=by
 rw[<-jO];simp
theorem ako(l:List Int) (x:Int):l.take (zn l x)=l.takeWhile λy=>decide (y < x):=by
 unfold zn
 induction l with
 | nil=>rfl
 | cons a l ih=>
   simp only[UU];split
   .simp[ih]
   .simp
theorem akp(l:List Int) (x:Int):l.drop (zn l x)=l.dropWhile λy=>decide (y < x):=by
 unfold zn
 induction l with
 | nil=>rfl
 | cons a l ih=>
   simp only[UU,List.dropWhile_cons];split
   .simp[ih]
   .simp
theorem Td:∀{l:List Int}{x:Int},SS l->∀y∈l.dropWhile (λy=>decide (y < x)),x<=y
 | [],_,_,y,h=>by simp at h
 | a :: l,x,hl,y,h=>by
   obtain⟨h1,h2⟩:=WL.1 hl;simp only[List.dropWhile_cons]at h;split at h
   .exact Td h2 y h
   .rename_i hn;simp only[dN]at hn;rcases lU.1 h with rfl | h
    .omega
    .have:=h1 y h;omega
theorem ah0:∀{l:List Int}{x:Int},∀y∈l.takeWhile (λy=>decide (y < x)),y < x
 | [],_,y,h=>by simp at h
 | a :: l,x,y,h=>by
   simp only[UU]at h;split at h
   .rename_i hn;simp only[dN]at hn;rcases lU.1 h with rfl | h
    .exact hn
    .exact ah0 y h
   .simp at h
theorem akq{x:Int} (hl:SS l) (hx:x∉l):SS (wE l x):=by
 unfold wE SS;rw[ako,akp];have hp:SS (l.takeWhile (λy=>decide (y < x))++l.dropWhile (λy=>decide (y < x))):=by rw[A95];exact hl
 obtain⟨p1,p2,p3⟩:=UR.1 hp;rw[Au,UR];refine⟨p1,?_,?_⟩
 .rw[aiv,WL];refine⟨λy hy=>?_,p2⟩
  have h1:=Td hl y hy;have h2:y≠x:=λe=>hx (by rw[<-e];rw[<-A95 (p:=λy=>decide (y < x)) (l:=l)];exact aiw _ hy)
  omega
 .intro a ha b hb;rw[aiv]at hb;rcases lU.1 hb with rfl | hb
  .exact ah0 a ha
  .exact p3 a ha b hb
theorem Dt{x y:Int}:y∈wE l x↔y=x\/y∈l:=by
 unfold wE;rw[CX,CX,WM]
 conv=>rhs;rw[<-WJ (zn l x) l,CX]
 constructor
 .rintro((h | h) | h)
  .exact .inr (.inl h)
  .exact .inl h
  .exact .inr (.inr h)
 .rintro(h | h | h)
  .exact .inl (.inr h)
  .exact .inl (.inl h)
  .exact .inr h
theorem Du:∀(l o:List Int),SS o->SS (l.foldl (λo x=>if dO o x then o else wE o x) o)/\∀y,y∈l.foldl (λo x=>if dO o x then o else wE o x) o↔y∈o\/y∈l
 | [],o,h=>⟨h,λy=>by simp⟩
 | x :: l,o,h=>by
   simp only[Jk];cases hx:dO o x with
   | true=>
     simp only[if_true];obtain⟨h1,h2⟩:=Du l o h;refine⟨h1,λy=>?_⟩
     rw[h2,lU];have:=jO.1 hx;constructor
     .rintro(h | h)
      .exact .inl h
      .exact .inr (.inr h)
     .rintro(h | rfl | h)
      .exact .inl h
      .exact .inl this
      .exact .inr h
   | false=>
     simp only[adt,OX];obtain⟨h1,h2⟩:=Du l (wE o x) (akq h (oV.1 hx));refine⟨h1,λy=>?_⟩
     rw[h2,lU,Dt];constructor
     .rintro((h | h) | h)
      .exact .inr (.inl h)
      .exact .inl h
      .exact .inr (.inr h)
     .rintro(h | h | h)
      .exact .inl (.inr h)
      .exact .inl (.inl h)
      .exact .inr h
theorem zo(l:List Int):SS (aY l):=(Du l [] List.Pairwise.nil).1
theorem zq{x:Int}:x∈aY l↔x∈l:=by
 have:=(Du l [] List.Pairwise.nil).2 x;simpa[aY]using this
theorem NG{d:Array Int} (hs:∀i j,i < j->j < d.size->d[i]!<=d[j]!):∀m,m<=d.size ->
 SS (Lib.compactUpTo d m)/\(∀x,x∈Lib.compactUpTo d m↔∃j < m,d[j]! = x)
 | 0,_=>⟨by simp[Lib.compactUpTo,SS],λx=>by simp[Lib.compactUpTo]⟩
 | m+1,hm=>by
   obtain⟨h1,h2⟩:=NG hs m (by omega)
   rw[Lib.compactUpTo_succ];have le:∀x∈Lib.compactUpTo d m,∃j < m,d[j]! = x:=λx hx=>(h2 x).1 hx
   cases hk:Lib.keeps d m with
   | true=>
     simp only[if_true];constructor
     .refine UR.2 ⟨h1,by simp,λa ha b hb=>?_⟩
      simp only[WM]at hb;subst hb;obtain⟨j,hj,rfl⟩:=le a ha;have h3:m≠0:=by omega
      simp only[Lib.keeps,dN,h3,false_or]at hk;have h4:=hs (m - 1) m (by omega) (by omega)
      by_cases hj2:j=m - 1
      .subst hj2;omega
      .have:=hs j (m - 1) (by omega) (by omega);omega
     .intro x;rw[CX,h2,WM];constructor
      .rintro(⟨j,hj,e⟩ | e)
       .exact⟨j,by omega,e⟩
       .exact⟨m,by omega,e.symm⟩
      .rintro⟨j,hj,e⟩
       by_cases hj2:j=m
       .subst hj2;exact .inr e.symm
       .exact .inl ⟨j,by omega,e⟩
   | false=>
     simp only[adt,OX,Rf];refine⟨h1,λx=>?_⟩
     rw[h2];have h3:m≠0/\d[m]! = d[m - 1]!:=by simpa[Lib.keeps]using hk
     constructor
     .rintro⟨j,hj,e⟩;exact⟨j,by omega,e⟩
     .rintro⟨j,hj,e⟩
      by_cases hj2:j=m
      .subst hj2;exact⟨j - 1,by omega,by rw[<-h3.2];exact e⟩
      .exact⟨j,by omega,e⟩
theorem NH(l:List Int):(jF l).Pairwise (·<=·):=by
 have h:(jF l).Pairwise (λx y=>decide (x<=y)=true):=List.pairwise_mergeSort (λa b c h1 h2=>by simp at *;omega) (λa b=>by simp;omega) l
 exact h.imp λh=>by simpa using h
theorem aag{x:Int}:x∈jF l↔x∈l:=(List.mergeSort_perm l _).mem_iff
theorem NI(l:List Int):SS (Lib.compact (jF l))/\∀x,x∈Lib.compact (jF l)↔x∈l:=by
 have hs:∀i j,i < j->j < (jF l).toArray.size->(jF l).toArray[i]!<=(jF l).toArray[j]!:=by
  intro i j hij hj;have hj':j < (jF l).length:=by simpa using hj
  have:=Xb.1 (NH l) i j (by omega) hj' hij
  rw[getElem!_pos _ i (by simp;omega),getElem!_pos _ j (by simpa using hj)]
  simpa using this
 obtain⟨h1,h2⟩:=NG hs (jF l).length (by simp)
 refine⟨h1,λx=>?_⟩
 show x∈Lib.compactUpTo (jF l).toArray (jF l).length↔_;rw[h2,<-aag,List.mem_iff_getElem];constructor
 .rintro⟨j,hj,e⟩;exact⟨j,hj,by rw[getElem!_pos _ j (by simpa using hj)]at e;simpa using e⟩
 .rintro⟨j,hj,e⟩;exact⟨j,hj,by rw[getElem!_pos _ j (by simpa using hj)];simpa using e⟩
theorem afe(l:List Int):Lib.compact (jF l)=aY l:=
 Qq (NI l).1 (zo l) λx=>by rw[(NI l).2,zq]
end Go.Proofs.YtjhenjhcbcalpaaGreatDoor
namespace Go.Proofs
open Go.Shelf
def Tryz.lays189_ren:Go.Shelf.Ren:=⟨fun | 189=>200 | 125=>213 | 257=>212 | 128=>225 | 129=>226 | 294=>216 | 295=>217 | 296=>218 | 297=>219 | 298=>220 | 299=>221 | 216=>222 | 300=>223 | 301=>224 | 328=>227 | 329=>228 | 330=>229 | 331=>230 | 332=>231 | 215=>232 | 343=>233 | n=>n,fun | 28=>31 | 3=>3 | 46=>217 | 0=>0 | 51=>167 | 53=>230 | 4=>4 | 183=>222 | 182=>221 | 131=>95 | 5=>5 | 9=>9 | 218=>231 | 222=>235 | 228=>237 | 229=>165 | n=>n,fun | n=>n⟩
theorem Tryz.lays189:Go.Proofs.Lays.n189 Tryz.prog Tryz.lays189_ren:={
 mixed:=by kernel_rfl
 f125:=Tryz.func213.trans (tX some (by kernel_rfl))
 f128:=Tryz.func225.trans (tX some (by kernel_rfl))
 f129:=Tryz.func226.trans (tX some (by kernel_rfl))
 f189:=Tryz.func200.trans (tX some (by kernel_rfl))
 f215:=Tryz.func232.trans (tX some (by kernel_rfl))
 f216:=Tryz.func222.trans (tX some (by kernel_rfl))
 f257:=Tryz.func212.trans (tX some (by kernel_rfl))
 f294:=Tryz.func216.trans (tX some (by kernel_rfl))
 f295:=Tryz.func217.trans (tX some (by kernel_rfl))
 f296:=Tryz.func218.trans (tX some (by kernel_rfl))
 f297:=Tryz.func219.trans (tX some (by kernel_rfl))
 f298:=Tryz.func220.trans (tX some (by kernel_rfl))
 f299:=Tryz.func221.trans (tX some (by kernel_rfl))
 f300:=Tryz.func223.trans (tX some (by kernel_rfl))
 f301:=Tryz.func224.trans (tX some (by kernel_rfl))
 f328:=Tryz.func227.trans (tX some (by kernel_rfl))
 f329:=Tryz.func228.trans (tX some (by kernel_rfl))
 f330:=Tryz.func229.trans (tX some (by kernel_rfl))
 f331:=Tryz.func230.trans (tX some (by kernel_rfl))
 f332:=Tryz.func231.trans (tX some (by kernel_rfl))
 f343:=Tryz.func233.trans (tX some (by kernel_rfl))
 t0:=Tryz.underlying0
 a0:=Tryz.isAgg0
 z0:=Tryz.sizeOf0
 v0:=Tryz.zeroValue0
 t3:=Tryz.underlying3
 a3:=Tryz.isAgg3
 z3:=Tryz.sizeOf3
 v3:=Tryz.zeroValue3
 t4:=Tryz.underlying4
 a4:=Tryz.isAgg4
 z4:=Tryz.sizeOf4
 v4:=Tryz.zeroValue4
 t5:=Tryz.underlying5
 a5:=Tryz.isAgg5
 z5:=Tryz.sizeOf5
 v5:=Tryz.zeroValue5
 t9:=Tryz.underlying9
 a9:=Tryz.isAgg9
 z9:=Tryz.sizeOf9
 v9:=Tryz.zeroValue9
 t28:=Tryz.underlying31
 a28:=Tryz.isAgg31
 z28:=Tryz.sizeOf31
 v28:=Tryz.zeroValue31
 t46:=Tryz.underlying217
 a46:=Tryz.isAgg217
 z46:=Tryz.sizeOf217
 v46:=Tryz.zeroValue217
 t51:=Tryz.underlying167
 a51:=Tryz.isAgg167
 z51:=Tryz.sizeOf167
 v51:=Tryz.zeroValue167
 t53:=Tryz.underlying230
 a53:=Tryz.isAgg230
 z53:=Tryz.sizeOf230
 v53:=Tryz.zeroValue230
 t131:=Tryz.underlying95
 a131:=Tryz.isAgg95
 z131:=Tryz.sizeOf95
 v131:=Tryz.zeroValue95
 t182:=Tryz.underlying221
 a182:=Tryz.isAgg221
 z182:=Tryz.sizeOf221
 v182:=Tryz.zeroValue221
 t183:=Tryz.underlying222
 a183:=Tryz.isAgg222
 z183:=Tryz.sizeOf222
 v183:=Tryz.zeroValue222
 t218:=Tryz.underlying231
 a218:=Tryz.isAgg231
 z218:=Tryz.sizeOf231
 v218:=Tryz.zeroValue231
 t222:=Tryz.underlying235
 a222:=Tryz.isAgg235
 z222:=Tryz.sizeOf235
 v222:=Tryz.zeroValue235
 t228:=Tryz.underlying237
 a228:=Tryz.isAgg237
 z228:=Tryz.sizeOf237
 v228:=Tryz.zeroValue237
 t229:=Tryz.underlying165
 a229:=Tryz.isAgg165
 z229:=Tryz.sizeOf165
 v229:=Tryz.zeroValue165 }
open Go.Sort Go.RowKit in
theorem Tryz.slices_Sort_int(blk off cap:Nat) (zs:List Int) (w:World) (hH:Holds (Value.int .i64) w blk off zs.toArray) (hblk:blk < w.heap.size) (hsz:zs.length < 4611686018427387904):
 Calls Tryz.prog 200 #[.slice (some ⟨blk,off,none⟩) zs.length cap] w λe w'=>
  e=.returned (.tuple #[])/\∃n os,w'=grow (putRow (Value.int .i64) (Sort.ahead w n) blk off (zs.mergeSort λx y=>decide (x<=y)).toArray) os:=Any.slices_Sort_int Tryz.lays189 blk off cap zs w hH hblk hsz
def Tryz.laysNm220_ren:Go.Shelf.Ren:=⟨fun | 20=>201 | n=>n,fun | 22=>31 | 3=>3 | 4=>4 | 0=>0 | n=>n,fun | n=>n⟩
theorem Tryz.laysNm220:Go.Proofs.Lays2.n20 Tryz.prog Tryz.laysNm220_ren:={
 mixed:=by kernel_rfl
 f20:=Tryz.func201.trans (tX some (by kernel_rfl))
 t0:=Tryz.underlying0
 a0:=Tryz.isAgg0
 z0:=Tryz.sizeOf0
 v0:=Tryz.zeroValue0
 t3:=Tryz.underlying3
 a3:=Tryz.isAgg3
 z3:=Tryz.sizeOf3
 v3:=Tryz.zeroValue3
 t4:=Tryz.underlying4
 a4:=Tryz.isAgg4
 z4:=Tryz.sizeOf4
 v4:=Tryz.zeroValue4
 t22:=Tryz.underlying31
 a22:=Tryz.isAgg31
 z22:=Tryz.sizeOf31
 v22:=Tryz.zeroValue31
 i3:=by kernel_rfl }
open Go.RowKit Go.Lib Go.Sort in
theorem Tryz.slices_Compact_int(blk off cap:Nat) (zs:List Int) (w:World) (hH:Holds (Value.int .i64) w blk off zs.toArray) (hsz:zs.length<=9223372036854775807) (hcap:zs.length<=cap):
 Calls Tryz.prog 201 #[.slice (some ⟨blk,off,none⟩) zs.length cap] w λe w'=>e=.returned (.slice (some ⟨blk,off,none⟩) (Lib.compact zs).length cap)/\∃q,w'=putRow (Value.int .i64) (Sort.ahead w q) blk off (Lib.compact zs++List.replicate (zs.length - (Lib.compact zs).length) 0).toArray:=Any.slices_Compact_int Tryz.laysNm220 blk off cap zs w hH hsz hcap
open Go.RowKit Go.Lib Go.Sort in
theorem Tryz.slices_Compact_int_empty(a:Option Addr) (cap:Nat) (w:World):
 Calls Tryz.prog 201 #[.slice a 0 cap] w λe w'=>e=.returned (.slice a 0 cap)/\w'=w:=Any.slices_Compact_int_empty Tryz.laysNm220 a cap w
end Go.Proofs
namespace Go.Proofs.YtjhenjhcbcalpaaGreatDoor
open Go Go.l9
variable {k:Nat}
def Mt(l:List Int):Prop:=l=[]
theorem Mt.nil:Mt []:=rfl
abbrev ah1:CT:={ ps:=[.int .u64],pre:=λd=>d.1=0,res:=λd=>([],.one (.c (.v (.int .i64 0)))) }
abbrev akr  : Nat->Option (St->jK):=λ_=>none
theorem aff :
 let z1:=[(8:UInt8),(8:UInt8),(8:UInt8),(8:UInt8),(8:UInt8),(8:UInt8),(8:UInt8),(8:UInt8),(8:UInt8),(8:UInt8),(8:UInt8),(8:UInt8),(8:UInt8),(8:UInt8),(8:UInt8),(8:UInt8),(8:UInt8),(8:UInt8),(8:UInt8),(8:UInt8),(8:UInt8),(8:UInt8),(8:UInt8),(8:UInt8),(8:UInt8),(8:UInt8),(8:UInt8),(8:UInt8),(8:UInt8),(8:UInt8),(8:UInt8),(8:UInt8),(8:UInt8),(8:UInt8),(8:UInt8),(8:UInt8),(8:UInt8),(8:UInt8),(8:UInt8),(8:UInt8),(8:UInt8),(8:UInt8),(8:UInt8),(8:UInt8),(8:UInt8),(8:UInt8),(8:UInt8),(8:UInt8),(8:UInt8),(8:UInt8),(8:UInt8),(8:UInt8),(8:UInt8),(8:UInt8),(8:UInt8),(8:UInt8),(8:UInt8),(8:UInt8),(8:UInt8),(8:UInt8),(8:UInt8),(8:UInt8),(8:UInt8),(8:UInt8)];((0:Int)<=(0:Int)/\(0:Int) < (256:Int))/\∀(u:UInt8),{ data:=(([(0:UInt8),(1:UInt8),(2:UInt8),(2:UInt8),(3:UInt8),(3:UInt8),(3:UInt8),(3:UInt8),(4:UInt8),(4:UInt8),(4:UInt8),(4:UInt8),(4:UInt8),(4:UInt8),(4:UInt8),(4:UInt8),(5:UInt8),(5:UInt8),(5:UInt8),(5:UInt8),(5:UInt8),(5:UInt8),(5:UInt8),(5:UInt8),(5:UInt8),(5:UInt8),(5:UInt8),(5:UInt8),(5:UInt8),(5:UInt8),(5:UInt8),(5:UInt8),(6:UInt8),(6:UInt8),(6:UInt8),(6:UInt8),(6:UInt8),(6:UInt8),(6:UInt8),(6:UInt8),(6:UInt8),(6:UInt8),(6:UInt8),(6:UInt8),(6:UInt8),(6:UInt8),(6:UInt8),(6:UInt8),(6:UInt8),(6:UInt8),(6:UInt8),(6:UInt8),(6:UInt8),(6:UInt8),(6:UInt8),(6:UInt8),(6:UInt8),(6:UInt8),(6:UInt8),(6:UInt8),(6:UInt8),(6:UInt8),(6:UInt8),(6:UInt8)].append [(7:UInt8),(7:UInt8),(7:UInt8),(7:UInt8),(7:UInt8),(7:UInt8),(7:UInt8),(7:UInt8),(7:UInt8),(7:UInt8),(7:UInt8),(7:UInt8),(7:UInt8),(7:UInt8),(7:UInt8),(7:UInt8),(7:UInt8),(7:UInt8),(7:UInt8),(7:UInt8),(7:UInt8),(7:UInt8),(7:UInt8),(7:UInt8),(7:UInt8),(7:UInt8),(7:UInt8),(7:UInt8),(7:UInt8),(7:UInt8),(7:UInt8),(7:UInt8),(7:UInt8),(7:UInt8),(7:UInt8),(7:UInt8),(7:UInt8),(7:UInt8),(7:UInt8),(7:UInt8),(7:UInt8),(7:UInt8),(7:UInt8),(7:UInt8),(7:UInt8),(7:UInt8),(7:UInt8),(7:UInt8),(7:UInt8),(7:UInt8),(7:UInt8),(7:UInt8),(7:UInt8),(7:UInt8),(7:UInt8),(7:UInt8),(7:UInt8),(7:UInt8),(7:UInt8),(7:UInt8),(7:UInt8),(7:UInt8),(7:UInt8),(7:UInt8)]).append (z1.append z1)).toArray:ByteArray }[0]?=some u->iR (u.toNat:Int)/\iR (0+(u.toNat:Int))/\qI 0 (0+(u.toNat:Int)):=by
 conv=>zeta
 delta qI iR;refine⟨by omega,λu hu=>?_⟩
 have hu:some (0:UInt8)=some u:=hu;cases hu;exact⟨ay.2 (by decide),ay.2 (by decide),rfl,rfl⟩
theorem aah:aU aS.gd 226 ah1:=
 jW (cx:=aS) (n:=25) (cl:=[]) au trivial Tryz.func226 λd hd=>by
  obtain⟨x,⟨⟩⟩:=d;simp only at hd;subst hd;exact⟨akr ,cast (by kernel_rfl) (aff )⟩
abbrev ah2:CT:={ ps:=[.int .u64],pre:=λd=>d.1=0,res:=λd=>([],.one (.c (.v (.int .i64 0)))) }
abbrev aks  : Nat->Option (St->jK):=λ_=>none
theorem afg :
 (0:(Sh.int IntKind.u64).den)=(0:(Sh.int IntKind.u64).den)/\qI 0 (0:Int):=by
 delta qI;exact⟨rfl,rfl,rfl⟩
theorem aai:aU aS.gd 213 ah2:=
 jW (cx:=aS) (n:=8) (cl:=[(226,ah1)]) au ⟨aah,trivial⟩ Tryz.func213 λd hd=>by
  obtain⟨x,⟨⟩⟩:=d;simp only at hd;subst hd;exact⟨aks ,cast (by kernel_rfl) (afg )⟩
abbrev ah3:CT:={ ps:=[.sl (.int .i64),.int .i64,.int .i64],pre:=λd=>Mt d.1/\d.2.1=0/\d.2.2.1=0,res:=λd=>([],.iJ []) }
abbrev akt  : Nat->Option (St->jK):=λ_=>some λ_=>.ET 1
theorem afh :
 iR (1:Int)/\rT [] []:=by
 delta rT iR;exact⟨ay.2 (by omega),rfl,rfl⟩
theorem aaj:aU aS.gd 216 ah3:=
 jW (cx:=aS) (n:=49) (cl:=[]) au trivial Tryz.func216 λd hd=>by
  obtain⟨l,a,b,⟨⟩⟩:=d;obtain⟨h1,h2,h3⟩:=hd;simp only at h1 h2 h3;have h1:l=[]:=h1;subst h1;subst h2;subst h3;exact⟨akt ,cast (by kernel_rfl) (afh )⟩
abbrev ah4:CT:={ ps:=[.sl (.int .i64),.int .i64,.int .i64,.int .i64],pre:=λd=>Mt d.1/\d.2.1=0/\d.2.2.1=0,res:=λd=>([],.iJ []) }
abbrev aku(m:Int):Nat->Option (St->jK):=λ_=>some λ_=>.ET 1
theorem afi(m:Int):
 iR (0:Int)/\(Mt []/\(0:Int)=(0:Int)/\(0:Int)=(0:Int))/\rT [] []:=by
 delta rT iR;exact⟨ay.2 (by omega),⟨rfl,rfl,rfl⟩,rfl,rfl⟩
theorem aak:aU aS.gd 212 ah4:=
 jW (cx:=aS) (n:=134) (cl:=[(216,ah3)]) au ⟨aaj,trivial⟩ Tryz.func212 λd hd=>by
  obtain⟨l,a,b,m,⟨⟩⟩:=d;obtain⟨h1,h2,h3⟩:=hd;simp only at h1 h2 h3;have h1:l=[]:=h1;subst h1;subst h2;subst h3;exact⟨aku m,cast (by kernel_rfl) (afi m)⟩
abbrev an9:CT:={ ps:=[.sl (.int .i64)],pre:=λd=>Mt d.1,res:=λd=>([],.iJ []) }
abbrev akv  : Nat->Option (St->jK):=λ_=>none
theorem afj :
 (0:Int)=(0:(Sh.int IntKind.u64).den)/\(Mt []/\(0:Int)=(0:Int)/\(0:Int)=(0:Int))/\rT [] []:=by
 delta rT;exact⟨rfl,⟨rfl,rfl,rfl⟩,rfl,rfl⟩
theorem NJ:aU aS.gd 200 an9:=
 jW (cx:=aS) (n:=11) (cl:=[(212,ah4),(213,ah2)]) au ⟨aak,aai,trivial⟩ Tryz.func200 λd hd=>by
  obtain⟨l,⟨⟩⟩:=d;have hd:l=[]:=hd;subst hd;exact⟨akv ,cast (by kernel_rfl) (afj )⟩
abbrev vW:CT:={ ps:=[.sl (.int .i64)],pre:=λd=>d.1.length<=1000000,res:=λd=>([.row 3 (.int .i64) (d.1)],.one (.c (.row 0))) }
abbrev ilN:List (Nat×IP):=[]
abbrev zu:=Sh.int IntKind.i64
theorem akw(l:List Int) (aG:vW.pre (l,())):
 let z1:=[ak.row (3:TypeId) zu l];∀(b:Bool),(b=true->l=[])->br b (z1=[ak.row (3:TypeId) zu []]/\bg.one IE=bg.one IE) (oz ((0:Nat)+List.length (l)) (8:Nat)/\z1=[ak.row (3:TypeId) zu ([]++l)]/\bg.one IE=bg.one IE):=by
 conv=>zeta
 delta zu IE;have hp:l.length<=1000000:=aG;intro b hb;refine ah.2 ⟨λh=>by rw[hb h];exact⟨rfl,rfl⟩,λh=>⟨?_,by simp,rfl⟩⟩
 rw[dZ];omega
theorem Dv:aU aS.gd 58 vW:=
 Qk (il:=ilN) (rc:=[.row 3 (.int .i64)]) (cx:=aS) (n:=8) (cl:=[]) (by kernel_rfl) au trivial trivial Tryz.func58 (by kernel_rfl) (by kernel_rfl) rfl (by kernel_rfl) (by kernel_rfl) λd hd=>by
  obtain⟨l,⟨⟩⟩:=d;exact⟨λ_=>none,cast (by kernel_rfl) (akw l hd)⟩
def Hf(l:List Int) (x:Int):Int:=match l.findIdx? (λy=>decide (y=x)) with | some k=>(k:Int) | none=>-1
theorem Qr{l:List Int}{x:Int} (hd:l[k]?=some x) (hn:∀j < k,∀y,l[j]?=some y->y≠x):Hf l x=k:=by
 have gX:k < l.length:=(A8.1 hd).1;have:l.findIdx? (λy=>decide (y=x))=some k:=by
  rw[A52];refine⟨gX,by have:=(A8.1 hd).2;simp[this],λj hj=>?_⟩
  have:=hn j hj l[j] (kQ (by omega))
  simpa using this
 simp[Hf,this]
theorem V8{l:List Int}{x:Int} (hn:∀(j:Nat) y,l[j]?=some y->y≠x):Hf l x = -1:=by
 have:l.findIdx? (λy=>decide (y=x))=none:=by
  rw[A75];intro y hy;obtain⟨j,hj⟩:=Ai hy;simpa using hn j y hj
 simp[Hf,this]
abbrev aam:CT:={ ps:=[.sl (.int .i64),.int .i64],pre:=λd=>d.1.length<=4611686018427387904,res:=λd=>([],.one (.c (.v (.int .i64 (Hf d.1 d.2.1))))) }
abbrev akx(l:List Int) (x:Int):Nat->Option (St->jK):=λ_=>some λ_=>.inv { α:=Nat,slots:=λk=>[(8,.c (.v (.int .i64 k)))],res:=λ_=>[],inv:=λk=>k<=l.length/\∀j < k,∀y,l[j]?=some y->y≠x,meas:=λk=>l.length - k }
abbrev dP:=Go.l9.Gd×Go.l9.ak
theorem afk(l:List Int) (x:Int) (aG:aam.pre (l,x,())):
 let z1:=λ(x_1:Nat)=>(x_1<=l.length/\∀(j:Nat),j < x_1->∀(y:Int),l[j]?=some y->y≠x);(∃x_1,(z1 x_1)/\(cI 0=cI (x_1:Int)/\True)/\([]:List dP)=[])/\∀(x_1:Nat),(z1 x_1)->br (decide ((x_1:Int) < (l.length:Int))) ((0<=(x_1:Int)/\(x_1:Int) < (l.length:Int))/\∀(d:Int),l[(x_1:Int).toNat]?=some d->br (decide (x=d)) (qI (Hf l x) (x_1:Int)) (iR ((x_1:Int)+(1:Int))/\∃x',(x'<=l.length/\∀(j:Nat),j < x'->∀(y:Int),l[j]?=some y->y≠x)/\(cI ((x_1:Int)+(1:Int))=cI (x':Int)/\True)/\([]:List dP)=[]/\l.length - x' < l.length - x_1)) (qI (Hf l x) (-1:Int)):=by
 conv=>zeta
 delta dP cI qI iR;refine⟨⟨0,⟨by omega,λj hj=>by omega⟩,⟨rfl,trivial⟩,rfl⟩,λk hk=>ah.2 ⟨λh=>?_,λh=>?_⟩⟩
 .simp only[dN]at h;have hp:l.length<=4611686018427387904:=aG;refine⟨by omega,λd hd=>?_⟩
  have hd:l[k]?=some d:=by simpa using hd
  refine ah.2 ⟨λhe=>?_,λhe=>⟨ay.2 (by omega),k+1,⟨by omega,λj hj y hy=>?_⟩,⟨rfl,trivial⟩,rfl,by omega⟩⟩
  .have he:x=d:=by simpa using he
   rw[Qr (by rw[hd,he]) hk.2];exact⟨rfl,rfl⟩
  .by_cases iY:j=k
   .subst iY;rw[hd]at hy;cases hy;intro hh;simp[hh]at he
   .exact hk.2 j (by omega) y hy
 .simp only[eH]at h;rw[V8 (λj y hy=>hk.2 j (by have:=(A8.1 hy).1;omega) y hy)];exact⟨rfl,rfl⟩
theorem aan:aU aS.gd 162 aam:=
 jW (cx:=aS) (n:=19) (cl:=[]) au trivial Tryz.func162 λd hd=>by
  obtain⟨l,x,⟨⟩⟩:=d;exact⟨akx l x,cast (by kernel_rfl) (afk l x hd)⟩
theorem aao(l:List Int) (x:Int):dO l x=decide (0<=Hf l x):=by
 have h:=List.findIdx?_isSome (xs:=l) (p:=λy=>decide (y=x))
 unfold dO Hf;rw[<-h];cases l.findIdx? (λy=>decide (y=x)) with
 | none=>rfl
 | some k=>simp
abbrev FK:CT:={ ps:=[.sl (.int .i64),.int .i64],pre:=λd=>d.1.length<=4611686018427387904,res:=λd=>([],vB (dO d.1 d.2.1)) }
theorem aky(l:List Int) (x:Int) (aG:FK.pre (l,x,())):
 l.length<=4611686018427387904/\qB (dO l x) (decide (0<=Hf l x)):=by
 delta qB;refine⟨aG,rfl,?_⟩;rw[aao]
theorem zx:aU aS.gd 98 FK:=
 jW (cx:=aS) (n:=9) (cl:=[(162,aam)]) au ⟨aan,trivial⟩ Tryz.func98 λd hd=>by
  obtain⟨l,x,⟨⟩⟩:=d;exact⟨λ_=>none,cast (by kernel_rfl) (aky l x hd)⟩
theorem V9(l:List Int):(jF l).length=l.length:=by simp[jF]
theorem aap(l:List Int):(aY l).length<=l.length:=II l
theorem afl:SY Tryz.prog aS.gd 200 Fz:=⟨V3 NJ.1 rfl (λblk cap zs w hH hb hz=>Tryz.slices_Sort_int blk 0 cap zs w hH hb hz),NJ.2⟩
theorem afm:SY Tryz.prog aS.gd 201 Bq:=⟨Kt (λa cap w=>Tryz.slices_Compact_int_empty a cap w) (λblk cap zs w hH h1 h2=>Tryz.slices_Compact_int blk 0 cap zs w hH h1 h2),⟨_,Tryz.func201,rfl,by kernel_rfl⟩⟩
abbrev zy:CT:={ ps:=[.sl (.int .i64)],pre:=λd=>d.1.length<=1000000,res:=λd=>([.row 3 (.int .i64) (aY d.1)],.one (.c (.row 0))) }
abbrev aoa:List (Nat×IP):=[(200,Fz),(201,Bq)]
theorem afn(l:List Int) (aG:zy.pre (l,())):
 l.length<=(1000000:Nat)/\List.length (l) < (4611686018427387904:Nat)/\List.length (jF (l)) < (4611686018427387904:Nat)/\[ak.row (3:TypeId) zu (aY l)]=[ak.row (3:TypeId) zu (Lib.compact (jF (l)))]/\bg.one IE=bg.one IE:=by
 delta zu IE;have hp:l.length<=1000000:=aG;exact⟨hp,by omega,by rw[V9];omega,by rw[afe],rfl⟩
theorem NK:aU aS.gd 169 zy:=
 Qk (il:=aoa) (rc:=[]) (cx:=aS) (n:=10) (cl:=[(58,vW)]) (by kernel_rfl) au ⟨Dv,trivial⟩ ⟨afl,afm,trivial⟩ Tryz.func169 (by kernel_rfl) (by kernel_rfl) rfl (by kernel_rfl) (by kernel_rfl) λd hd=>by
  obtain⟨l,⟨⟩⟩:=d;exact⟨λ_=>none,cast (by kernel_rfl) (afn l hd)⟩
abbrev IJ:CT:={ ps:=[.sl (.int .i64),.int .i64],pre:=λd=>d.1.length<=1000000,res:=λd=>([],vB (dO d.1 d.2.1)) }
theorem afo(l:List Int) (x:Int) (aG:IJ.pre (l,x,())):
 l.length<=4611686018427387904/\qB (dO l x) (dO l x):=by
 delta qB;have hp:l.length<=1000000:=aG;exact⟨by omega,rfl,rfl⟩
theorem zA:aU aS.gd 165 IJ:=
 jW (cx:=aS) (n:=8) (cl:=[(98,FK)]) au ⟨zx,trivial⟩ Tryz.func165 λd hd=>by
  obtain⟨l,x,⟨⟩⟩:=d;exact⟨λ_=>none,cast (by kernel_rfl) (afo l x hd)⟩
abbrev NM:CT:={ ps:=[.sl (.int .i64),.int .i64],pre:=λd=>d.1.length<=999999,res:=λd=>([.row 3 (.int .i64) (aY (d.1++[d.2.1]))],.one (.c (.row 0))) }
theorem afp(l:List Int) (x:Int) (aG:NM.pre (l,x,())):
 let z1:=[ak.row (3:TypeId) zu (aY (l++[x]))];l.length<=(1000000:Nat)/\oz (List.length (l)+List.length ([x])) (8:Nat)/\List.length (l++[x])<=(1000000:Nat)/\z1=z1/\bg.one IE=bg.one IE:=by
 conv=>zeta
 delta zu IE;have hp:l.length<=999999:=aG;refine⟨by omega,?_,?_,rfl,rfl⟩
 .rw[dZ];simp;omega
 .simp;omega
theorem FM:aU aS.gd 111 NM:=
 jW (cx:=aS) (n:=11) (cl:=[(58,vW),(169,zy)]) au ⟨Dv,NK,trivial⟩ Tryz.func111 λd hd=>by
  obtain⟨l,x,⟨⟩⟩:=d;exact⟨λ_=>none,cast (by kernel_rfl) (afp l x hd)⟩
abbrev Hg:Sh:=.pair .str (.pair (.int .i64) .unit)
abbrev Dw:Sh:=.pair .str (.pair (.sl lY) .unit)
abbrev mO:Sh:=.pair (.int .i64) (.pair (.int .i64) .unit)
abbrev oW:Sh:=.pair (.sl Hg) (.pair (.sl .str) (.pair (.sl .str) (.pair (.sl Dw) (.pair (.sl mO) .unit))))
abbrev ID:=Int×Int×Int×Int×Int×Int×Int×Int×Unit
abbrev VD:=ByteArray×Int×Unit
abbrev FD:=ByteArray×List ID×Unit
abbrev SD:=Int×Int×Unit
abbrev PD:=List VD×List ByteArray×List ByteArray×List FD×List SD×Unit
def qj(f:Nat) (x:FD):List (cO [mO,lY]):=x.2.1.zipIdx.map λp=>(((f:Int),(p.2:Int),()),p.1,())
def jP:Nat->List FD->List (cO [mO,lY])
 | _,[]=>[]
 | n,x :: l=>qj n x++jP (n+1) l
def dM(fs:List FD):List (cO [mO,lY]):=jP 0 fs
theorem IK(f:Nat) (x:FD):(qj f x).length=x.2.1.length:=by simp[qj]
theorem IL{f:Nat}{x:FD}{j:Nat}{e:ID} (h:x.2.1[j]?=some e):(qj f x)[j]?=some (((f:Int),(j:Int),()),e,()):=by
 unfold qj;rw[wJ,ads,h];simp
theorem sK:∀(l m:List FD) (n:Nat),jP n (l++m)=jP n l++jP (n+l.length) m
 | [],m,n=>by simp[jP]
 | x :: l,m,n=>by
   simp only[List.cons_append,jP,sK l m,Au,sV];rw[show n+1+l.length=n+(l.length+1) by omega]
theorem Wh{fs:List FD}{d:FD} (h:fs[k]?=some d):dM fs=dM (fs.take k)++(qj k d++jP (k+1) (fs.drop (k+1))):=by
 have hk:k < fs.length:=(A8.1 h).1;have e:fs=fs.take k++(d :: fs.drop (k+1)):=by
  have h2:=List.drop_eq_getElem_cons hk;rw[(A8.1 h).2]at h2;rw[<-h2,WJ]
 unfold dM
 conv=>lhs;rw[e]
 rw[sK];rw[show 0+(fs.take k).length=k by simp;omega]
 rfl
theorem Qs{fs:List FD}{d:FD} (h:fs[k]?=some d):dM (fs.take (k+1))=dM (fs.take k)++qj k d:=by
 have hk:k < fs.length:=(A8.1 h).1;rw[OJ,h];unfold dM;rw[sK];rw[show 0+(fs.take k).length=k by simp;omega]
 simp[jP]
theorem Wi{fs:List FD}{j:Nat}{d:FD}{e:ID} (h:fs[k]?=some d) (h2:d.2.1[j]?=some e):(dM fs)[(dM (fs.take k)).length+j]?=some (((k:Int),(j:Int),()),e,()):=by
 have hj:j < d.2.1.length:=(A8.1 h2).1;rw[Wh h,OH (by omega),WI (by rw[IK];omega)]
 rw[show(dM (fs.take k)).length+j - (dM (fs.take k)).length=j by omega]
 exact IL h2
noncomputable abbrev akz:MK:={ ss:=[oW],f:=λd=>.seq Tryz.prog [mO,lY] (dM d.1.2.2.2.1),pre:=λd=>d.1.2.2.2.1.length<=1000000/\∀x∈d.1.2.2.2.1,x.2.1.length<=1000000 }
abbrev aob:List (Nat×CT):=[]
abbrev akA(vs:List VD) (ms cs:List ByteArray) (fs:List FD) (ts:List SD):Nat->Option (St->jK):=λk=>match k with
 | 1=>some λ_=>.gen { α:=Nat,slots:=λk=>[(10,.c (.v (.int .i64 k)))],res:=λ_=>[],inv:=λk=>k<=fs.length,meas:=λk=>fs.length - k } λk=>(dM (fs.take k)).length
 | 4=>some λs=>.gen { α:=Nat,slots:=λk=>[(18,.c (.v (.int .i64 k)))],res:=λ_=>[],inv:=λk=>k<=(slotL lY s 16).length,meas:=λk=>(slotL lY s 16).length - k } λk=>(dM (fs.take (gq s 10).toNat)).length+k
 | _=>none
abbrev hlN:List (Nat×Nat×CT):=[]
abbrev mlN:List (Nat×MK):=[]
theorem afr(vs:List VD) (ms cs:List ByteArray) (fs:List FD) (ts:List SD) (l:Nat) (aG:akz.pre ((vs,ms,cs,fs,ts,()),())):
 let z2:=λ(x:Nat)=>dM (List.take x fs);let z1:=λ(x:Nat)=>dM (List.take (x:Int).toNat fs);let z3:=λ(x_1:Nat)=>(x_1:Int)+(1:Int);(∃x,x<=fs.length/\(z2 x).length=0/\(cI 0=cI (x:Int)/\True)/\([]:List dP)=[])/\∀(x:Nat),x<=fs.length->br (decide ((x:Int) < (fs.length:Int))) ((0<=(x:Int)/\(x:Int) < (fs.length:Int))/\∀(d:ByteArray×(lY.sl.pair Sh.unit).den),fs[(x:Int).toNat]?=some d->(∃x_1,x_1<=List.length (d.snd.fst)/\(z1 x).length+x_1=(z2 x).length/\(cI 0=cI (x_1:Int)/\True)/\sm [g0 (ak.blk 77 [SC.v (Value.string d.fst),SC.sl lY d.snd.fst])])/\∀(x_1:Nat),x_1<=List.length (d.snd.fst)->br (decide ((x_1:Int) < ((List.length d.snd.fst):Int))) ((0<=(x_1:Int)/\(x_1:Int) < ((List.length d.snd.fst):Int))/\∀(bJ:ID),d.snd.fst[(x_1:Int).toNat]?=some bJ->l=l/\(dM fs)[(z1 x).length+x_1]?=some (((x:Int),(x_1:Int),()),bJ,())/\(iR (z3 x_1)/\∃x',x'<=List.length (d.snd.fst)/\(z1 x).length+x'=(z1 x).length+x_1+1/\(cI (z3 x_1)=cI (x':Int)/\True)/\sm [g0 (ak.blk 77 [SC.v (Value.string d.fst),SC.sl lY d.snd.fst])]/\List.length (d.snd.fst) - x' < List.length (d.snd.fst) - x_1)/\True) (iR (z3 x)/\∃x',x'<=fs.length/\(z2 x').length=(z1 x).length+x_1/\(cI (z3 x)=cI (x':Int)/\True)/\([]:List dP)=[]/\fs.length - x' < fs.length - x)) ((z2 x).length=aN (dM fs)):=by
 conv=>zeta
 delta dP cI g0 sm I6 iR;have hp1:fs.length<=1000000:=aG.1;have hp2:∀x∈fs,x.2.1.length<=1000000:=aG.2;refine⟨⟨0,by omega,by simp[dM,jP],⟨rfl,trivial⟩,rfl⟩,λx hx=>ah.2 ⟨λh=>?_,λh=>?_⟩⟩
 .simp only[dN]at h;have hN:(x:Int).toNat=x:=by omega
  rw[hN];refine⟨by omega,λd hd=>?_⟩
  have hd:fs[x]?=some d:=by simpa using hd
  have hst:=Qs hd;refine⟨⟨0,Ji _,by omega,⟨rfl,trivial⟩,rfl⟩,λy hy=>ah.2 ⟨λh2=>?_,λh2=>?_⟩⟩
  .simp only[dN]at h2;refine⟨by omega,λe he=>?_⟩
   have he:d.2.1[y]?=some e:=by simpa using he
   refine⟨rfl,Wi hd he,⟨?_,y+1,?_,?_,⟨rfl,trivial⟩,rfl,?_⟩,trivial⟩
   .have:=hp2 d (gZ hd);exact ay.2 (by omega)
   .omega
   .omega
   .omega
  .simp only[eH]at h2;refine⟨ay.2 (by omega),x+1,by omega,?_,⟨rfl,trivial⟩,rfl,by omega⟩
   have hq:=hp2 d (gZ hd);have hy:y=d.2.1.length:=by omega
   rw[hst,kH,IK,hy]
 .simp only[eH]at h;rw[xg (by omega),bF]
theorem afs:Y3 Tryz.prog aS.gd 210 akz:=by
 intro d h lb hd hg cap;obtain⟨⟨vs,ms,cs,fs,ts,⟨⟩⟩,⟨⟩⟩:=d;exact Y8 (E:=Y4 Tryz.prog aS 32 aob ilN hlN mlN [] [] λ_=>none) (S9 (by kernel_rfl) au trivial trivial trivial trivial) rfl Tryz.func210 (body:=jM Tryz.f210) (by kernel_rfl) (by kernel_rfl) rfl rfl rfl rfl ⟨akA vs ms cs fs ts,λl=>cast (by kernel_rfl) (afr vs ms cs fs ts l hd)⟩ hg cap
noncomputable abbrev Kv:CT:={ ps:=[oW],pre:=λd=>d.1.2.2.2.1.length<=1000000/\∀x∈d.1.2.2.2.1,x.2.1.length<=1000000,res:=λd=>([],.one (.c (.abs (.seq Tryz.prog [mO,lY] (dM d.1.2.2.2.1))))) }
noncomputable abbrev aoc:List (Nat×MK):=[(210,akz)]
theorem aft(vs:List VD) (ms cs:List ByteArray) (fs:List FD) (ts:List SD) (aG:Kv.pre ((vs,ms,cs,fs,ts,()),())):
 let z1:=bg.one (SV.c (SC.abs (Gz.seq Tryz.prog [I6.pair (I6.pair Sh.unit),I6.pair (I6.pair (I6.pair (I6.pair (I6.pair (I6.pair mO)))))] (dM fs))));(fs.length<=1000000/\∀(x:ByteArray×(lY.sl.pair Sh.unit).den),x∈fs->List.length x.snd.fst<=1000000)/\rE z1 z1:=by
 conv=>zeta
 delta rE I6;exact⟨aG,rfl,rfl⟩
theorem aaq:aU aS.gd 189 Kv:=
 (nZ (cx:=aS) (n:=4) (cl:=[]) (il:=ilN) (hl:=hlN) (ml:=aoc) (rc:=[]) (lits:=[]) (suf:=[]) (by kernel_rfl) au trivial trivial trivial ⟨afs,trivial⟩ Tryz.func189 (by kernel_rfl) (by kernel_rfl) rfl (by kernel_rfl) (by kernel_rfl) (by simp) λd hd=>by
  obtain⟨⟨vs,ms,cs,fs,ts,⟨⟩⟩,⟨⟩⟩:=d;exact⟨λ_=>none,cast (by kernel_rfl) (aft vs ms cs fs ts hd)⟩).met
def sN(c:Int):Bool:=decide (97<=c/\c<=122\/65<=c/\c<=90)
abbrev ah5:CT:={ ps:=[.int .u8],pre:=λd=>True,res:=λd=>([],vB (sN d.1)) }
theorem afu(c:Int):
 qB (sN c) (decide (97<=c) && decide (c<=122) || decide (65<=c) && decide (c<=90)):=by
 delta qB;refine⟨rfl,?_⟩;rw[show sN c=(decide (97<=c) && decide (c<=122) || decide (65<=c) && decide (c<=90)) by unfold sN;rw[Gy];simp]
theorem aar:aU aS.gd 214 ah5:=
 jW (cx:=aS) (n:=17) (cl:=[]) au trivial Tryz.func214 λd hd=>by
  obtain⟨c,⟨⟩⟩:=d;exact⟨λ_=>none,cast (by kernel_rfl) (afu c)⟩
def bU(n:Int):Bool:=decide (-2147483648<=n/\n<=2147483647)
abbrev aas:CT:={ ps:=[.int .i64],pre:=λd=>True,res:=λd=>([],vB (bU d.1)) }
theorem afv(n:Int):
 qB (bU n) (decide ((-2147483648)<=n) && decide (n<=2147483647)):=by
 delta qB;refine⟨rfl,?_⟩;rw[show bU n=(decide (-2147483648<=n) && decide (n<=2147483647)) by unfold bU;rw[Gy];simp]
theorem NP:aU aS.gd 186 aas:=
 jW (cx:=aS) (n:=9) (cl:=[]) au trivial Tryz.func186 λd hd=>by
  obtain⟨n,⟨⟩⟩:=d;exact⟨λ_=>none,cast (by kernel_rfl) (afv n)⟩
abbrev Qu:CT:={ ps:=[.int .i64],pre:=λd=>True,res:=λd=>([],vB (bU d.1)) }
theorem afw(n:Int):
 qB (bU n) (decide ((-2147483648)<=n) && decide (n<=2147483647)):=by
 delta qB;refine⟨rfl,?_⟩;rw[show bU n=(decide (-2147483648<=n) && decide (n<=2147483647)) by unfold bU;rw[Gy];simp]
theorem NQ:aU aS.gd 134 Qu:=
 jW (cx:=aS) (n:=9) (cl:=[]) au trivial Tryz.func134 λd hd=>by
  obtain⟨n,⟨⟩⟩:=d;exact⟨λ_=>none,cast (by kernel_rfl) (afw n)⟩
def oZ(vs:List VD) (ms cs:List ByteArray) (fs:List FD) (op:Int):Int:=
 if op=8\/op=9\/op=10\/op=11\/op=12\/op=14 then vs.length else if op=15\/op=16\/op=17 then ms.length else if op=18\/op=19\/op=20 then cs.length else if op=21 then fs.length else -1
abbrev ah6:CT:={ ps:=[oW,.int .i64],pre:=λd=>True,res:=λd=>([],.one (.c (.v (.int .i64 (oZ d.1.1 d.1.2.1 d.1.2.2.1 d.1.2.2.2.1 d.2.1))))) }
theorem afx(vs:List VD) (ms cs:List ByteArray) (fs:List FD) (ts:List SD) (op:Int):
 let z7:=oZ vs ms cs fs op;let z4:=qI z7 (vs.length:Int);let z5:=qI z7 (ms.length:Int);let z6:=qI z7 (cs.length:Int);let z3:=br (decide (op=21)) (qI z7 (fs.length:Int)) (qI z7 (-1:Int));let z2:=br (decide (op=18)) (br (decide (op=18)) z6 z3) (br (decide (op=19)) (br (decide (op=19)) z6 z3) (br (decide (op=20)) z6 z3));let z1:=br (decide (op=15)) (br (decide (op=15)) z5 z2) (br (decide (op=16)) (br (decide (op=16)) z5 z2) (br (decide (op=17)) z5 z2));br (decide (op=8)) (br (decide (op=8)) z4 z1) (br (decide (op=9)) (br (decide (op=9)) z4 z1) (br (decide (op=10)) (br (decide (op=10)) z4 z1) (br (decide (op=11)) (br (decide (op=11)) z4 z1) (br (decide (op=12)) (br (decide (op=12)) z4 z1) (br (decide (op=14)) z4 z1))))):=by
 conv=>zeta
 delta qI;unfold oZ;simp only[ah]
 repeat' (first | (refine And.intro ?_ ?_) | (intro _))
 all_goals first | rfl | (simp_all;done) | (simp_all;omega) | grind
theorem aat:aU aS.gd 211 ah6:=
 jW (cx:=aS) (n:=35) (cl:=[]) au trivial Tryz.func211 λd hd=>by
  obtain⟨⟨vs,ms,cs,fs,ts,⟨⟩⟩,op,⟨⟩⟩:=d;exact⟨λ_=>none,cast (by kernel_rfl) (afx vs ms cs fs ts op)⟩
def iy(vs:List VD):List ByteArray:=vs.map λv=>v.1
def jw(fs:List FD):List ByteArray:=fs.map λf=>f.1
abbrev Qv:CT:={ ps:=[oW],pre:=λd=>d.1.1.length<=1000000,res:=λd=>([.row 9 .str (iy d.1.1)],.one (.c (.row 0))) }
abbrev akB(vs:List VD) (ms cs:List ByteArray) (fs:List FD) (ts:List SD):Nat->Option (St->jK):=λk=>match k with
 | 3=>some λ_=>.inv { α:=Nat,slots:=λk=>[(9,.c (.v (.int .i64 k))),(3,.c (.row 1))],res:=λk=>[(1,.row 9 .str (iy (vs.take k)))],inv:=λk=>k<=(vs).length,meas:=λk=>(vs).length - k,nil:=[(3,9,.str)] }
 | _=>none
theorem afy(vs:List VD) (ms cs:List ByteArray) (fs:List FD) (ts:List SD) (aG:Qv.pre ((vs,ms,cs,fs,ts,()),())):
 let z2:=[SC.sl Hg vs,SC.sl Sh.str ms,SC.sl Sh.str cs,SC.sl Dw fs,SC.sl mO ts];let z1:=λ(x:Nat)=>[g0 (ak.blk 27 z2),g0 (ak.row 9 Sh.str (iy (List.take x vs)))];(∃x,x<=vs.length/\(cI 0=cI (x:Int)/\SV.c (SC.row (Nat.succ 0))=SV.c (SC.row 1)/\True)/\[g0 (ak.blk 27 z2),g0 (ak.row 9 Sh.str [])]=(z1 x))/\∀(x:Nat),x<=vs.length->br (decide ((x:Int) < (vs.length:Int))) ((0<=(x:Int)/\(x:Int) < (vs.length:Int))/\∀(d:ByteArray×(I6.pair Sh.unit).den),vs[(x:Int).toNat]?=some d->oz (List.length (iy (List.take x vs))+List.length ([d.fst])) 16/\iR ((x:Int)+(1:Int))/\∃x',x'<=vs.length/\(cI ((x:Int)+(1:Int))=cI (x':Int)/\SV.c (SC.row 1)=SV.c (SC.row 1)/\True)/\[g0 (ak.blk 27 z2),g0 (ak.row 9 Sh.str (iy (List.take x vs)++[d.fst]))]=(z1 x')/\vs.length - x' < vs.length - x) ([ak.row 9 Sh.str (iy vs)]=[ak.row 9 Sh.str (iy (List.take x vs))]/\bg.one (SV.c (SC.row 0))=bg.one (SV.c (SC.row 0))):=by
 conv=>zeta
 delta cI g0 I6 iR;have hp:(vs).length<=1000000:=aG;refine⟨⟨0,by omega,⟨rfl,rfl,trivial⟩,rfl⟩,λk hk=>ah.2 ⟨λh=>?_,λh=>?_⟩⟩
 .simp only[dN]at h;refine⟨by omega,λd hd=>?_⟩
  have hd:(vs)[k]?=some d:=by simpa using hd
  have e:iy ((vs).take (k+1))=iy ((vs).take k)++[d.1]:=by
   unfold iy;rw[OJ,hd];simp
  refine⟨?_,ay.2 (by omega),k+1,by omega,⟨rfl,rfl,trivial⟩,?_,by omega⟩
  .have:(iy ((vs).take k)).length<=1000000:=by simp[iy];omega
   exact dZ.2 (by simp only[sV,Lp];omega)
  .rw[e]
 .simp only[eH]at h;rw[xg (by omega)];exact⟨rfl,rfl⟩
theorem aau:aU aS.gd 183 Qv:=
 jW (cx:=aS) (n:=20) (cl:=[]) au trivial Tryz.func183 λd hd=>by
  obtain⟨⟨vs,ms,cs,fs,ts,⟨⟩⟩,⟨⟩⟩:=d;exact⟨akB vs ms cs fs ts,cast (by kernel_rfl) (afy vs ms cs fs ts hd)⟩
abbrev Qw:CT:={ ps:=[oW],pre:=λd=>d.1.2.2.2.1.length<=1000000,res:=λd=>([.row 9 .str (jw d.1.2.2.2.1)],.one (.c (.row 0))) }
abbrev akC(vs:List VD) (ms cs:List ByteArray) (fs:List FD) (ts:List SD):Nat->Option (St->jK):=λk=>match k with
 | 3=>some λ_=>.inv { α:=Nat,slots:=λk=>[(9,.c (.v (.int .i64 k))),(3,.c (.row 1))],res:=λk=>[(1,.row 9 .str (jw (fs.take k)))],inv:=λk=>k<=(fs).length,meas:=λk=>(fs).length - k,nil:=[(3,9,.str)] }
 | _=>none
theorem afz(vs:List VD) (ms cs:List ByteArray) (fs:List FD) (ts:List SD) (aG:Qw.pre ((vs,ms,cs,fs,ts,()),())):
 let z2:=[SC.sl Hg vs,SC.sl Sh.str ms,SC.sl Sh.str cs,SC.sl Dw fs,SC.sl mO ts];let z1:=λ(x:Nat)=>[g0 (ak.blk 27 z2),g0 (ak.row 9 Sh.str (jw (List.take x fs)))];(∃x,x<=fs.length/\(cI 0=cI (x:Int)/\SV.c (SC.row (Nat.succ 0))=SV.c (SC.row 1)/\True)/\[g0 (ak.blk 27 z2),g0 (ak.row 9 Sh.str [])]=(z1 x))/\∀(x:Nat),x<=fs.length->br (decide ((x:Int) < (fs.length:Int))) ((0<=(x:Int)/\(x:Int) < (fs.length:Int))/\∀(d:ByteArray×(lY.sl.pair Sh.unit).den),fs[(x:Int).toNat]?=some d->oz (List.length (jw (List.take x fs))+List.length ([d.fst])) 16/\iR ((x:Int)+(1:Int))/\∃x',x'<=fs.length/\(cI ((x:Int)+(1:Int))=cI (x':Int)/\SV.c (SC.row 1)=SV.c (SC.row 1)/\True)/\[g0 (ak.blk 27 z2),g0 (ak.row 9 Sh.str (jw (List.take x fs)++[d.fst]))]=(z1 x')/\fs.length - x' < fs.length - x) ([ak.row 9 Sh.str (jw fs)]=[ak.row 9 Sh.str (jw (List.take x fs))]/\bg.one (SV.c (SC.row 0))=bg.one (SV.c (SC.row 0))):=by
 conv=>zeta
 delta cI g0 I6 iR;have hp:(fs).length<=1000000:=aG;refine⟨⟨0,by omega,⟨rfl,rfl,trivial⟩,rfl⟩,λk hk=>ah.2 ⟨λh=>?_,λh=>?_⟩⟩
 .simp only[dN]at h;refine⟨by omega,λd hd=>?_⟩
  have hd:(fs)[k]?=some d:=by simpa using hd
  have e:jw ((fs).take (k+1))=jw ((fs).take k)++[d.1]:=by
   unfold jw;rw[OJ,hd];simp
  refine⟨?_,ay.2 (by omega),k+1,by omega,⟨rfl,rfl,trivial⟩,?_,by omega⟩
  .have:(jw ((fs).take k)).length<=1000000:=by simp[jw];omega
   exact dZ.2 (by simp only[sV,Lp];omega)
  .rw[e]
 .simp only[eH]at h;rw[xg (by omega)];exact⟨rfl,rfl⟩
theorem aav:aU aS.gd 185 Qw:=
 jW (cx:=aS) (n:=20) (cl:=[]) au trivial Tryz.func185 λd hd=>by
  obtain⟨⟨vs,ms,cs,fs,ts,⟨⟩⟩,⟨⟩⟩:=d;exact⟨akC vs ms cs fs ts,cast (by kernel_rfl) (afz vs ms cs fs ts hd)⟩
def Hl(l:List ByteArray) (x:ByteArray):Int:=match l.findIdx? (λy=>decide (y=x)) with | some k=>(k:Int) | none=>-1
theorem Qx{l:List ByteArray}{x:ByteArray} (hd:l[k]?=some x) (hn:∀j < k,∀y,l[j]?=some y->y≠x):Hl l x=k:=by
 have gX:k < l.length:=(A8.1 hd).1;have:l.findIdx? (λy=>decide (y=x))=some k:=by
  rw[A52];refine⟨gX,by have:=(A8.1 hd).2;simp[this],λj hj=>?_⟩
  have:=hn j hj l[j] (kQ (by omega))
  simpa using this
 simp[Hl,this]
theorem Wj{l:List ByteArray}{x:ByteArray} (hn:∀(j:Nat) y,l[j]?=some y->y≠x):Hl l x = -1:=by
 have:l.findIdx? (λy=>decide (y=x))=none:=by
  rw[A75];intro y hy;obtain⟨j,hj⟩:=Ai hy;simpa using hn j y hj
 simp[Hl,this]
abbrev Qy:CT:={ ps:=[.sl .str,.str],pre:=λd=>d.1.length<=1000000,res:=λd=>([],.one (.c (.v (.int .i64 (Hl d.1 d.2.1))))) }
abbrev akD(l:List ByteArray) (x:ByteArray):Nat->Option (St->jK):=λk=>match k with
 | 2=>some λ_=>.inv { α:=Nat,slots:=λk=>[(8,.c (.v (.int .i64 k)))],res:=λk=>[],inv:=λk=>k<=(l).length/\∀j < k,∀y,l[j]?=some y->y≠x,meas:=λk=>(l).length - k }
 | _=>none
theorem afA(l:List ByteArray) (x:ByteArray) (aG:Qy.pre (l,x,())):
 let z1:=λ(x_1:Nat)=>(x_1<=l.length/\∀(j:Nat),j < x_1->∀(y:ByteArray),l[j]?=some y->y≠x);(∃x_1,(z1 x_1)/\(cI 0=cI (x_1:Int)/\True)/\([]:List dP)=[])/\∀(x_1:Nat),(z1 x_1)->br (decide ((x_1:Int) < (l.length:Int))) ((0<=(x_1:Int)/\(x_1:Int) < (l.length:Int))/\∀(d:ByteArray),l[(x_1:Int).toNat]?=some d->br (decide (x=d)) (qI (Hl l x) (x_1:Int)) (iR ((x_1:Int)+(1:Int))/\∃x',(x'<=l.length/\∀(j:Nat),j < x'->∀(y:ByteArray),l[j]?=some y->y≠x)/\(cI ((x_1:Int)+(1:Int))=cI (x':Int)/\True)/\([]:List dP)=[]/\l.length - x' < l.length - x_1)) (qI (Hl l x) (-1:Int)):=by
 conv=>zeta
 delta dP cI qI iR;refine⟨⟨0,⟨by omega,λj hj=>by omega⟩,⟨rfl,trivial⟩,rfl⟩,λk hk=>ah.2 ⟨λh=>?_,λh=>?_⟩⟩
 .simp only[dN]at h;have hp:l.length<=1000000:=aG;refine⟨by omega,λd hd=>?_⟩
  have hd:l[k]?=some d:=by simpa using hd
  refine ah.2 ⟨λhe=>?_,λhe=>⟨ay.2 (by omega),k+1,⟨by omega,λj hj y hy=>?_⟩,⟨rfl,trivial⟩,rfl,by omega⟩⟩
  .have he:x=d:=by simpa using he
   rw[Qx (by rw[hd,he]) hk.2];exact⟨rfl,rfl⟩
  .by_cases iY:j=k
   .subst iY;rw[hd]at hy;cases hy;intro hh;simp[hh]at he
   .exact hk.2 j (by omega) y hy
 .simp only[eH]at h;rw[Wj (λj y hy=>hk.2 j (by have:=(A8.1 hy).1;omega) y hy)];exact⟨rfl,rfl⟩
theorem aaw:aU aS.gd 215 Qy:=
 jW (cx:=aS) (n:=19) (cl:=[]) au trivial Tryz.func215 λd hd=>by
  obtain⟨l,x,⟨⟩⟩:=d;exact⟨akD l x,cast (by kernel_rfl) (afA l x hd)⟩
def uj(l:List ByteArray) (x:ByteArray):Bool:=l.any λy=>decide (y=x)
theorem aax(l:List ByteArray) (x:ByteArray):uj l x=decide (0<=Hl l x):=by
 have h:=List.findIdx?_isSome (xs:=l) (p:=λy=>decide (y=x))
 unfold uj Hl;rw[<-h];cases l.findIdx? (λy=>decide (y=x)) with
 | none=>rfl
 | some k=>simp
abbrev Qz:CT:={ ps:=[.sl .str,.str],pre:=λd=>d.1.length<=1000000,res:=λd=>([],vB (uj d.1 d.2.1)) }
theorem afB(l:List ByteArray) (x:ByteArray) (aG:Qz.pre (l,x,())):
 l.length<=1000000/\qB (uj l x) (decide (0<=Hl l x)):=by
 delta qB;refine⟨aG,rfl,?_⟩;rw[aax]
theorem aay:aU aS.gd 209 Qz:=
 jW (cx:=aS) (n:=9) (cl:=[(215,Qy)]) au ⟨aaw,trivial⟩ Tryz.func209 λd hd=>by
  obtain⟨l,x,⟨⟩⟩:=d;exact⟨λ_=>none,cast (by kernel_rfl) (afB l x hd)⟩
end Go.Proofs.YtjhenjhcbcalpaaGreatDoor
