/- Texts of this claim, part 6: T1, S0, C1, V1, K1, SH, V2, V4, V3. Conditions: those of the given rows. -/
import Derived.Test.YtjhenjhcbcalpaaGreatDoorB5
import Derived.Test.YtjhenjhcbcalpaaGreatDoorProg
import Derived.Shelf.Small.Bits
import Derived.Shelf.Strconv.Itoa0
import Derived.Shelf.Sort.Plain
import Derived.Shelf.Slices.Turned
import Derived.Shelf.Slices.Equal
import Derived.Ground.Names2Prog
import Derived.Shelf.Slices.Clone
import Derived.Shelf.Slices.CompactI
import Derived.Shelf.Slices.SearchI
import Derived.Shelf.Slices.Cells
import Derived.Shelf.Slices.In.SortNone
import Derived.Shelf.Slices.Empties2
import Derived.Ground.SlgnProg
import Derived.Shelf.SlicesE.Clone
set_option linter.unusedSimpArgs false
set_option linter.unusedVariables false
set_option maxRecDepth 1000000
set_option maxHeartbeats 8000000
namespace Go.Proofs.YtjhenjhcbcalpaaGreatDoor
open Go Go.mQ
abbrev aW:=Go.mQ.Met Tryz.prog
variable {l:List Int}
abbrev ti3:TI:={ desc:=.int .i64,size:=1,bytes:=8,zero:=[.int .i64 0],iU:=some (.int .i64) }
theorem ak4:aN Tryz.prog 3 ti3:=aN.of_eq (by kernel_rfl) (by kernel_rfl) rfl rfl (aJ (i:=ti3) (s0:=(.int .i64)) rfl rfl rfl rfl)
abbrev ti4:TI:={ desc:=.bool,size:=1,bytes:=1,zero:=[.bool false],iU:=some .bool }
theorem ak5:aN Tryz.prog 4 ti4:=aN.of_eq (by kernel_rfl) (by kernel_rfl) rfl rfl (aJ (i:=ti4) (s0:=.bool) rfl rfl rfl rfl)
abbrev ti5:TI:={ desc:=.int .u8,size:=1,bytes:=1,zero:=[.int .u8 0],iU:=some (.int .u8) }
theorem ak6:aN Tryz.prog 5 ti5:=aN.of_eq (by kernel_rfl) (by kernel_rfl) rfl rfl (aJ (i:=ti5) (s0:=(.int .u8)) rfl rfl rfl rfl)
abbrev ti9:TI:={ desc:=.string,size:=1,bytes:=16,zero:=[.string ⟨#[]⟩],iU:=some .str }
theorem ak7:aN Tryz.prog 9 ti9:=aN.of_eq (by kernel_rfl) (by kernel_rfl) rfl rfl (aJ (i:=ti9) (s0:=.str) rfl rfl rfl rfl)
abbrev ak8:TI:={ desc:=.int .i32,size:=1,bytes:=4,zero:=[.int .i32 0],iU:=some (.int .i32) }
theorem afJ:aN Tryz.prog 21 ak8:=aN.of_eq (by kernel_rfl) (by kernel_rfl) rfl rfl (aJ (i:=ak8) (s0:=(.int .i32)) rfl rfl rfl rfl)
abbrev ak9:TI:={ desc:=.slice 118,size:=1,bytes:=24,zero:=[.slice none 0 0],iU:=some (.sl (.pair .str (.pair (.int .i64) .unit))) }
theorem afK:aN Tryz.prog 22 ak9:=aN.of_eq (by kernel_rfl) (by kernel_rfl) rfl rfl (aJ (i:=ak9) (s0:=(.sl (.pair .str (.pair (.int .i64) .unit)))) rfl rfl rfl rfl)
abbrev ala:TI:={ desc:=.slice 9,size:=1,bytes:=24,zero:=[.slice none 0 0],iU:=some (.sl .str) }
theorem afL:aN Tryz.prog 23 ala:=aN.of_eq (by kernel_rfl) (by kernel_rfl) rfl rfl (aJ (i:=ala) (s0:=(.sl .str)) rfl rfl rfl rfl)
abbrev alb:TI:={ desc:=.slice 77,size:=1,bytes:=24,zero:=[.slice none 0 0],iU:=some (.sl (.pair .str (.pair (.sl (.pair (.int .i64) (.pair (.int .i64) (.pair (.int .i64) (.pair (.int .i64) (.pair (.int .i64) (.pair (.int .i64) (.pair (.int .i64) (.pair (.int .i64) .unit))))))))) .unit))) }
theorem afM:aN Tryz.prog 24 alb:=aN.of_eq (by kernel_rfl) (by kernel_rfl) rfl rfl (aJ (i:=alb) (s0:=(.sl (.pair .str (.pair (.sl (.pair (.int .i64) (.pair (.int .i64) (.pair (.int .i64) (.pair (.int .i64) (.pair (.int .i64) (.pair (.int .i64) (.pair (.int .i64) (.pair (.int .i64) .unit))))))))) .unit)))) rfl rfl rfl rfl)
abbrev alc:TI:={ desc:=.slice 82,size:=1,bytes:=24,zero:=[.slice none 0 0],iU:=some (.sl (.pair (.int .i64) (.pair (.int .i64) .unit))) }
theorem afN:aN Tryz.prog 25 alc:=aN.of_eq (by kernel_rfl) (by kernel_rfl) rfl rfl (aJ (i:=alc) (s0:=(.sl (.pair (.int .i64) (.pair (.int .i64) .unit)))) rfl rfl rfl rfl)
abbrev ald:TI:={ desc:=.struct #[dP 22 0,dP 23 1,dP 23 2,dP 24 3,dP 25 4],size:=5,bytes:=120,zero:=[.slice none 0 0,.slice none 0 0,.slice none 0 0,.slice none 0 0,.slice none 0 0],iU:=some (.pair (.sl (.pair .str (.pair (.int .i64) .unit))) (.pair (.sl .str) (.pair (.sl .str) (.pair (.sl (.pair .str (.pair (.sl (.pair (.int .i64) (.pair (.int .i64) (.pair (.int .i64) (.pair (.int .i64) (.pair (.int .i64) (.pair (.int .i64) (.pair (.int .i64) (.pair (.int .i64) .unit))))))))) .unit))) (.pair (.sl (.pair (.int .i64) (.pair (.int .i64) .unit))) .unit))))) }
theorem afO:aN Tryz.prog 26 ald:=aN.of_eq (by kernel_rfl) (by kernel_rfl) rfl rfl (aJ (i:=ald) (s0:=(.pair (.sl (.pair .str (.pair (.int .i64) .unit))) (.pair (.sl .str) (.pair (.sl .str) (.pair (.sl (.pair .str (.pair (.sl (.pair (.int .i64) (.pair (.int .i64) (.pair (.int .i64) (.pair (.int .i64) (.pair (.int .i64) (.pair (.int .i64) (.pair (.int .i64) (.pair (.int .i64) .unit))))))))) .unit))) (.pair (.sl (.pair (.int .i64) (.pair (.int .i64) .unit))) .unit)))))) rfl rfl rfl rfl)
abbrev ale:TI:={ desc:=.struct #[dP 22 0,dP 23 1,dP 23 2,dP 24 3,dP 25 4],size:=5,bytes:=120,zero:=[.slice none 0 0,.slice none 0 0,.slice none 0 0,.slice none 0 0,.slice none 0 0],iU:=some (.pair (.sl (.pair .str (.pair (.int .i64) .unit))) (.pair (.sl .str) (.pair (.sl .str) (.pair (.sl (.pair .str (.pair (.sl (.pair (.int .i64) (.pair (.int .i64) (.pair (.int .i64) (.pair (.int .i64) (.pair (.int .i64) (.pair (.int .i64) (.pair (.int .i64) (.pair (.int .i64) .unit))))))))) .unit))) (.pair (.sl (.pair (.int .i64) (.pair (.int .i64) .unit))) .unit))))) }
theorem afP:aN Tryz.prog 27 ale:=aN.of_eq (by kernel_rfl) (by kernel_rfl) rfl rfl (aJ (i:=ale) (s0:=(.pair (.sl (.pair .str (.pair (.int .i64) .unit))) (.pair (.sl .str) (.pair (.sl .str) (.pair (.sl (.pair .str (.pair (.sl (.pair (.int .i64) (.pair (.int .i64) (.pair (.int .i64) (.pair (.int .i64) (.pair (.int .i64) (.pair (.int .i64) (.pair (.int .i64) (.pair (.int .i64) .unit))))))))) .unit))) (.pair (.sl (.pair (.int .i64) (.pair (.int .i64) .unit))) .unit)))))) rfl rfl rfl rfl)
abbrev alf:TI:={ desc:=.slice 56,size:=1,bytes:=24,zero:=[.slice none 0 0],iU:=some (.sl (.pair (.int .i64) (.pair (.int .i64) (.pair (.int .i64) (.pair (.arr 8 (.int .i64)) (.pair (.int .i64) (.pair (.int .i64) (.pair (.int .i64) (.pair (.int .i64) (.pair (.int .i64) (.pair (.sl (.int .i64)) .unit))))))))))) }
theorem afQ:aN Tryz.prog 30 alf:=aN.of_eq (by kernel_rfl) (by kernel_rfl) rfl rfl (aJ (i:=alf) (s0:=(.sl (.pair (.int .i64) (.pair (.int .i64) (.pair (.int .i64) (.pair (.arr 8 (.int .i64)) (.pair (.int .i64) (.pair (.int .i64) (.pair (.int .i64) (.pair (.int .i64) (.pair (.int .i64) (.pair (.sl (.int .i64)) .unit)))))))))))) rfl rfl rfl rfl)
abbrev alg:TI:={ desc:=.slice 3,size:=1,bytes:=24,zero:=[.slice none 0 0],iU:=some (.sl (.int .i64)) }
theorem afR:aN Tryz.prog 31 alg:=aN.of_eq (by kernel_rfl) (by kernel_rfl) rfl rfl (aJ (i:=alg) (s0:=(.sl (.int .i64))) rfl rfl rfl rfl)
abbrev alh:TI:={ desc:=.slice 31,size:=1,bytes:=24,zero:=[.slice none 0 0],iU:=some (.sl (.sl (.int .i64))) }
theorem afS:aN Tryz.prog 32 alh:=aN.of_eq (by kernel_rfl) (by kernel_rfl) rfl rfl (aJ (i:=alh) (s0:=(.sl (.sl (.int .i64)))) rfl rfl rfl rfl)
abbrev ali:TI:={ desc:=.struct #[dP 31 0,dP 31 1,dP 32 2,dP 31 3],size:=4,bytes:=96,zero:=[.slice none 0 0,.slice none 0 0,.slice none 0 0,.slice none 0 0],iU:=some (.pair (.sl (.int .i64)) (.pair (.sl (.int .i64)) (.pair (.sl (.sl (.int .i64))) (.pair (.sl (.int .i64)) .unit)))) }
theorem afT:aN Tryz.prog 33 ali:=aN.of_eq (by kernel_rfl) (by kernel_rfl) rfl rfl (aJ (i:=ali) (s0:=(.pair (.sl (.int .i64)) (.pair (.sl (.int .i64)) (.pair (.sl (.sl (.int .i64))) (.pair (.sl (.int .i64)) .unit))))) rfl rfl rfl rfl)
abbrev alj:TI:={ desc:=.struct #[dP 31 0,dP 31 1,dP 32 2,dP 31 3],size:=4,bytes:=96,zero:=[.slice none 0 0,.slice none 0 0,.slice none 0 0,.slice none 0 0],iU:=some (.pair (.sl (.int .i64)) (.pair (.sl (.int .i64)) (.pair (.sl (.sl (.int .i64))) (.pair (.sl (.int .i64)) .unit)))) }
theorem afU:aN Tryz.prog 34 alj:=aN.of_eq (by kernel_rfl) (by kernel_rfl) rfl rfl (aJ (i:=alj) (s0:=(.pair (.sl (.int .i64)) (.pair (.sl (.int .i64)) (.pair (.sl (.sl (.int .i64))) (.pair (.sl (.int .i64)) .unit))))) rfl rfl rfl rfl)
abbrev alk:TI:={ desc:=.slice 65,size:=1,bytes:=24,zero:=[.slice none 0 0],iU:=some (.sl (.pair (.int .i64) (.pair (.int .i64) (.pair (.sl (.pair (.int .i64) (.pair (.int .i64) .unit))) .unit)))) }
theorem afV:aN Tryz.prog 35 alk:=aN.of_eq (by kernel_rfl) (by kernel_rfl) rfl rfl (aJ (i:=alk) (s0:=(.sl (.pair (.int .i64) (.pair (.int .i64) (.pair (.sl (.pair (.int .i64) (.pair (.int .i64) .unit))) .unit))))) rfl rfl rfl rfl)
abbrev alm:TI:={ desc:=.struct #[dP 30 0,dP 34 1,dP 35 5],size:=6,bytes:=144,zero:=[.slice none 0 0,.slice none 0 0,.slice none 0 0,.slice none 0 0,.slice none 0 0,.slice none 0 0],iU:=some (.pair (.sl (.pair (.int .i64) (.pair (.int .i64) (.pair (.int .i64) (.pair (.arr 8 (.int .i64)) (.pair (.int .i64) (.pair (.int .i64) (.pair (.int .i64) (.pair (.int .i64) (.pair (.int .i64) (.pair (.sl (.int .i64)) .unit))))))))))) (.pair (.pair (.sl (.int .i64)) (.pair (.sl (.int .i64)) (.pair (.sl (.sl (.int .i64))) (.pair (.sl (.int .i64)) .unit)))) (.pair (.sl (.pair (.int .i64) (.pair (.int .i64) (.pair (.sl (.pair (.int .i64) (.pair (.int .i64) .unit))) .unit)))) .unit))) }
theorem afW:aN Tryz.prog 36 alm:=aN.of_eq (by kernel_rfl) (by kernel_rfl) rfl rfl (aJ (i:=alm) (s0:=(.pair (.sl (.pair (.int .i64) (.pair (.int .i64) (.pair (.int .i64) (.pair (.arr 8 (.int .i64)) (.pair (.int .i64) (.pair (.int .i64) (.pair (.int .i64) (.pair (.int .i64) (.pair (.int .i64) (.pair (.sl (.int .i64)) .unit))))))))))) (.pair (.pair (.sl (.int .i64)) (.pair (.sl (.int .i64)) (.pair (.sl (.sl (.int .i64))) (.pair (.sl (.int .i64)) .unit)))) (.pair (.sl (.pair (.int .i64) (.pair (.int .i64) (.pair (.sl (.pair (.int .i64) (.pair (.int .i64) .unit))) .unit)))) .unit)))) rfl rfl rfl rfl)
abbrev aln:TI:={ desc:=.struct #[dP 30 0,dP 34 1,dP 35 5],size:=6,bytes:=144,zero:=[.slice none 0 0,.slice none 0 0,.slice none 0 0,.slice none 0 0,.slice none 0 0,.slice none 0 0],iU:=some (.pair (.sl (.pair (.int .i64) (.pair (.int .i64) (.pair (.int .i64) (.pair (.arr 8 (.int .i64)) (.pair (.int .i64) (.pair (.int .i64) (.pair (.int .i64) (.pair (.int .i64) (.pair (.int .i64) (.pair (.sl (.int .i64)) .unit))))))))))) (.pair (.pair (.sl (.int .i64)) (.pair (.sl (.int .i64)) (.pair (.sl (.sl (.int .i64))) (.pair (.sl (.int .i64)) .unit)))) (.pair (.sl (.pair (.int .i64) (.pair (.int .i64) (.pair (.sl (.pair (.int .i64) (.pair (.int .i64) .unit))) .unit)))) .unit))) }
theorem afX:aN Tryz.prog 37 aln:=aN.of_eq (by kernel_rfl) (by kernel_rfl) rfl rfl (aJ (i:=aln) (s0:=(.pair (.sl (.pair (.int .i64) (.pair (.int .i64) (.pair (.int .i64) (.pair (.arr 8 (.int .i64)) (.pair (.int .i64) (.pair (.int .i64) (.pair (.int .i64) (.pair (.int .i64) (.pair (.int .i64) (.pair (.sl (.int .i64)) .unit))))))))))) (.pair (.pair (.sl (.int .i64)) (.pair (.sl (.int .i64)) (.pair (.sl (.sl (.int .i64))) (.pair (.sl (.int .i64)) .unit)))) (.pair (.sl (.pair (.int .i64) (.pair (.int .i64) (.pair (.sl (.pair (.int .i64) (.pair (.int .i64) .unit))) .unit)))) .unit)))) rfl rfl rfl rfl)
abbrev alo:TI:={ desc:=.int .i64,size:=1,bytes:=8,zero:=[.int .i64 0],iU:=some (.int .i64) }
theorem afY:aN Tryz.prog 38 alo:=aN.of_eq (by kernel_rfl) (by kernel_rfl) rfl rfl (aJ (i:=alo) (s0:=(.int .i64)) rfl rfl rfl rfl)
abbrev alp:TI:={ desc:=.struct #[dP 27 0,dP 3 5,dP 3 6,dP 37 7],size:=13,bytes:=280,zero:=[.slice none 0 0,.slice none 0 0,.slice none 0 0,.slice none 0 0,.slice none 0 0,.int .i64 0,.int .i64 0,.slice none 0 0,.slice none 0 0,.slice none 0 0,.slice none 0 0,.slice none 0 0,.slice none 0 0],iU:=some (.pair (.pair (.sl (.pair .str (.pair (.int .i64) .unit))) (.pair (.sl .str) (.pair (.sl .str) (.pair (.sl (.pair .str (.pair (.sl (.pair (.int .i64) (.pair (.int .i64) (.pair (.int .i64) (.pair (.int .i64) (.pair (.int .i64) (.pair (.int .i64) (.pair (.int .i64) (.pair (.int .i64) .unit))))))))) .unit))) (.pair (.sl (.pair (.int .i64) (.pair (.int .i64) .unit))) .unit))))) (.pair (.int .i64) (.pair (.int .i64) (.pair (.pair (.sl (.pair (.int .i64) (.pair (.int .i64) (.pair (.int .i64) (.pair (.arr 8 (.int .i64)) (.pair (.int .i64) (.pair (.int .i64) (.pair (.int .i64) (.pair (.int .i64) (.pair (.int .i64) (.pair (.sl (.int .i64)) .unit))))))))))) (.pair (.pair (.sl (.int .i64)) (.pair (.sl (.int .i64)) (.pair (.sl (.sl (.int .i64))) (.pair (.sl (.int .i64)) .unit)))) (.pair (.sl (.pair (.int .i64) (.pair (.int .i64) (.pair (.sl (.pair (.int .i64) (.pair (.int .i64) .unit))) .unit)))) .unit))) .unit)))) }
theorem afZ:aN Tryz.prog 43 alp:=aN.of_eq (by kernel_rfl) (by kernel_rfl) rfl rfl (aJ (i:=alp) (s0:=(.pair (.pair (.sl (.pair .str (.pair (.int .i64) .unit))) (.pair (.sl .str) (.pair (.sl .str) (.pair (.sl (.pair .str (.pair (.sl (.pair (.int .i64) (.pair (.int .i64) (.pair (.int .i64) (.pair (.int .i64) (.pair (.int .i64) (.pair (.int .i64) (.pair (.int .i64) (.pair (.int .i64) .unit))))))))) .unit))) (.pair (.sl (.pair (.int .i64) (.pair (.int .i64) .unit))) .unit))))) (.pair (.int .i64) (.pair (.int .i64) (.pair (.pair (.sl (.pair (.int .i64) (.pair (.int .i64) (.pair (.int .i64) (.pair (.arr 8 (.int .i64)) (.pair (.int .i64) (.pair (.int .i64) (.pair (.int .i64) (.pair (.int .i64) (.pair (.int .i64) (.pair (.sl (.int .i64)) .unit))))))))))) (.pair (.pair (.sl (.int .i64)) (.pair (.sl (.int .i64)) (.pair (.sl (.sl (.int .i64))) (.pair (.sl (.int .i64)) .unit)))) (.pair (.sl (.pair (.int .i64) (.pair (.int .i64) (.pair (.sl (.pair (.int .i64) (.pair (.int .i64) .unit))) .unit)))) .unit))) .unit))))) rfl rfl rfl rfl)
abbrev alq:TI:={ desc:=.struct #[dP 27 0,dP 3 5,dP 3 6,dP 37 7],size:=13,bytes:=280,zero:=[.slice none 0 0,.slice none 0 0,.slice none 0 0,.slice none 0 0,.slice none 0 0,.int .i64 0,.int .i64 0,.slice none 0 0,.slice none 0 0,.slice none 0 0,.slice none 0 0,.slice none 0 0,.slice none 0 0],iU:=some (.pair (.pair (.sl (.pair .str (.pair (.int .i64) .unit))) (.pair (.sl .str) (.pair (.sl .str) (.pair (.sl (.pair .str (.pair (.sl (.pair (.int .i64) (.pair (.int .i64) (.pair (.int .i64) (.pair (.int .i64) (.pair (.int .i64) (.pair (.int .i64) (.pair (.int .i64) (.pair (.int .i64) .unit))))))))) .unit))) (.pair (.sl (.pair (.int .i64) (.pair (.int .i64) .unit))) .unit))))) (.pair (.int .i64) (.pair (.int .i64) (.pair (.pair (.sl (.pair (.int .i64) (.pair (.int .i64) (.pair (.int .i64) (.pair (.arr 8 (.int .i64)) (.pair (.int .i64) (.pair (.int .i64) (.pair (.int .i64) (.pair (.int .i64) (.pair (.int .i64) (.pair (.sl (.int .i64)) .unit))))))))))) (.pair (.pair (.sl (.int .i64)) (.pair (.sl (.int .i64)) (.pair (.sl (.sl (.int .i64))) (.pair (.sl (.int .i64)) .unit)))) (.pair (.sl (.pair (.int .i64) (.pair (.int .i64) (.pair (.sl (.pair (.int .i64) (.pair (.int .i64) .unit))) .unit)))) .unit))) .unit)))) }
theorem af0:aN Tryz.prog 44 alq:=aN.of_eq (by kernel_rfl) (by kernel_rfl) rfl rfl (aJ (i:=alq) (s0:=(.pair (.pair (.sl (.pair .str (.pair (.int .i64) .unit))) (.pair (.sl .str) (.pair (.sl .str) (.pair (.sl (.pair .str (.pair (.sl (.pair (.int .i64) (.pair (.int .i64) (.pair (.int .i64) (.pair (.int .i64) (.pair (.int .i64) (.pair (.int .i64) (.pair (.int .i64) (.pair (.int .i64) .unit))))))))) .unit))) (.pair (.sl (.pair (.int .i64) (.pair (.int .i64) .unit))) .unit))))) (.pair (.int .i64) (.pair (.int .i64) (.pair (.pair (.sl (.pair (.int .i64) (.pair (.int .i64) (.pair (.int .i64) (.pair (.arr 8 (.int .i64)) (.pair (.int .i64) (.pair (.int .i64) (.pair (.int .i64) (.pair (.int .i64) (.pair (.int .i64) (.pair (.sl (.int .i64)) .unit))))))))))) (.pair (.pair (.sl (.int .i64)) (.pair (.sl (.int .i64)) (.pair (.sl (.sl (.int .i64))) (.pair (.sl (.int .i64)) .unit)))) (.pair (.sl (.pair (.int .i64) (.pair (.int .i64) (.pair (.sl (.pair (.int .i64) (.pair (.int .i64) .unit))) .unit)))) .unit))) .unit))))) rfl rfl rfl rfl)
abbrev alr:TI:={ desc:=.int .i64,size:=1,bytes:=8,zero:=[.int .i64 0],iU:=some (.int .i64) }
theorem af2:aN Tryz.prog 46 alr:=aN.of_eq (by kernel_rfl) (by kernel_rfl) rfl rfl (aJ (i:=alr) (s0:=(.int .i64)) rfl rfl rfl rfl)
abbrev als:TI:={ desc:=.int .i64,size:=1,bytes:=8,zero:=[.int .i64 0],iU:=some (.int .i64) }
theorem af4:aN Tryz.prog 47 als:=aN.of_eq (by kernel_rfl) (by kernel_rfl) rfl rfl (aJ (i:=als) (s0:=(.int .i64)) rfl rfl rfl rfl)
abbrev alu:TI:={ desc:=.struct #[dP 3 0,dP 3 1,dP 46 2,dP 3 3,dP 3 4,dP 3 5,dP 47 6,dP 3 7,dP 3 8],size:=9,bytes:=72,zero:=[.int .i64 0,.int .i64 0,.int .i64 0,.int .i64 0,.int .i64 0,.int .i64 0,.int .i64 0,.int .i64 0,.int .i64 0],iU:=some (.pair (.int .i64) (.pair (.int .i64) (.pair (.int .i64) (.pair (.int .i64) (.pair (.int .i64) (.pair (.int .i64) (.pair (.int .i64) (.pair (.int .i64) (.pair (.int .i64) .unit))))))))),BQ:=[.i,.i,.i,.i,.i,.i,.i,.i,.i] }
theorem af5:aN Tryz.prog 48 alu:=aN.of_eq (by kernel_rfl) (by kernel_rfl) rfl rfl (aJ (i:=alu) (s0:=(.pair (.int .i64) (.pair (.int .i64) (.pair (.int .i64) (.pair (.int .i64) (.pair (.int .i64) (.pair (.int .i64) (.pair (.int .i64) (.pair (.int .i64) (.pair (.int .i64) .unit)))))))))) rfl rfl rfl rfl) (λ_=>by kernel_rfl)
abbrev alv:TI:={ desc:=.struct #[dP 3 0,dP 3 1,dP 46 2,dP 3 3,dP 3 4,dP 3 5,dP 47 6,dP 3 7,dP 3 8],size:=9,bytes:=72,zero:=[.int .i64 0,.int .i64 0,.int .i64 0,.int .i64 0,.int .i64 0,.int .i64 0,.int .i64 0,.int .i64 0,.int .i64 0],iU:=some (.pair (.int .i64) (.pair (.int .i64) (.pair (.int .i64) (.pair (.int .i64) (.pair (.int .i64) (.pair (.int .i64) (.pair (.int .i64) (.pair (.int .i64) (.pair (.int .i64) .unit))))))))),BQ:=[.i,.i,.i,.i,.i,.i,.i,.i,.i] }
theorem af6:aN Tryz.prog 49 alv:=aN.of_eq (by kernel_rfl) (by kernel_rfl) rfl rfl (aJ (i:=alv) (s0:=(.pair (.int .i64) (.pair (.int .i64) (.pair (.int .i64) (.pair (.int .i64) (.pair (.int .i64) (.pair (.int .i64) (.pair (.int .i64) (.pair (.int .i64) (.pair (.int .i64) .unit)))))))))) rfl rfl rfl rfl) (λ_=>by kernel_rfl)
abbrev alx:TI:={ desc:=.array 8 3,size:=8,bytes:=64,zero:=[.int .i64 0,.int .i64 0,.int .i64 0,.int .i64 0,.int .i64 0,.int .i64 0,.int .i64 0,.int .i64 0],iU:=some (.arr 8 (.int .i64)),BQ:=[.i] }
theorem af7:aN Tryz.prog 52 alx:=aN.of_eq (by kernel_rfl) (by kernel_rfl) rfl rfl (aJ (i:=alx) (s0:=(.arr 8 (.int .i64))) rfl rfl rfl rfl) (λ_=>by kernel_rfl)
abbrev aly:TI:={ desc:=.int .i64,size:=1,bytes:=8,zero:=[.int .i64 0],iU:=some (.int .i64) }
theorem af8:aN Tryz.prog 53 aly:=aN.of_eq (by kernel_rfl) (by kernel_rfl) rfl rfl (aJ (i:=aly) (s0:=(.int .i64)) rfl rfl rfl rfl)
abbrev alz:TI:={ desc:=.int .i64,size:=1,bytes:=8,zero:=[.int .i64 0],iU:=some (.int .i64) }
theorem af9:aN Tryz.prog 54 alz:=aN.of_eq (by kernel_rfl) (by kernel_rfl) rfl rfl (aJ (i:=alz) (s0:=(.int .i64)) rfl rfl rfl rfl)
abbrev alA:TI:={ desc:=.struct #[dP 3 0,dP 3 1,dP 3 2,dP 52 3,dP 3 11,dP 3 12,dP 53 13,dP 54 14,dP 38 15,dP 31 16],size:=17,bytes:=152,zero:=[.int .i64 0,.int .i64 0,.int .i64 0,.int .i64 0,.int .i64 0,.int .i64 0,.int .i64 0,.int .i64 0,.int .i64 0,.int .i64 0,.int .i64 0,.int .i64 0,.int .i64 0,.int .i64 0,.int .i64 0,.int .i64 0,.slice none 0 0],iU:=some (.pair (.int .i64) (.pair (.int .i64) (.pair (.int .i64) (.pair (.arr 8 (.int .i64)) (.pair (.int .i64) (.pair (.int .i64) (.pair (.int .i64) (.pair (.int .i64) (.pair (.int .i64) (.pair (.sl (.int .i64)) .unit)))))))))) }
theorem aga:aN Tryz.prog 55 alA:=aN.of_eq (by kernel_rfl) (by kernel_rfl) rfl rfl (aJ (i:=alA) (s0:=(.pair (.int .i64) (.pair (.int .i64) (.pair (.int .i64) (.pair (.arr 8 (.int .i64)) (.pair (.int .i64) (.pair (.int .i64) (.pair (.int .i64) (.pair (.int .i64) (.pair (.int .i64) (.pair (.sl (.int .i64)) .unit))))))))))) rfl rfl rfl rfl)
abbrev alB:TI:={ desc:=.struct #[dP 3 0,dP 3 1,dP 3 2,dP 52 3,dP 3 11,dP 3 12,dP 53 13,dP 54 14,dP 38 15,dP 31 16],size:=17,bytes:=152,zero:=[.int .i64 0,.int .i64 0,.int .i64 0,.int .i64 0,.int .i64 0,.int .i64 0,.int .i64 0,.int .i64 0,.int .i64 0,.int .i64 0,.int .i64 0,.int .i64 0,.int .i64 0,.int .i64 0,.int .i64 0,.int .i64 0,.slice none 0 0],iU:=some (.pair (.int .i64) (.pair (.int .i64) (.pair (.int .i64) (.pair (.arr 8 (.int .i64)) (.pair (.int .i64) (.pair (.int .i64) (.pair (.int .i64) (.pair (.int .i64) (.pair (.int .i64) (.pair (.sl (.int .i64)) .unit)))))))))) }
theorem agb:aN Tryz.prog 56 alB:=aN.of_eq (by kernel_rfl) (by kernel_rfl) rfl rfl (aJ (i:=alB) (s0:=(.pair (.int .i64) (.pair (.int .i64) (.pair (.int .i64) (.pair (.arr 8 (.int .i64)) (.pair (.int .i64) (.pair (.int .i64) (.pair (.int .i64) (.pair (.int .i64) (.pair (.int .i64) (.pair (.sl (.int .i64)) .unit))))))))))) rfl rfl rfl rfl)
abbrev alC:TI:={ desc:=.slice 67,size:=1,bytes:=24,zero:=[.slice none 0 0],iU:=some (.sl (.pair (.int .i64) (.pair (.int .i64) .unit))) }
theorem agc:aN Tryz.prog 63 alC:=aN.of_eq (by kernel_rfl) (by kernel_rfl) rfl rfl (aJ (i:=alC) (s0:=(.sl (.pair (.int .i64) (.pair (.int .i64) .unit)))) rfl rfl rfl rfl)
abbrev alD:TI:={ desc:=.struct #[dP 3 0,dP 3 1,dP 63 2],size:=3,bytes:=40,zero:=[.int .i64 0,.int .i64 0,.slice none 0 0],iU:=some (.pair (.int .i64) (.pair (.int .i64) (.pair (.sl (.pair (.int .i64) (.pair (.int .i64) .unit))) .unit))) }
theorem agd:aN Tryz.prog 64 alD:=aN.of_eq (by kernel_rfl) (by kernel_rfl) rfl rfl (aJ (i:=alD) (s0:=(.pair (.int .i64) (.pair (.int .i64) (.pair (.sl (.pair (.int .i64) (.pair (.int .i64) .unit))) .unit)))) rfl rfl rfl rfl)
abbrev alE:TI:={ desc:=.struct #[dP 3 0,dP 3 1,dP 63 2],size:=3,bytes:=40,zero:=[.int .i64 0,.int .i64 0,.slice none 0 0],iU:=some (.pair (.int .i64) (.pair (.int .i64) (.pair (.sl (.pair (.int .i64) (.pair (.int .i64) .unit))) .unit))) }
theorem agf:aN Tryz.prog 65 alE:=aN.of_eq (by kernel_rfl) (by kernel_rfl) rfl rfl (aJ (i:=alE) (s0:=(.pair (.int .i64) (.pair (.int .i64) (.pair (.sl (.pair (.int .i64) (.pair (.int .i64) .unit))) .unit)))) rfl rfl rfl rfl)
abbrev alF:TI:={ desc:=.struct #[dP 3 0,dP 3 1],size:=2,bytes:=16,zero:=[.int .i64 0,.int .i64 0],iU:=some (.pair (.int .i64) (.pair (.int .i64) .unit)),BQ:=[.i,.i] }
theorem agh:aN Tryz.prog 66 alF:=aN.of_eq (by kernel_rfl) (by kernel_rfl) rfl rfl (aJ (i:=alF) (s0:=(.pair (.int .i64) (.pair (.int .i64) .unit))) rfl rfl rfl rfl) (λ_=>by kernel_rfl)
abbrev alG:TI:={ desc:=.struct #[dP 3 0,dP 3 1],size:=2,bytes:=16,zero:=[.int .i64 0,.int .i64 0],iU:=some (.pair (.int .i64) (.pair (.int .i64) .unit)),BQ:=[.i,.i] }
theorem agi:aN Tryz.prog 67 alG:=aN.of_eq (by kernel_rfl) (by kernel_rfl) rfl rfl (aJ (i:=alG) (s0:=(.pair (.int .i64) (.pair (.int .i64) .unit))) rfl rfl rfl rfl) (λ_=>by kernel_rfl)
abbrev alH:TI:={ desc:=.slice 91,size:=1,bytes:=24,zero:=[.slice none 0 0],iU:=some (.sl (.pair (.int .i64) (.pair (.int .i64) (.pair (.int .i64) (.pair (.int .i64) (.pair (.int .i64) (.pair (.int .i64) (.pair (.int .i64) (.pair (.int .i64) .unit))))))))) }
theorem agj:aN Tryz.prog 75 alH:=aN.of_eq (by kernel_rfl) (by kernel_rfl) rfl rfl (aJ (i:=alH) (s0:=(.sl (.pair (.int .i64) (.pair (.int .i64) (.pair (.int .i64) (.pair (.int .i64) (.pair (.int .i64) (.pair (.int .i64) (.pair (.int .i64) (.pair (.int .i64) .unit)))))))))) rfl rfl rfl rfl)
abbrev alI:TI:={ desc:=.struct #[dP 9 0,dP 75 1],size:=2,bytes:=40,zero:=[.string ⟨#[]⟩,.slice none 0 0],iU:=some (.pair .str (.pair (.sl (.pair (.int .i64) (.pair (.int .i64) (.pair (.int .i64) (.pair (.int .i64) (.pair (.int .i64) (.pair (.int .i64) (.pair (.int .i64) (.pair (.int .i64) .unit))))))))) .unit)) }
theorem agk:aN Tryz.prog 76 alI:=aN.of_eq (by kernel_rfl) (by kernel_rfl) rfl rfl (aJ (i:=alI) (s0:=(.pair .str (.pair (.sl (.pair (.int .i64) (.pair (.int .i64) (.pair (.int .i64) (.pair (.int .i64) (.pair (.int .i64) (.pair (.int .i64) (.pair (.int .i64) (.pair (.int .i64) .unit))))))))) .unit))) rfl rfl rfl rfl)
abbrev alJ:TI:={ desc:=.struct #[dP 9 0,dP 75 1],size:=2,bytes:=40,zero:=[.string ⟨#[]⟩,.slice none 0 0],iU:=some (.pair .str (.pair (.sl (.pair (.int .i64) (.pair (.int .i64) (.pair (.int .i64) (.pair (.int .i64) (.pair (.int .i64) (.pair (.int .i64) (.pair (.int .i64) (.pair (.int .i64) .unit))))))))) .unit)) }
theorem agl:aN Tryz.prog 77 alJ:=aN.of_eq (by kernel_rfl) (by kernel_rfl) rfl rfl (aJ (i:=alJ) (s0:=(.pair .str (.pair (.sl (.pair (.int .i64) (.pair (.int .i64) (.pair (.int .i64) (.pair (.int .i64) (.pair (.int .i64) (.pair (.int .i64) (.pair (.int .i64) (.pair (.int .i64) .unit))))))))) .unit))) rfl rfl rfl rfl)
abbrev alK:TI:={ desc:=.struct #[dP 3 0,dP 3 1],size:=2,bytes:=16,zero:=[.int .i64 0,.int .i64 0],iU:=some (.pair (.int .i64) (.pair (.int .i64) .unit)),BQ:=[.i,.i] }
theorem agm:aN Tryz.prog 81 alK:=aN.of_eq (by kernel_rfl) (by kernel_rfl) rfl rfl (aJ (i:=alK) (s0:=(.pair (.int .i64) (.pair (.int .i64) .unit))) rfl rfl rfl rfl) (λ_=>by kernel_rfl)
abbrev alL:TI:={ desc:=.struct #[dP 3 0,dP 3 1],size:=2,bytes:=16,zero:=[.int .i64 0,.int .i64 0],iU:=some (.pair (.int .i64) (.pair (.int .i64) .unit)),BQ:=[.i,.i] }
theorem agn:aN Tryz.prog 82 alL:=aN.of_eq (by kernel_rfl) (by kernel_rfl) rfl rfl (aJ (i:=alL) (s0:=(.pair (.int .i64) (.pair (.int .i64) .unit))) rfl rfl rfl rfl) (λ_=>by kernel_rfl)
abbrev alM:TI:={ desc:=.int .i64,size:=1,bytes:=8,zero:=[.int .i64 0],iU:=some (.int .i64) }
theorem agp:aN Tryz.prog 88 alM:=aN.of_eq (by kernel_rfl) (by kernel_rfl) rfl rfl (aJ (i:=alM) (s0:=(.int .i64)) rfl rfl rfl rfl)
abbrev alN:TI:={ desc:=.int .i64,size:=1,bytes:=8,zero:=[.int .i64 0],iU:=some (.int .i64) }
theorem agq:aN Tryz.prog 89 alN:=aN.of_eq (by kernel_rfl) (by kernel_rfl) rfl rfl (aJ (i:=alN) (s0:=(.int .i64)) rfl rfl rfl rfl)
abbrev alO:TI:={ desc:=.struct #[dP 88 0,dP 3 1,dP 3 2,dP 3 3,dP 3 4,dP 3 5,dP 89 6,dP 47 7],size:=8,bytes:=64,zero:=[.int .i64 0,.int .i64 0,.int .i64 0,.int .i64 0,.int .i64 0,.int .i64 0,.int .i64 0,.int .i64 0],iU:=some (.pair (.int .i64) (.pair (.int .i64) (.pair (.int .i64) (.pair (.int .i64) (.pair (.int .i64) (.pair (.int .i64) (.pair (.int .i64) (.pair (.int .i64) .unit)))))))),BQ:=[.i,.i,.i,.i,.i,.i,.i,.i] }
theorem agr:aN Tryz.prog 90 alO:=aN.of_eq (by kernel_rfl) (by kernel_rfl) rfl rfl (aJ (i:=alO) (s0:=(.pair (.int .i64) (.pair (.int .i64) (.pair (.int .i64) (.pair (.int .i64) (.pair (.int .i64) (.pair (.int .i64) (.pair (.int .i64) (.pair (.int .i64) .unit))))))))) rfl rfl rfl rfl) (λ_=>by kernel_rfl)
abbrev alP:TI:={ desc:=.struct #[dP 88 0,dP 3 1,dP 3 2,dP 3 3,dP 3 4,dP 3 5,dP 89 6,dP 47 7],size:=8,bytes:=64,zero:=[.int .i64 0,.int .i64 0,.int .i64 0,.int .i64 0,.int .i64 0,.int .i64 0,.int .i64 0,.int .i64 0],iU:=some (.pair (.int .i64) (.pair (.int .i64) (.pair (.int .i64) (.pair (.int .i64) (.pair (.int .i64) (.pair (.int .i64) (.pair (.int .i64) (.pair (.int .i64) .unit)))))))),BQ:=[.i,.i,.i,.i,.i,.i,.i,.i] }
theorem ags:aN Tryz.prog 91 alP:=aN.of_eq (by kernel_rfl) (by kernel_rfl) rfl rfl (aJ (i:=alP) (s0:=(.pair (.int .i64) (.pair (.int .i64) (.pair (.int .i64) (.pair (.int .i64) (.pair (.int .i64) (.pair (.int .i64) (.pair (.int .i64) (.pair (.int .i64) .unit))))))))) rfl rfl rfl rfl) (λ_=>by kernel_rfl)
abbrev aaC:TI:={ desc:=.struct #[dP 9 0,dP 3 1],size:=2,bytes:=24,zero:=[.string ⟨#[]⟩,.int .i64 0],iU:=some (.pair .str (.pair (.int .i64) .unit)),BQ:=[.s,.i] }
theorem aaD:aN Tryz.prog 117 aaC:=aN.of_eq (by kernel_rfl) (by kernel_rfl) rfl rfl (aJ (i:=aaC) (s0:=(.pair .str (.pair (.int .i64) .unit))) rfl rfl rfl rfl) (λ_=>by kernel_rfl)
abbrev aaE:TI:={ desc:=.struct #[dP 9 0,dP 3 1],size:=2,bytes:=24,zero:=[.string ⟨#[]⟩,.int .i64 0],iU:=some (.pair .str (.pair (.int .i64) .unit)),BQ:=[.s,.i] }
theorem aaF:aN Tryz.prog 118 aaE:=aN.of_eq (by kernel_rfl) (by kernel_rfl) rfl rfl (aJ (i:=aaE) (s0:=(.pair .str (.pair (.int .i64) .unit))) rfl rfl rfl rfl) (λ_=>by kernel_rfl)
abbrev aaG:TI:={ desc:=.int .i64,size:=1,bytes:=8,zero:=[.int .i64 0],iU:=some (.int .i64) }
theorem aaH:aN Tryz.prog 151 aaG:=aN.of_eq (by kernel_rfl) (by kernel_rfl) rfl rfl (aJ (i:=aaG) (s0:=(.int .i64)) rfl rfl rfl rfl)
abbrev aaI:TI:={ desc:=.struct #[dP 3 0,dP 4 1,dP 3 2,dP 3 3,dP 4 4,dP 3 5,dP 151 6,dP 4 7],size:=8,bytes:=64,zero:=[.int .i64 0,.bool false,.int .i64 0,.int .i64 0,.bool false,.int .i64 0,.int .i64 0,.bool false],iU:=some (.pair (.int .i64) (.pair .bool (.pair (.int .i64) (.pair (.int .i64) (.pair .bool (.pair (.int .i64) (.pair (.int .i64) (.pair .bool .unit)))))))),BQ:=[.i,.b,.i,.i,.b,.i,.i,.b] }
theorem aaJ:aN Tryz.prog 152 aaI:=aN.of_eq (by kernel_rfl) (by kernel_rfl) rfl rfl (aJ (i:=aaI) (s0:=(.pair (.int .i64) (.pair .bool (.pair (.int .i64) (.pair (.int .i64) (.pair .bool (.pair (.int .i64) (.pair (.int .i64) (.pair .bool .unit))))))))) rfl rfl rfl rfl) (λ_=>by kernel_rfl)
abbrev aaK:TI:={ desc:=.struct #[dP 3 0,dP 4 1,dP 3 2,dP 3 3,dP 4 4,dP 3 5,dP 151 6,dP 4 7],size:=8,bytes:=64,zero:=[.int .i64 0,.bool false,.int .i64 0,.int .i64 0,.bool false,.int .i64 0,.int .i64 0,.bool false],iU:=some (.pair (.int .i64) (.pair .bool (.pair (.int .i64) (.pair (.int .i64) (.pair .bool (.pair (.int .i64) (.pair (.int .i64) (.pair .bool .unit)))))))),BQ:=[.i,.b,.i,.i,.b,.i,.i,.b] }
theorem aaL:aN Tryz.prog 153 aaK:=aN.of_eq (by kernel_rfl) (by kernel_rfl) rfl rfl (aJ (i:=aaK) (s0:=(.pair (.int .i64) (.pair .bool (.pair (.int .i64) (.pair (.int .i64) (.pair .bool (.pair (.int .i64) (.pair (.int .i64) (.pair .bool .unit))))))))) rfl rfl rfl rfl) (λ_=>by kernel_rfl)
abbrev aaM:TI:={ desc:=.array 17 153,size:=136,bytes:=1088,zero:=[.int .i64 0,.bool false,.int .i64 0,.int .i64 0,.bool false,.int .i64 0,.int .i64 0,.bool false,.int .i64 0,.bool false,.int .i64 0,.int .i64 0,.bool false,.int .i64 0,.int .i64 0,.bool false,.int .i64 0,.bool false,.int .i64 0,.int .i64 0,.bool false,.int .i64 0,.int .i64 0,.bool false,.int .i64 0,.bool false,.int .i64 0,.int .i64 0,.bool false,.int .i64 0,.int .i64 0,.bool false,.int .i64 0,.bool false,.int .i64 0,.int .i64 0,.bool false,.int .i64 0,.int .i64 0,.bool false,.int .i64 0,.bool false,.int .i64 0,.int .i64 0,.bool false,.int .i64 0,.int .i64 0,.bool false,.int .i64 0,.bool false,.int .i64 0,.int .i64 0,.bool false,.int .i64 0,.int .i64 0,.bool false,.int .i64 0,.bool false,.int .i64 0,.int .i64 0,.bool false,.int .i64 0,.int .i64 0,.bool false,.int .i64 0,.bool false,.int .i64 0,.int .i64 0,.bool false,.int .i64 0,.int .i64 0,.bool false,.int .i64 0,.bool false,.int .i64 0,.int .i64 0,.bool false,.int .i64 0,.int .i64 0,.bool false,.int .i64 0,.bool false,.int .i64 0,.int .i64 0,.bool false,.int .i64 0,.int .i64 0,.bool false,.int .i64 0,.bool false,.int .i64 0,.int .i64 0,.bool false,.int .i64 0,.int .i64 0,.bool false,.int .i64 0,.bool false,.int .i64 0,.int .i64 0,.bool false,.int .i64 0,.int .i64 0,.bool false,.int .i64 0,.bool false,.int .i64 0,.int .i64 0,.bool false,.int .i64 0,.int .i64 0,.bool false,.int .i64 0,.bool false,.int .i64 0,.int .i64 0,.bool false,.int .i64 0,.int .i64 0,.bool false,.int .i64 0,.bool false,.int .i64 0,.int .i64 0,.bool false,.int .i64 0,.int .i64 0,.bool false,.int .i64 0,.bool false,.int .i64 0,.int .i64 0,.bool false,.int .i64 0,.int .i64 0,.bool false],iU:=some (.arr 17 (.pair (.int .i64) (.pair .bool (.pair (.int .i64) (.pair (.int .i64) (.pair .bool (.pair (.int .i64) (.pair (.int .i64) (.pair .bool .unit))))))))) }
theorem aaN:aN Tryz.prog 154 aaM:=aN.of_eq (by kernel_rfl) (by kernel_rfl) rfl rfl (aJ (i:=aaM) (s0:=(.arr 17 (.pair (.int .i64) (.pair .bool (.pair (.int .i64) (.pair (.int .i64) (.pair .bool (.pair (.int .i64) (.pair (.int .i64) (.pair .bool .unit)))))))))) rfl rfl rfl rfl)
abbrev aaO:TI:={ desc:=.slice 158,size:=1,bytes:=24,zero:=[.slice none 0 0],iU:=some (.sl (.pair (.int .i64) (.pair (.int .i64) (.pair (.int .i64) (.pair .bool .unit))))) }
theorem aaP:aN Tryz.prog 155 aaO:=aN.of_eq (by kernel_rfl) (by kernel_rfl) rfl rfl (aJ (i:=aaO) (s0:=(.sl (.pair (.int .i64) (.pair (.int .i64) (.pair (.int .i64) (.pair .bool .unit)))))) rfl rfl rfl rfl)
abbrev aaQ:TI:={ desc:=.struct #[dP 151 0,dP 3 1,dP 3 2,dP 4 3],size:=4,bytes:=32,zero:=[.int .i64 0,.int .i64 0,.int .i64 0,.bool false],iU:=some (.pair (.int .i64) (.pair (.int .i64) (.pair (.int .i64) (.pair .bool .unit)))),BQ:=[.i,.i,.i,.b] }
theorem aaR:aN Tryz.prog 157 aaQ:=aN.of_eq (by kernel_rfl) (by kernel_rfl) rfl rfl (aJ (i:=aaQ) (s0:=(.pair (.int .i64) (.pair (.int .i64) (.pair (.int .i64) (.pair .bool .unit))))) rfl rfl rfl rfl) (λ_=>by kernel_rfl)
abbrev aaS:TI:={ desc:=.struct #[dP 151 0,dP 3 1,dP 3 2,dP 4 3],size:=4,bytes:=32,zero:=[.int .i64 0,.int .i64 0,.int .i64 0,.bool false],iU:=some (.pair (.int .i64) (.pair (.int .i64) (.pair (.int .i64) (.pair .bool .unit)))),BQ:=[.i,.i,.i,.b] }
theorem aaT:aN Tryz.prog 158 aaS:=aN.of_eq (by kernel_rfl) (by kernel_rfl) rfl rfl (aJ (i:=aaS) (s0:=(.pair (.int .i64) (.pair (.int .i64) (.pair (.int .i64) (.pair .bool .unit))))) rfl rfl rfl rfl) (λ_=>by kernel_rfl)
abbrev aaU:TI:={ desc:=.slice 4,size:=1,bytes:=24,zero:=[.slice none 0 0],iU:=some (.sl .bool) }
theorem aaV:aN Tryz.prog 159 aaU:=aN.of_eq (by kernel_rfl) (by kernel_rfl) rfl rfl (aJ (i:=aaU) (s0:=(.sl .bool)) rfl rfl rfl rfl)
abbrev aaW:TI:={ desc:=.struct #[dP 3 0,dP 3 1],size:=2,bytes:=16,zero:=[.int .i64 0,.int .i64 0],iU:=some (.pair (.int .i64) (.pair (.int .i64) .unit)),BQ:=[.i,.i] }
theorem aaX:aN Tryz.prog 161 aaW:=aN.of_eq (by kernel_rfl) (by kernel_rfl) rfl rfl (aJ (i:=aaW) (s0:=(.pair (.int .i64) (.pair (.int .i64) .unit))) rfl rfl rfl rfl) (λ_=>by kernel_rfl)
abbrev aaY:TI:={ desc:=.struct #[dP 3 0,dP 3 1],size:=2,bytes:=16,zero:=[.int .i64 0,.int .i64 0],iU:=some (.pair (.int .i64) (.pair (.int .i64) .unit)),BQ:=[.i,.i] }
theorem aaZ:aN Tryz.prog 162 aaY:=aN.of_eq (by kernel_rfl) (by kernel_rfl) rfl rfl (aJ (i:=aaY) (s0:=(.pair (.int .i64) (.pair (.int .i64) .unit))) rfl rfl rfl rfl) (λ_=>by kernel_rfl)
abbrev aa0:TI:={ desc:=.int .u32,size:=1,bytes:=4,zero:=[.int .u32 0],iU:=some (.int .u32) }
theorem aa1:aN Tryz.prog 167 aa0:=aN.of_eq (by kernel_rfl) (by kernel_rfl) rfl rfl (aJ (i:=aa0) (s0:=(.int .u32)) rfl rfl rfl rfl)
abbrev aa2:TI:={ desc:=.array 7 4,size:=7,bytes:=7,zero:=[.bool false,.bool false,.bool false,.bool false,.bool false,.bool false,.bool false],iU:=some (.arr 7 .bool) }
theorem aa3:aN Tryz.prog 180 aa2:=aN.of_eq (by kernel_rfl) (by kernel_rfl) rfl rfl (aJ (i:=aa2) (s0:=(.arr 7 .bool)) rfl rfl rfl rfl)
abbrev aa4:TI:={ desc:=.struct #[dP 9 0,dP 180 1],size:=8,bytes:=24,zero:=[.string ⟨#[]⟩,.bool false,.bool false,.bool false,.bool false,.bool false,.bool false,.bool false],iU:=some (.pair .str (.pair (.arr 7 .bool) .unit)) }
theorem aa5:aN Tryz.prog 181 aa4:=aN.of_eq (by kernel_rfl) (by kernel_rfl) rfl rfl (aJ (i:=aa4) (s0:=(.pair .str (.pair (.arr 7 .bool) .unit))) rfl rfl rfl rfl)
abbrev aa6:TI:={ desc:=.struct #[dP 9 0,dP 180 1],size:=8,bytes:=24,zero:=[.string ⟨#[]⟩,.bool false,.bool false,.bool false,.bool false,.bool false,.bool false,.bool false],iU:=some (.pair .str (.pair (.arr 7 .bool) .unit)) }
theorem aa7:aN Tryz.prog 182 aa6:=aN.of_eq (by kernel_rfl) (by kernel_rfl) rfl rfl (aJ (i:=aa6) (s0:=(.pair .str (.pair (.arr 7 .bool) .unit))) rfl rfl rfl rfl)
abbrev aa8:TI:={ desc:=.array 22 182,size:=176,bytes:=528,zero:=[.string ⟨#[]⟩,.bool false,.bool false,.bool false,.bool false,.bool false,.bool false,.bool false,.string ⟨#[]⟩,.bool false,.bool false,.bool false,.bool false,.bool false,.bool false,.bool false,.string ⟨#[]⟩,.bool false,.bool false,.bool false,.bool false,.bool false,.bool false,.bool false,.string ⟨#[]⟩,.bool false,.bool false,.bool false,.bool false,.bool false,.bool false,.bool false,.string ⟨#[]⟩,.bool false,.bool false,.bool false,.bool false,.bool false,.bool false,.bool false,.string ⟨#[]⟩,.bool false,.bool false,.bool false,.bool false,.bool false,.bool false,.bool false,.string ⟨#[]⟩,.bool false,.bool false,.bool false,.bool false,.bool false,.bool false,.bool false,.string ⟨#[]⟩,.bool false,.bool false,.bool false,.bool false,.bool false,.bool false,.bool false,.string ⟨#[]⟩,.bool false,.bool false,.bool false,.bool false,.bool false,.bool false,.bool false,.string ⟨#[]⟩,.bool false,.bool false,.bool false,.bool false,.bool false,.bool false,.bool false,.string ⟨#[]⟩,.bool false,.bool false,.bool false,.bool false,.bool false,.bool false,.bool false,.string ⟨#[]⟩,.bool false,.bool false,.bool false,.bool false,.bool false,.bool false,.bool false,.string ⟨#[]⟩,.bool false,.bool false,.bool false,.bool false,.bool false,.bool false,.bool false,.string ⟨#[]⟩,.bool false,.bool false,.bool false,.bool false,.bool false,.bool false,.bool false,.string ⟨#[]⟩,.bool false,.bool false,.bool false,.bool false,.bool false,.bool false,.bool false,.string ⟨#[]⟩,.bool false,.bool false,.bool false,.bool false,.bool false,.bool false,.bool false,.string ⟨#[]⟩,.bool false,.bool false,.bool false,.bool false,.bool false,.bool false,.bool false,.string ⟨#[]⟩,.bool false,.bool false,.bool false,.bool false,.bool false,.bool false,.bool false,.string ⟨#[]⟩,.bool false,.bool false,.bool false,.bool false,.bool false,.bool false,.bool false,.string ⟨#[]⟩,.bool false,.bool false,.bool false,.bool false,.bool false,.bool false,.bool false,.string ⟨#[]⟩,.bool false,.bool false,.bool false,.bool false,.bool false,.bool false,.bool false,.string ⟨#[]⟩,.bool false,.bool false,.bool false,.bool false,.bool false,.bool false,.bool false],iU:=some (.arr 22 (.pair .str (.pair (.arr 7 .bool) .unit))) }
theorem aa9:aN Tryz.prog 183 aa8:=aN.of_eq (by kernel_rfl) (by kernel_rfl) rfl rfl (aJ (i:=aa8) (s0:=(.arr 22 (.pair .str (.pair (.arr 7 .bool) .unit)))) rfl rfl rfl rfl)
abbrev abb:TI:={ desc:=.slice 23,size:=1,bytes:=24,zero:=[.slice none 0 0],iU:=some (.sl (.sl .str)) }
theorem abd:aN Tryz.prog 194 abb:=aN.of_eq (by kernel_rfl) (by kernel_rfl) rfl rfl (aJ (i:=abb) (s0:=(.sl (.sl .str))) rfl rfl rfl rfl)
abbrev abe:TI:={ desc:=.array 4 3,size:=4,bytes:=32,zero:=[.int .i64 0,.int .i64 0,.int .i64 0,.int .i64 0],iU:=some (.arr 4 (.int .i64)),BQ:=[.i] }
theorem abf:aN Tryz.prog 203 abe:=aN.of_eq (by kernel_rfl) (by kernel_rfl) rfl rfl (aJ (i:=abe) (s0:=(.arr 4 (.int .i64))) rfl rfl rfl rfl) (λ_=>by kernel_rfl)
abbrev abg:TI:={ desc:=.array 7 3,size:=7,bytes:=56,zero:=[.int .i64 0,.int .i64 0,.int .i64 0,.int .i64 0,.int .i64 0,.int .i64 0,.int .i64 0],iU:=some (.arr 7 (.int .i64)),BQ:=[.i] }
theorem abh:aN Tryz.prog 204 abg:=aN.of_eq (by kernel_rfl) (by kernel_rfl) rfl rfl (aJ (i:=abg) (s0:=(.arr 7 (.int .i64))) rfl rfl rfl rfl) (λ_=>by kernel_rfl)
abbrev abj:TI:={ desc:=.array 3 3,size:=3,bytes:=24,zero:=[.int .i64 0,.int .i64 0,.int .i64 0],iU:=some (.arr 3 (.int .i64)),BQ:=[.i] }
theorem abk:aN Tryz.prog 206 abj:=aN.of_eq (by kernel_rfl) (by kernel_rfl) rfl rfl (aJ (i:=abj) (s0:=(.arr 3 (.int .i64))) rfl rfl rfl rfl) (λ_=>by kernel_rfl)
abbrev abl:TI:={ desc:=.array 10 9,size:=10,bytes:=160,zero:=[.string ⟨#[]⟩,.string ⟨#[]⟩,.string ⟨#[]⟩,.string ⟨#[]⟩,.string ⟨#[]⟩,.string ⟨#[]⟩,.string ⟨#[]⟩,.string ⟨#[]⟩,.string ⟨#[]⟩,.string ⟨#[]⟩],iU:=some (.arr 10 .str) }
theorem abm:aN Tryz.prog 214 abl:=aN.of_eq (by kernel_rfl) (by kernel_rfl) rfl rfl (aJ (i:=abl) (s0:=(.arr 10 .str)) rfl rfl rfl rfl)
abbrev abn:TI:={ desc:=.int .u64,size:=1,bytes:=8,zero:=[.int .u64 0],iU:=some (.int .u64) }
theorem abo:aN Tryz.prog 217 abn:=aN.of_eq (by kernel_rfl) (by kernel_rfl) rfl rfl (aJ (i:=abn) (s0:=(.int .u64)) rfl rfl rfl rfl)
abbrev abp:TI:={ desc:=.int .u64,size:=1,bytes:=8,zero:=[.int .u64 0],iU:=some (.int .u64) }
theorem abq:aN Tryz.prog 230 abp:=aN.of_eq (by kernel_rfl) (by kernel_rfl) rfl rfl (aJ (i:=abp) (s0:=(.int .u64)) rfl rfl rfl rfl)
abbrev tis:List (Nat×TI):=[(3,ti3),(4,ti4),(5,ti5),(9,ti9),(21,ak8),(22,ak9),(23,ala),(24,alb),(25,alc),(26,ald),(27,ale),(30,alf),(31,alg),(32,alh),(33,ali),(34,alj),(35,alk),(36,alm),(37,aln),(38,alo),(43,alp),(44,alq),(46,alr),(47,als),(48,alu),(49,alv),(52,alx),(53,aly),(54,alz),(55,alA),(56,alB),(63,alC),(64,alD),(65,alE),(66,alF),(67,alG),(75,alH),(76,alI),(77,alJ),(81,alK),(82,alL),(88,alM),(89,alN),(90,alO),(91,alP),(117,aaC),(118,aaE),(151,aaG),(152,aaI),(153,aaK),(154,aaM),(155,aaO),(157,aaQ),(158,aaS),(159,aaU),(161,aaW),(162,aaY),(167,aa0),(180,aa2),(181,aa4),(182,aa6),(183,aa8),(194,abb),(203,abe),(204,abg),(206,abj),(214,abl),(217,abn),(230,abp)]
theorem aA:bQ Tryz.prog tis:=⟨ak4,ak5,ak6,ak7,afJ,afK,afL,afM,afN,afO,afP,afQ,afR,afS,afT,afU,afV,afW,afX,afY,afZ,af0,af2,af4,af5,af6,af7,af8,af9,aga,agb,agc,agd,agf,agh,agi,agj,agk,agl,agm,agn,agp,agq,agr,ags,aaD,aaF,aaH,aaJ,aaL,aaN,aaP,aaR,aaT,aaV,aaX,aaZ,aa1,aa3,aa5,aa7,aa9,abd,abf,abh,abk,abm,abo,abq,trivial⟩
abbrev I6:Sh:=.int .i64
abbrev v6(n:Int):SC:=.v (.int .i64 n)
abbrev vb(b:Bool):SC:=.v (.bool b)
abbrev cI(n:Int):SV:=.c (.v (.int .i64 n))
abbrev cB(b:Bool):SV:=.c (.v (.bool b))
abbrev g0(r:au):Go.mQ.Gd×au:=([],r)
abbrev rE(a b:bg):Prop:=([]:List au)=[]/\a=b
abbrev rT(a b:List SV):Prop:=([]:List au)=[]/\bg.iR a=bg.iR b
abbrev qI(a b:Int):Prop:=([]:List au)=[]/\bg.one (.c (.v (.int .i64 a)))=bg.one (.c (.v (.int .i64 b)))
abbrev qB(a b:Bool):Prop:=([]:List au)=[]/\bg.one (.c (.v (.bool a)))=bg.one (.c (.v (.bool b)))
abbrev sm{α:Type} (a:α):Prop:=a=a
def agt:List (List Bool):=[[true,false,false,false,true,false,false],[true,true,false,false,false,false,false],[true,true,true,false,false,true,false],[false,false,false,false,true,false,false],[false,true,false,false,true,false,false],[false,true,false,false,false,false,false],[false,false,false,false,false,false,false],[true,false,false,true,false,false,true],[false,true,false,true,false,false,true],[true,true,false,true,false,false,true],[true,true,false,true,false,false,true],[true,true,true,true,false,false,true],[false,false,false,false,false,false,false],[true,true,false,true,false,true,true],[false,false,false,true,false,false,false],[false,false,false,true,false,false,false],[true,false,false,true,false,false,false],[false,false,false,true,true,false,false],[false,false,false,true,false,false,false],[false,false,false,true,false,false,false],[true,true,false,true,false,false,false],[false,true,false,false,false,false,false]]
def fieldsD:List ByteArray:=[⟨#[65,78]⟩,⟨#[65,66]⟩,⟨#[70,65,66,67]⟩,⟨#[78]⟩,⟨#[66,78]⟩,⟨#[66]⟩,⟨#[]⟩,⟨#[65,79,82]⟩,⟨#[79,66,82]⟩,⟨#[65,79,66,82]⟩,⟨#[65,79,66,82]⟩,⟨#[65,79,66,67,82]⟩,⟨#[]⟩,⟨#[65,79,70,66,82]⟩,⟨#[79]⟩,⟨#[79]⟩,⟨#[65,79]⟩,⟨#[79,78]⟩,⟨#[79]⟩,⟨#[79]⟩,⟨#[65,79,66]⟩,⟨#[66]⟩]
def LP:List ByteArray:=[⟨#[97,100,100]⟩,⟨#[115,117,98]⟩,⟨#[109,117,108]⟩,⟨#[97,110,100]⟩,⟨#[111,114]⟩,⟨#[120,111,114]⟩,⟨#[101,113]⟩,⟨#[110,101]⟩,⟨#[108,116]⟩,⟨#[108,101]⟩]
def OG:List (ByteArray×List Bool×Unit):=[(⟨#[99,111,110,115,116]⟩,[true,false,false,false,true,false,false],()),(⟨#[99,111,112,121]⟩,[true,true,false,false,false,false,false],()),(⟨#[99,97,108,99]⟩,[true,true,true,false,false,true,false],()),(⟨#[106,117,109,112]⟩,[false,false,false,false,true,false,false],()),(⟨#[98,114,97,110,99,104]⟩,[false,true,false,false,true,false,false],()),(⟨#[97,115,115,101,114,116]⟩,[false,true,false,false,false,false,false],()),(⟨#[115,116,111,112]⟩,[false,false,false,false,false,false,false],()),(⟨#[108,111,97,100]⟩,[true,false,false,true,false,false,true],()),(⟨#[115,116,111,114,101]⟩,[false,true,false,true,false,false,true],()),(⟨#[115,119,97,112]⟩,[true,true,false,true,false,false,true],()),(⟨#[102,101,116,99,104,97,100,100]⟩,[true,true,false,true,false,false,true],()),(⟨#[99,97,115]⟩,[true,true,true,true,false,false,true],()),(⟨#[102,101,110,99,101]⟩,[false,false,false,false,false,false,false],()),(⟨#[97,119,97,105,116]⟩,[true,true,false,true,false,true,true],()),(⟨#[108,111,99,107]⟩,[false,false,false,true,false,false,false],()),(⟨#[117,110,108,111,99,107]⟩,[false,false,false,true,false,false,false],()),(⟨#[116,114,121,108,111,99,107]⟩,[true,false,false,true,false,false,false],()),(⟨#[119,97,105,116]⟩,[false,false,false,true,true,false,false],()),(⟨#[115,105,103,110,97,108]⟩,[false,false,false,true,false,false,false],()),(⟨#[98,114,111,97,100,99,97,115,116]⟩,[false,false,false,true,false,false,false],()),(⟨#[115,112,97,119,110]⟩,[true,true,false,true,false,false,false],()),(⟨#[106,111,105,110]⟩,[false,true,false,false,false,false,false],())]
def Hg:List (Int×Bool×Int×Int×Bool×Int×Int×Bool×Unit):=[(7,true,-2147483648,2147483647,false,-1,1,false,()),(7,true,0,0,true,-2,1,true,()),(7,true,0,0,true,0,4,true,()),(7,false,0,0,true,0,1,true,()),(7,true,-2147483648,2147483647,true,-2,1,true,()),(7,true,-2147483648,2147483647,false,-2,1,false,()),(0,false,0,0,false,-2,0,false,()),(7,true,-2147483648,2147483647,false,-1,1,false,()),(3,false,0,0,false,-2,2,true,()),(3,false,0,0,false,-2,2,true,()),(3,false,0,1,false,-2,2,true,()),(3,false,0,0,false,-2,3,true,()),(3,false,0,0,false,-2,3,true,()),(3,false,0,1,false,-2,3,true,()),(3,false,0,-1,false,-2,3,true,()),(-1,false,0,0,false,-2,0,false,()),(-1,false,0,0,false,-2,0,false,())]
abbrev gd0:Nat->Option (Sigma Sh.den):=λg=>match g with
 | 0=>some ⟨.arr 17 (.pair (.int .i64) (.pair .bool (.pair (.int .i64) (.pair (.int .i64) (.pair .bool (.pair (.int .i64) (.pair (.int .i64) (.pair .bool .unit)))))))),Hg⟩
 | 1=>some ⟨.arr 22 (.pair .str (.pair (.arr 7 .bool) .unit)),OG⟩
 | 2=>some ⟨.arr 10 .str,LP⟩
 | _=>none
abbrev aU:Cx:={ ti:=tis,gd:=gd0 }
abbrev o7:Sh:=.pair (.int .i64) (.pair (.int .i64) (.pair (.int .i64) (.pair (.int .i64) (.pair (.int .i64) (.pair (.int .i64) (.pair (.int .i64) (.pair (.int .i64) .unit)))))))
def use(op:Int) (k:Nat):Bool:=decide (1<=op) && decide (op<=22) && (agt.getD (op - 1).toNat []).getD k false
def uO(op:Int):Bool:=decide (1<=op) && decide (op<=22)
def yL(f:Int):ByteArray:=if 1<=f/\f<=10 then LP.getD (f - 1).toNat ByteArray.empty else ByteArray.empty
abbrev aph:CT:={ ps:=[],pre:=λd=>True,res:=λd=>([.row 9 .str fieldsD],.one (.c (.row 0))) }
abbrev alQ  : Nat->Option (St->kH):=λ_=>none
abbrev tJ:=SV.c (SC.row (0:Nat))
theorem agu :
 [au.row (9:TypeId) Sh.str fieldsD]=[au.row (9:TypeId) Sh.str [{ data:=#[(65:UInt8),78]:ByteArray },{ data:=#[(65:UInt8),66]:ByteArray },{ data:=#[(70:UInt8),65,66,67]:ByteArray },{ data:=#[(78:UInt8)]:ByteArray },{ data:=#[(66:UInt8),78]:ByteArray },{ data:=#[(66:UInt8)]:ByteArray },{ data:=#[]:ByteArray },{ data:=#[(65:UInt8),79,82]:ByteArray },{ data:=#[(79:UInt8),66,82]:ByteArray },{ data:=#[(65:UInt8),79,66,82]:ByteArray },{ data:=#[(65:UInt8),79,66,82]:ByteArray },{ data:=#[(65:UInt8),79,66,67,82]:ByteArray },{ data:=#[]:ByteArray },{ data:=#[(65:UInt8),79,70,66,82]:ByteArray },{ data:=#[(79:UInt8)]:ByteArray },{ data:=#[(79:UInt8)]:ByteArray },{ data:=#[(65:UInt8),79]:ByteArray },{ data:=#[(79:UInt8),78]:ByteArray },{ data:=#[(79:UInt8)]:ByteArray },{ data:=#[(79:UInt8)]:ByteArray },{ data:=#[(65:UInt8),79,66]:ByteArray },{ data:=#[(66:UInt8)]:ByteArray }]]/\bg.one tJ=bg.one tJ:=by
 delta tJ;exact⟨rfl,rfl⟩
theorem abr:aW aU.gd 206 aph:=
 kL (cx:=aU) (n:=2) (cl:=[]) aA trivial Tryz.func206 λd hd=>by
  obtain⟨⟩:=d;exact⟨alQ ,cast (by kernel_rfl) (agu )⟩
abbrev apj:CT:={ ps:=[.int .i64],pre:=λd=>True,res:=λd=>([],vB (uO d.1)) }
theorem agv(op:Int):
 qB (uO op) (decide (1<=op) && decide (op<=22)):=by
 delta qB;exact⟨rfl,rfl⟩
theorem abt:aW aU.gd 197 apj:=
 kL (cx:=aU) (n:=9) (cl:=[]) aA trivial Tryz.func197 λd hd=>by
  obtain⟨op,⟨⟩⟩:=d;exact⟨λ_=>none,cast (by kernel_rfl) (agv op)⟩
abbrev apk:CT:={ ps:=[.int .i64],pre:=λd=>True,res:=λd=>([],vB (decide (0<=d.1) && decide (d.1 < 8))) }
theorem agw(r:Int):
 let z1:=decide (0<=r) && decide (r < 8);qB z1 z1:=by
 conv=>zeta
 delta qB;exact⟨rfl,rfl⟩
theorem abu:aW aU.gd 204 apk:=
 kL (cx:=aU) (n:=9) (cl:=[]) aA trivial Tryz.func204 λd hd=>by
  obtain⟨r,⟨⟩⟩:=d;exact⟨λ_=>none,cast (by kernel_rfl) (agw r)⟩
abbrev apl:CT:={ ps:=[o7],pre:=λd=>True,res:=λd=>([],.one (.dat (.arr 7 (.int .i64)) [d.1.2.1,d.1.2.2.1,d.1.2.2.2.1,d.1.2.2.2.2.1,d.1.2.2.2.2.2.1,d.1.2.2.2.2.2.2.1,d.1.2.2.2.2.2.2.2.1])) }
theorem agx(op a b c obj n fn ord:Int):
 let z1:=[a,b,c,obj,n,fn,ord];rE (bg.one (SV.dat (Sh.arr 7 I6) z1)) (bg.one (SV.dat (Sh.arr 7 I6) z1)):=by
 conv=>zeta
 delta rE I6;exact⟨rfl,rfl⟩
theorem abv:aW aU.gd 198 apl:=
 kL (cx:=aU) (n:=18) (cl:=[]) aA trivial Tryz.func198 λd hd=>by
  obtain⟨⟨op,a,b,c,obj,n,fn,ord,⟨⟩⟩,⟨⟩⟩:=d;exact⟨λ_=>none,cast (by kernel_rfl) (agx op a b c obj n fn ord)⟩
abbrev apm:CT:={ ps:=[.int .i64],pre:=λd=>True,res:=λd=>([],.one (.c (.v (.string (yL d.1))))) }
theorem agy(f:Int):
 let z1:=bg.one (SV.c (SC.v (Value.string (yL f))));br (decide (f < 1) || decide (10 < f)) (rE z1 (bg.one (SV.c (SC.v (Value.string { data:=#[]:ByteArray }))))) (dX IntKind.i64 (f - 1)/\(0<=f - 1/\f - 1 < (10:Int))/\∀(d:ByteArray),LP[(f - 1).toNat]?=some d->rE z1 (bg.one (SV.c (SC.v (Value.string d))))):=by
 conv=>zeta
 delta rE;refine ah.2 ⟨λh=>?_,λh=>?_⟩
 .simp only[Ee,dV]at h;rw[show yL f=ByteArray.empty from if_neg (by omega)]
  exact⟨rfl,rfl⟩
 .simp only[oI,gG]at h;refine⟨ay.2 (by omega),by omega,λd hd=>⟨rfl,?_⟩⟩
  rw[show yL f=LP.getD (f - 1).toNat ByteArray.empty from if_pos (by omega),List.getD,hd];rfl
theorem abw:aW aU.gd 199 apm:=
 kL (cx:=aU) (n:=13) (cl:=[]) aA trivial Tryz.func199 λd hd=>by
  obtain⟨f,⟨⟩⟩:=d;exact⟨λ_=>none,cast (by kernel_rfl) (agy f)⟩
abbrev apn:CT:={ ps:=[.int .i64],pre:=λd=>True,res:=λd=>([],.one (.c (.v (.string (yL d.1))))) }
theorem agz(f:Int):
 let z1:=bg.one (SV.c (SC.v (Value.string (yL f))));br (decide (f=1)) (rE z1 (bg.one (SV.c (SC.v (Value.string { data:=#[(97:UInt8),100,100]:ByteArray }))))) (br (decide (f=2)) (rE z1 (bg.one (SV.c (SC.v (Value.string { data:=#[(115:UInt8),117,98]:ByteArray }))))) (br (decide (f=3)) (rE z1 (bg.one (SV.c (SC.v (Value.string { data:=#[(109:UInt8),117,108]:ByteArray }))))) (br (decide (f=4)) (rE z1 (bg.one (SV.c (SC.v (Value.string { data:=#[(97:UInt8),110,100]:ByteArray }))))) (br (decide (f=5)) (rE z1 (bg.one (SV.c (SC.v (Value.string { data:=#[(111:UInt8),114]:ByteArray }))))) (br (decide (f=6)) (rE z1 (bg.one (SV.c (SC.v (Value.string { data:=#[(120:UInt8),111,114]:ByteArray }))))) (br (decide (f=7)) (rE z1 (bg.one (SV.c (SC.v (Value.string { data:=#[(101:UInt8),113]:ByteArray }))))) (br (decide (f=8)) (rE z1 (bg.one (SV.c (SC.v (Value.string { data:=#[(110:UInt8),101]:ByteArray }))))) (br (decide (f=9)) (rE z1 (bg.one (SV.c (SC.v (Value.string { data:=#[(108:UInt8),116]:ByteArray }))))) (br (decide (f=10)) (rE z1 (bg.one (SV.c (SC.v (Value.string { data:=#[(108:UInt8),101]:ByteArray }))))) (rE z1 (bg.one (SV.c (SC.v (Value.string { data:=#[]:ByteArray })))))))))))))):=by
 conv=>zeta
 delta rE
 by_cases h:1<=f/\f<=10
 .have:f=1\/f=2\/f=3\/f=4\/f=5\/f=6\/f=7\/f=8\/f=9\/f=10:=by omega
  rcases this with rfl | rfl | rfl | rfl | rfl | rfl | rfl | rfl | rfl | rfl<;>exact⟨rfl,rfl⟩
 .have e:yL f=ByteArray.empty:=if_neg h;rw[e];rw[show decide (f=1)=false from BP (by omega)]
  rw[show decide (f=2)=false from BP (by omega)]
  rw[show decide (f=3)=false from BP (by omega)]
  rw[show decide (f=4)=false from BP (by omega)]
  rw[show decide (f=5)=false from BP (by omega)]
  rw[show decide (f=6)=false from BP (by omega)]
  rw[show decide (f=7)=false from BP (by omega)]
  rw[show decide (f=8)=false from BP (by omega)]
  rw[show decide (f=9)=false from BP (by omega)]
  rw[show decide (f=10)=false from BP (by omega)]
  exact⟨rfl,rfl⟩
theorem abx:aW aU.gd 205 apn:=
 kL (cx:=aU) (n:=24) (cl:=[]) aA trivial Tryz.func205 λd hd=>by
  obtain⟨f,⟨⟩⟩:=d;exact⟨λ_=>none,cast (by kernel_rfl) (agz f)⟩
def gZ(op c:Int):Bool:=decide (1<=op) && decide (op<=22) && ((fieldsD.getD (op - 1).toNat ByteArray.empty).data.toList.any λb=>decide ((b.toNat:Int)=c))
abbrev apo:CT:={ ps:=[.int .i64,.int .u8],pre:=λd=>True,res:=λd=>([],vB (gZ d.1 d.2.1)) }
abbrev alR(op c:Int):Nat->Option (St->kH):=λk=>match k with
 | 5=>some λs=>.inv { α:=Nat,slots:=λk=>[(6,.c (.v (.int .i64 k)))],res:=λ_=>[],inv:=λk=>k<=(aag s 5).size/\∀j,j < k->∀b,(aag s 5)[j]?=some b->¬((b.toNat:Int)=c),meas:=λk=>(aag s 5).size - k }
 | _=>none
theorem agA(op c:Int):
 let z1:=λ(x:Nat) (d:ByteArray)=>(x<=d.size/\∀(j:Nat),j < x->∀(b:UInt8),d[j]?=some b->¬(b.toNat:Int)=c);let z2:=[g0 (au.row 9 Sh.str fieldsD)];br (decide (op < 1) || decide (22 < op)) (qB (gZ op c) false) (True/\dX IntKind.i64 (op - 1)/\(0<=op - 1/\op - 1 < (22:Int))/\(op - 1).toNat < 22/\∀(d:ByteArray),fieldsD[(op - 1).toNat]?=some d->(∃x,(z1 x d)/\(cI 0=cI (x:Int)/\True)/\sm z2)/\∀(x:Nat),(z1 x d)->br (decide ((x:Int) < (d.size:Int))) ((0<=(x:Int)/\(x:Int) < (d.size:Int))/\∀(u:UInt8),d[(x:Int).toNat]?=some u->br (decide ((u.toNat:Int)=c)) (qB (gZ op c) true) (dX IntKind.i64 ((x:Int)+(1:Int))/\∃x',(z1 x' d)/\(cI ((x:Int)+(1:Int))=cI (x':Int)/\True)/\sm z2/\d.size - x' < d.size - x)) (qB (gZ op c) false)):=by
 conv=>zeta
 delta cI g0 qB sm;refine ah.2 ⟨λh=>?_,λh=>?_⟩
 .simp only[Ee,dV]at h;have:gZ op c=false:=by
   unfold gZ
   by_cases h1:1<=op<;>by_cases h2:op<=22<;>simp[h1,h2]
   omega
  rw[this];exact⟨rfl,rfl⟩
 .simp only[oI,gG]at h;refine⟨trivial,ay.2 (by omega),by omega,by omega,λd hd=>⟨⟨0,⟨by omega,λj hj=>by omega⟩,⟨rfl,trivial⟩,rfl⟩,λx hx=>?_⟩⟩
  have e:gZ op c=d.data.toList.any λb=>decide ((b.toNat:Int)=c):=by
   unfold gZ;rw[List.getD,hd];simp[show 1<=op by omega,show op<=22 by omega]
  have hs:d.size<=9:=(show∀d∈fieldsD,d.size<=9 by decide) d (iJ hd)
  have get:∀j:Nat,d[j]?=d.data.toList[j]?:=ak2 d;refine ah.2 ⟨λiq=>⟨by simp only[dV]at iq;omega,λu hu=>ah.2 ⟨λhc=>?_,λhc=>?_⟩⟩,λhge=>?_⟩
  .simp only[dV]at hc;have hm:u∈d.data.toList:=iJ (i:=x) (by rw[<-get];simpa using hu)
   rw[e,A95.2 ⟨u,hm,by simpa using hc⟩]
   exact⟨rfl,rfl⟩
  .simp only[gG]at hc;simp only[dV]at iq;refine⟨ay.2 (by omega),x+1,⟨by omega,λj hj b hb=>?_⟩,⟨by simp,trivial⟩,rfl,by omega⟩
   by_cases hjx:j=x
   .subst hjx;have:some u=some b:=by rw[<-hu,<-hb];simp
    cases this;exact hc
   .exact hx.2 j (by omega) b hb
  .simp only[gG]at hge;have:gZ op c=false:=by
    rw[e,Yx];intro b hb;obtain⟨j,hj⟩:=II hb;have hj':j < d.data.toList.length:=(eU.1 hj).1;have hsz:d.data.toList.length=d.size:=by cases d;simp[ByteArray.size]
    simpa using hx.2 j (by omega) b (by rw[get];exact hj)
   rw[this];exact⟨rfl,rfl⟩
theorem aby:aW aU.gd 177 apo:=
 kL (cx:=aU) (n:=29) (cl:=[(206,aph)]) aA ⟨abr,trivial⟩ Tryz.func177 λd hd=>by
  obtain⟨op,c,⟨⟩⟩:=d;exact⟨alR op c,cast (by kernel_rfl) (agA op c)⟩
def XC(r:Int):Bool:=decide (0<=r) && decide (r < 8)
def pV(op a b c obj n fn ord:Int):Int:=
 if uO op=false then 8 else
 if(!use op 0 && a != 0 || !use op 1 && b != 0 || !use op 2 && c != 0 || !use op 3 && obj != 0 || !use op 4 && n != 0 || !use op 5 && fn != 0 || !use op 6 && ord != 0)=true then 9 else
 if(!XC a || !XC b || !XC c)=true then 10 else
 if(decide (ord < 0) || decide (2 < ord))=true then 13 else
 if(use op 5 && decide (yL fn=(⟨#[]⟩:ByteArray)))=true then 8 else
 if(decide (op=1) && (decide (n < -2147483648) || decide (2147483647 < n)))=true then 2 else 0
theorem OH{op:Int}{nm:ByteArray}{us:List Bool}{u:Unit} (hb:1<=op/\op<=22) (hd:OG[(op - 1).toNat]?=some (nm,us,u)):
 us=[use op 0,use op 1,use op 2,use op 3,use op 4,use op 5,use op 6]:=by
 have key:∀k:Fin 22,(OG[k.1]?).map (λr=>r.2.1)=some ([0,1,2,3,4,5,6].map λj=>(agt.getD k.1 []).getD j false):=by decide
 have h1:=key ⟨(op - 1).toNat,by omega⟩
 simp only at h1;rw[hd]at h1;simp only[Yb,Yo]at h1;rw[h1];simp[use,hb.1,hb.2]
abbrev alS:CT:={ ps:=[o7],pre:=λd=>True,res:=λd=>([],.one (.c (.v (.int .i64 (pV d.1.1 d.1.2.1 d.1.2.2.1 d.1.2.2.2.1 d.1.2.2.2.2.1 d.1.2.2.2.2.2.1 d.1.2.2.2.2.2.2.1 d.1.2.2.2.2.2.2.2.1))))) }
abbrev alT(op a b c obj n fn ord:Int):Nat->Option (St->kH):=λk=>match k with
 | 5=>some λ_=>.Gz 8
 | 11=>some λ_=>.Gz 4
 | _=>none
theorem agB(op a b c obj n fn ord:Int):
 let z11:=pV op a b c obj n fn ord;let z8:=qI z11 (8:Int);let z12:=[a,b,c,obj,n,fn,ord];let z2:=(0:Int)<=(0:Int)/\(0:Int) < (7:Int);let z10:=λ(Hl:Bool) (dJ:Int)=>!Hl && !decide (dJ=(0:Int));let z9:=qI z11 (9:Int);let z3:=(0:Int)<=(1:Int)/\(1:Int) < (7:Int);let z4:=(0:Int)<=(2:Int)/\(2:Int) < (7:Int);let z5:=(0:Int)<=(5:Int)/\(5:Int) < (7:Int);let z6:=(0:Int)<=(6:Int)/\(6:Int) < (7:Int);let z1:=λ(agC:Bool) (abz:Int)=>agC && (decide (abz < (0:Int)) || decide (8<=abz));let z7:=qI z11 (10:Int);True/\br (!uO op) z8 (dX IntKind.i64 (op - 1)/\(0<=op - 1/\op - 1 < (22:Int))/\∀(d:ByteArray×((Sh.arr 7 Sh.bool).pair Sh.unit).den),OG[(op - 1).toNat]?=some d->True/\((0:Int)<=(0:Int)/\0 < (z12.length:Int))/\∀(dJ:Int),z12[0]?=some dJ->z2/\0 < 7/\∀(Hl:Bool),(d.snd.fst)[0]?=some Hl->br (z10 Hl dJ) z9 (dX IntKind.i64 (1:Int)/\((0:Int)<=(1:Int)/\1 < (z12.length:Int))/\∀(d_3:Int),z12[1]?=some d_3->z3/\1 < 7/\∀(d_4:Bool),(d.snd.fst)[1]?=some d_4->br (z10 d_4 d_3) z9 (dX IntKind.i64 (2:Int)/\((0:Int)<=(2:Int)/\2 < (z12.length:Int))/\∀(d_5:Int),z12[2]?=some d_5->z4/\2 < 7/\∀(d_6:Bool),(d.snd.fst)[2]?=some d_6->br (z10 d_6 d_5) z9 (dX IntKind.i64 (3:Int)/\((0:Int)<=(3:Int)/\3 < (z12.length:Int))/\∀(d_7:Int),z12[3]?=some d_7->((0:Int)<=(3:Int)/\(3:Int) < (7:Int))/\3 < 7/\∀(d_8:Bool),(d.snd.fst)[3]?=some d_8->br (z10 d_8 d_7) z9 (dX IntKind.i64 (4:Int)/\((0:Int)<=(4:Int)/\4 < (z12.length:Int))/\∀(d_9:Int),z12[4]?=some d_9->((0:Int)<=(4:Int)/\(4:Int) < (7:Int))/\4 < 7/\∀(apr:Bool),(d.snd.fst)[4]?=some apr->br (z10 apr d_9) z9 (dX IntKind.i64 (5:Int)/\((0:Int)<=(5:Int)/\5 < (z12.length:Int))/\∀(aps:Int),z12[5]?=some aps->z5/\5 < 7/\∀(apt:Bool),(d.snd.fst)[5]?=some apt->br (z10 apt aps) z9 (dX IntKind.i64 (6:Int)/\((0:Int)<=(6:Int)/\6 < (z12.length:Int))/\∀(apu:Int),z12[6]?=some apu->z6/\6 < 7/\∀(apv:Bool),(d.snd.fst)[6]?=some apv->br (z10 apv apu) z9 (dX IntKind.i64 (7:Int)/\((0:Int)<=(0:Int)/\0 < (↑[a,b,c].length:Int))/\∀(abz:Int),[a,b,c][0]?=some abz->z2/\0 < 7/\∀(agC:Bool),(d.snd.fst)[0]?=some agC->br (z1 agC abz) z7 (dX IntKind.i64 (1:Int)/\((0:Int)<=(1:Int)/\1 < (↑[a,b,c].length:Int))/\∀(apw:Int),[a,b,c][1]?=some apw->z3/\1 < 7/\∀(apx:Bool),(d.snd.fst)[1]?=some apx->br (z1 apx apw) z7 (dX IntKind.i64 (2:Int)/\((0:Int)<=(2:Int)/\2 < (↑[a,b,c].length:Int))/\∀(apy:Int),[a,b,c][2]?=some apy->z4/\2 < 7/\∀(apz:Bool),(d.snd.fst)[2]?=some apz->br (z1 apz apy) z7 (dX IntKind.i64 (3:Int)/\z6/\6 < 7/\∀(apA:Bool),(d.snd.fst)[6]?=some apA->br (apA && (decide (ord < 0) || decide (2 < ord))) (qI z11 (13:Int)) (z5/\5 < 7/\∀(alU:Bool),(d.snd.fst)[5]?=some alU->(alU=true->True)/\br (alU && decide (yL fn={ data:=#[]:ByteArray })) z8 (br (decide (op=1) && (decide (n < (-2147483648)) || decide (2147483647 < n))) (qI z11 (2:Int)) (qI z11 (0:Int))))))))))))))):=by
 conv=>zeta
 delta qI;refine⟨trivial,ah.2 ⟨λh=>?_,λh=>?_⟩⟩
 .have hk:uO op=false:=by simpa using h
  rw[show pV op a b c obj n fn ord=8 by simp[pV,hk]]
  exact⟨rfl,rfl⟩
 .have hk:uO op=true:=by simpa using h
  have hb:1<=op/\op<=22:=by simpa[uO]using hk
  refine⟨ay.2 (by omega),by omega,λd hd=>?_⟩
  obtain⟨nm,us,⟨⟩⟩:=d;have hu:=OH hb hd;subst hu;clear hd;simp only[VW,aeM,Yo,forall_eq',ah,ay,yP,Qh,true_and,bg.one.injEq,SV.c.injEq,SC.v.injEq,Value.int.injEq,pV,hk,XC];generalize use op 0=u0;generalize use op 1=u1;generalize use op 2=u2;generalize use op 3=u3;generalize use op 4=u4;generalize use op 5=u5;generalize use op 6=u6
  repeat' (first | apply And.intro | intro _)
  all_goals first | omega | decide | skip
  all_goals simp_all
  all_goals grind
theorem OI:aW aU.gd 168 alS:=
 kL (cx:=aU) (n:=89) (cl:=[(197,apj),(198,apl),(199,apm)]) aA ⟨abt,abv,abw,trivial⟩ Tryz.func168 λd hd=>by
  obtain⟨⟨op,a,b,c,obj,n,fn,ord,⟨⟩⟩,⟨⟩⟩:=d;exact⟨alT op a b c obj n fn ord,cast (by kernel_rfl) (agB op a b c obj n fn ord)⟩
theorem agD(op:Int):gZ op 65=use op 0/\gZ op 66=use op 1/\gZ op 67=use op 2/\gZ op 79=use op 3/\gZ op 78=use op 4/\gZ op 70=use op 5/\gZ op 82=use op 6:=by
 by_cases hb:1<=op/\op<=22
 .have key:∀k:Fin 22,([65,66,67,79,78,70,82].map λc:Int=>(fieldsD.getD k.1 ByteArray.empty).data.toList.any λb=>decide ((b.toNat:Int)=c))=[0,1,2,3,4,5,6].map λj=>(agt.getD k.1 []).getD j false:=by decide
  have h1:=key ⟨(op - 1).toNat,by omega⟩
  simp only[VT,List.map_nil,List.cons.injEq,and_true]at h1;obtain⟨h1,h2,h3,h4,h5,h6,h7⟩:=h1;simp only[gZ,use,hb.1,hb.2,decide_true,Iw,h1,h2,h3,h4,h5,h6,h7,and_self]
 .have:(decide (1<=op) && decide (op<=22))=false:=by simp only[Qi,gG];omega
  simp only[gZ,use,this,Bool.false_and,and_self]
abbrev apB:CT:={ ps:=[o7],pre:=λd=>True,res:=λd=>([],.one (.c (.v (.int .i64 (pV d.1.1 d.1.2.1 d.1.2.2.1 d.1.2.2.2.1 d.1.2.2.2.2.1 d.1.2.2.2.2.2.1 d.1.2.2.2.2.2.2.1 d.1.2.2.2.2.2.2.2.1))))) }
theorem agF(op a b c obj n fn ord:Int):
 let z4:=pV op a b c obj n fn ord;let z1:=qI z4 (8:Int);let z2:=decide (0<=a) && decide (a < 8);let z3:=decide (0<=b) && decide (b < 8);br (decide (op < 1) || decide (22 < op)) z1 (True/\((!(!gZ op (65:Int) && !decide (a=0)))=true->True)/\((!(!gZ op (65:Int) && !decide (a=0) || !gZ op (66:Int) && !decide (b=0)))=true->True)/\((!(!gZ op (65:Int) && !decide (a=0) || !gZ op (66:Int) && !decide (b=0) || !gZ op (67:Int) && !decide (c=0)))=true->True)/\((!(!gZ op (65:Int) && !decide (a=0) || !gZ op (66:Int) && !decide (b=0) || !gZ op (67:Int) && !decide (c=0) || !gZ op (79:Int) && !decide (obj=0)))=true->True)/\((!(!gZ op (65:Int) && !decide (a=0) || !gZ op (66:Int) && !decide (b=0) || !gZ op (67:Int) && !decide (c=0) || !gZ op (79:Int) && !decide (obj=0) || !gZ op (78:Int) && !decide (n=0)))=true->True)/\((!(!gZ op (65:Int) && !decide (a=0) || !gZ op (66:Int) && !decide (b=0) || !gZ op (67:Int) && !decide (c=0) || !gZ op (79:Int) && !decide (obj=0) || !gZ op (78:Int) && !decide (n=0) || !gZ op (70:Int) && !decide (fn=0)))=true->True)/\br (!gZ op (65:Int) && !decide (a=0) || !gZ op (66:Int) && !decide (b=0) || !gZ op (67:Int) && !decide (c=0) || !gZ op (79:Int) && !decide (obj=0) || !gZ op (78:Int) && !decide (n=0) || !gZ op (70:Int) && !decide (fn=0) || !gZ op (82:Int) && !decide (ord=0)) (qI z4 (9:Int)) (True/\((!!z2)=true->True)/\((!(!z2 || !z3))=true->True)/\br (!z2 || !z3 || !(decide (0<=c) && decide (c < 8))) (qI z4 (10:Int)) (br (decide (ord < 0) || decide (2 < ord)) (qI z4 (13:Int)) (True/\(gZ op 70=true->True)/\br (gZ op (70:Int) && decide (yL fn={ data:=#[]:ByteArray })) z1 (br (decide (op=1) && (decide (n < (-2147483648)) || decide (2147483647 < n))) (qI z4 (2:Int)) (qI z4 (0:Int))))))):=by
 conv=>zeta
 delta qI;obtain⟨e0,e1,e2,e3,e4,e5,e6⟩:=agD op;rw[e0,e1,e2,e3,e4,e5,e6];simp only[ah,ay,true_and,bg.one.injEq,SV.c.injEq,SC.v.injEq,Value.int.injEq,pV,uO,XC];generalize use op 0=u0;generalize use op 1=u1;generalize use op 2=u2;generalize use op 3=u3;generalize use op 4=u4;generalize use op 5=u5;generalize use op 6=u6
 repeat' (first | apply And.intro | intro _)
 all_goals first | trivial | omega | skip
 all_goals first | grind | (simp_all<;>grind)
theorem abA:aW aU.gd 176 apB:=
 kL (cx:=aU) (n:=132) (cl:=[(177,apo),(204,apk),(205,apn)]) aA ⟨aby,abu,abx,trivial⟩ Tryz.func176 λd hd=>by
  obtain⟨⟨op,a,b,c,obj,n,fn,ord,⟨⟩⟩,⟨⟩⟩:=d;exact⟨λ_=>none,cast (by kernel_rfl) (agF op a b c obj n fn ord)⟩
def gq(l:List Int) (x:Int):Bool:=l.any λy=>decide (y=x)
def RG(l:List Int) (x:Int):Nat:=(l.takeWhile λy=>decide (y < x)).length
def Dh(l:List Int) (x:Int):List Int:=l.take (RG l x)++[x]++l.drop (RG l x)
def bT(l:List Int):List Int:=l.foldl (λo x=>if gq o x then o else Dh o x) []
theorem OJ(l:List Int) (x:Int):(Dh l x).length=l.length+1:=by
 simp only[Dh,kZ,mD,zH,yP,Qh];omega
theorem XD(l:List Int):(bT l).length<=l.length:=by
 have:∀(l o:List Int),(l.foldl (λo x=>if gq o x then o else Dh o x) o).length<=o.length+l.length:=by
  intro l
  induction l with
  | nil=>intro o;simp
  | cons x l ih=>
    intro o;simp only[Nj,yP];refine qY (ih _) ?_;split
    .omega
    .rw[OJ];omega
 have h:=this l [];rw[Qh,Iy]at h;exact h
def SS(l:List Int):Prop:=l.Pairwise (· < ·)
theorem LQ:∀{l m:List Int},SS l->SS m->(∀x,x∈l↔x∈m)->l=m
 | [],[],_,_,_=>rfl
 | [],y :: m,_,_,h=>by have:=(h y).2 (by simp);simp at this
 | x :: l,[],_,_,h=>by have:=(h x).1 (by simp);simp at this
 | x :: l,y :: m,hl,hm,h=>by
   obtain⟨h1,h2⟩:=Yj.1 hl;obtain⟨h3,h4⟩:=Yj.1 hm;have hxy:x=y:=by
    have a:=(h x).1 (by simp)
    have b:=(h y).2 (by simp)
    rcases mM.1 a with a | a
    .exact a
    .rcases mM.1 b with b | b
     .exact b.symm
     .have:=h3 x a;have:=h1 y b;omega
   subst hxy
   congr 1
   refine LQ h2 h4 λz=>?_
   have hz:=h z;simp only[mM]at hz;constructor
   .intro hh;rcases hz.1 (.inr hh) with rfl | h5
    .have:=h1 z hh;omega
    .exact h5
   .intro hh;rcases hz.2 (.inr hh) with rfl | h5
    .have:=h3 z hh;omega
    .exact h5
theorem jC{x:Int}:gq l x=true↔x∈l:=by
 unfold gq;rw[A95];constructor
 .rintro⟨y,h1,h2⟩;simp only[dV]at h2;subst h2;exact h1
 .intro h;exact⟨x,h,by simp⟩
theorem pW{x:Int}:gq l x=false↔x∉l:=by
 rw[<-jC];simp
theorem alV(l:List Int) (x:Int):l.take (RG l x)=l.takeWhile λy=>decide (y < x):=by
 unfold RG
 induction l with
 | nil=>rfl
 | cons a l ih=>
   simp only[aeR];split
   .simp[ih]
   .simp
theorem alW(l:List Int) (x:Int):l.drop (RG l x)=l.dropWhile λy=>decide (y < x):=by
 unfold RG
 induction l with
 | nil=>rfl
 | cons a l ih=>
   simp only[aeR,List.dropWhile_cons];split
   .simp[ih]
   .simp
theorem UE:∀{l:List Int}{x:Int},SS l->∀y∈l.dropWhile (λy=>decide (y < x)),x<=y
 | [],_,_,y,h=>by simp at h
 | a :: l,x,hl,y,h=>by
   obtain⟨h1,h2⟩:=Yj.1 hl;simp only[List.dropWhile_cons]at h;split at h
   .exact UE h2 y h
   .rename_i hn;simp only[dV]at hn;rcases mM.1 h with rfl | h
    .omega
    .have:=h1 y h;omega
theorem ajx:∀{l:List Int}{x:Int},∀y∈l.takeWhile (λy=>decide (y < x)),y < x
 | [],_,y,h=>by simp at h
 | a :: l,x,y,h=>by
   simp only[aeR]at h;split at h
   .rename_i hn;simp only[dV]at hn;rcases mM.1 h with rfl | h
    .exact hn
    .exact ajx y h
   .simp at h
theorem alX{x:Int} (hl:SS l) (hx:x∉l):SS (Dh l x):=by
 unfold Dh SS;rw[alV,alW];have hp:SS (l.takeWhile (λy=>decide (y < x))++l.dropWhile (λy=>decide (y < x))):=by rw[A96];exact hl
 obtain⟨p1,p2,p3⟩:=VX.1 hp;rw[DJ,VX];refine⟨p1,?_,?_⟩
 .rw[ajZ,Yj];refine⟨λy hy=>?_,p2⟩
  have h1:=UE hl y hy;have h2:y≠x:=λe=>hx (by rw[<-e];rw[<-A96 (p:=λy=>decide (y < x)) (l:=l)];exact aj0 _ hy)
  omega
 .intro a ha b hb;rw[ajZ]at hb;rcases mM.1 hb with rfl | hb
  .exact ajx a ha
  .exact p3 a ha b hb
theorem agG{x y:Int}:y∈Dh l x↔y=x\/y∈l:=by
 unfold Dh;rw[Et,Et,Ya]
 conv=>rhs;rw[<-X0 (RG l x) l,Et]
 constructor
 .rintro((h | h) | h)
  .exact .inr (.inl h)
  .exact .inl h
  .exact .inr (.inr h)
 .rintro(h | h | h)
  .exact .inl (.inr h)
  .exact .inl (.inl h)
  .exact .inr h
theorem EM:∀(l o:List Int),SS o->SS (l.foldl (λo x=>if gq o x then o else Dh o x) o)/\∀y,y∈l.foldl (λo x=>if gq o x then o else Dh o x) o↔y∈o\/y∈l
 | [],o,h=>⟨h,λy=>by simp⟩
 | x :: l,o,h=>by
   simp only[Nj];cases hx:gq o x with
   | true=>
     simp only[if_true];obtain⟨h1,h2⟩:=EM l o h;refine⟨h1,λy=>?_⟩
     rw[h2,mM];have:=jC.1 hx;constructor
     .rintro(h | h)
      .exact .inl h
      .exact .inr (.inr h)
     .rintro(h | rfl | h)
      .exact .inl h
      .exact .inl this
      .exact .inr h
   | false=>
     simp only[aeS,Qo];obtain⟨h1,h2⟩:=EM l (Dh o x) (alX h (pW.1 hx));refine⟨h1,λy=>?_⟩
     rw[h2,mM,agG];constructor
     .rintro((h | h) | h)
      .exact .inr (.inl h)
      .exact .inl h
      .exact .inr (.inr h)
     .rintro(h | h | h)
      .exact .inl (.inr h)
      .exact .inl (.inl h)
      .exact .inr h
theorem AY(l:List Int):SS (bT l):=(EM l [] List.Pairwise.nil).1
theorem AZ{x:Int}:x∈bT l↔x∈l:=by
 have:=(EM l [] List.Pairwise.nil).2 x;simpa[bT]using this
theorem OL{d:Array Int} (hs:∀i j,i < j->j < d.size->d[i]!<=d[j]!):∀m,m<=d.size ->
 SS (Lib.compactUpTo d m)/\(∀x,x∈Lib.compactUpTo d m↔∃j < m,d[j]! = x)
 | 0,_=>⟨by simp[Lib.compactUpTo,SS],λx=>by simp[Lib.compactUpTo]⟩
 | m+1,hm=>by
   obtain⟨h1,h2⟩:=OL hs m (by omega)
   rw[Lib.compactUpTo_succ];have le:∀x∈Lib.compactUpTo d m,∃j < m,d[j]! = x:=λx hx=>(h2 x).1 hx
   cases hk:Lib.keeps d m with
   | true=>
     simp only[if_true];constructor
     .refine VX.2 ⟨h1,by simp,λa ha b hb=>?_⟩
      simp only[Ya]at hb;subst hb;obtain⟨j,hj,rfl⟩:=le a ha;have h3:m≠0:=by omega
      simp only[Lib.keeps,dV,h3,false_or]at hk;have h4:=hs (m - 1) m (by omega) (by omega)
      by_cases hj2:j=m - 1
      .subst hj2;omega
      .have:=hs j (m - 1) (by omega) (by omega);omega
     .intro x;rw[Et,h2,Ya];constructor
      .rintro(⟨j,hj,e⟩ | e)
       .exact⟨j,by omega,e⟩
       .exact⟨m,by omega,e.symm⟩
      .rintro⟨j,hj,e⟩
       by_cases hj2:j=m
       .subst hj2;exact .inr e.symm
       .exact .inl ⟨j,by omega,e⟩
   | false=>
     simp only[aeS,Qo,Tj];refine⟨h1,λx=>?_⟩
     rw[h2];have h3:m≠0/\d[m]! = d[m - 1]!:=by simpa[Lib.keeps]using hk
     constructor
     .rintro⟨j,hj,e⟩;exact⟨j,by omega,e⟩
     .rintro⟨j,hj,e⟩
      by_cases hj2:j=m
      .subst hj2;exact⟨j - 1,by omega,by rw[<-h3.2];exact e⟩
      .exact⟨j,by omega,e⟩
theorem OM(l:List Int):(jQ l).Pairwise (·<=·):=by
 have h:(jQ l).Pairwise (λx y=>decide (x<=y)=true):=List.pairwise_mergeSort (λa b c h1 h2=>by simp at *;omega) (λa b=>by simp;omega) l
 exact h.imp λh=>by simpa using h
theorem abB{x:Int}:x∈jQ l↔x∈l:=(List.mergeSort_perm l _).mem_iff
theorem OO(l:List Int):SS (Lib.compact (jQ l))/\∀x,x∈Lib.compact (jQ l)↔x∈l:=by
 have hs:∀i j,i < j->j < (jQ l).toArray.size->(jQ l).toArray[i]!<=(jQ l).toArray[j]!:=by
  intro i j hij hj;have hj':j < (jQ l).length:=by simpa using hj
  have:=aeL.1 (OM l) i j (by omega) hj' hij
  rw[getElem!_pos _ i (by simp;omega),getElem!_pos _ j (by simpa using hj)]
  simpa using this
 obtain⟨h1,h2⟩:=OL hs (jQ l).length (by simp)
 refine⟨h1,λx=>?_⟩
 show x∈Lib.compactUpTo (jQ l).toArray (jQ l).length↔_;rw[h2,<-abB,List.mem_iff_getElem];constructor
 .rintro⟨j,hj,e⟩;exact⟨j,hj,by rw[getElem!_pos _ j (by simpa using hj)]at e;simpa using e⟩
 .rintro⟨j,hj,e⟩;exact⟨j,hj,by rw[getElem!_pos _ j (by simpa using hj)];simpa using e⟩
theorem agH(l:List Int):Lib.compact (jQ l)=bT l:=
 LQ (OO l).1 (AY l) λx=>by rw[(OO l).2,AZ]
end Go.Proofs.YtjhenjhcbcalpaaGreatDoor
namespace Go.Proofs
open Go.Shelf
def Tryz.lays189_ren:Go.Shelf.Ren:=⟨fun | 189=>200 | 125=>213 | 257=>212 | 128=>225 | 129=>226 | 294=>216 | 295=>217 | 296=>218 | 297=>219 | 298=>220 | 299=>221 | 216=>222 | 300=>223 | 301=>224 | 328=>227 | 329=>228 | 330=>229 | 331=>230 | 332=>231 | 215=>232 | 343=>233 | n=>n,fun | 28=>31 | 3=>3 | 46=>217 | 0=>0 | 51=>167 | 53=>230 | 4=>4 | 183=>222 | 182=>221 | 131=>95 | 5=>5 | 9=>9 | 218=>231 | 222=>235 | 228=>237 | 229=>165 | n=>n,fun | n=>n⟩
theorem Tryz.lays189:Go.Proofs.Lays.n189 Tryz.prog Tryz.lays189_ren:={
 mixed:=by kernel_rfl
 f125:=Tryz.func213.trans (oV some (by kernel_rfl))
 f128:=Tryz.func225.trans (oV some (by kernel_rfl))
 f129:=Tryz.func226.trans (oV some (by kernel_rfl))
 f189:=Tryz.func200.trans (oV some (by kernel_rfl))
 f215:=Tryz.func232.trans (oV some (by kernel_rfl))
 f216:=Tryz.func222.trans (oV some (by kernel_rfl))
 f257:=Tryz.func212.trans (oV some (by kernel_rfl))
 f294:=Tryz.func216.trans (oV some (by kernel_rfl))
 f295:=Tryz.func217.trans (oV some (by kernel_rfl))
 f296:=Tryz.func218.trans (oV some (by kernel_rfl))
 f297:=Tryz.func219.trans (oV some (by kernel_rfl))
 f298:=Tryz.func220.trans (oV some (by kernel_rfl))
 f299:=Tryz.func221.trans (oV some (by kernel_rfl))
 f300:=Tryz.func223.trans (oV some (by kernel_rfl))
 f301:=Tryz.func224.trans (oV some (by kernel_rfl))
 f328:=Tryz.func227.trans (oV some (by kernel_rfl))
 f329:=Tryz.func228.trans (oV some (by kernel_rfl))
 f330:=Tryz.func229.trans (oV some (by kernel_rfl))
 f331:=Tryz.func230.trans (oV some (by kernel_rfl))
 f332:=Tryz.func231.trans (oV some (by kernel_rfl))
 f343:=Tryz.func233.trans (oV some (by kernel_rfl))
 t0:=Tryz.underlying0
 a0:=Tryz.isAgg0
 z0:=Tryz.sizeOf0
 v0:=Tryz.zeroValue0
 t3:=Tryz.underlying3
 a3:=Tryz.isAgg3
 z3:=Tryz.sizeOf3
 v3:=Tryz.zeroValue3
 t4:=Tryz.underlying4
 a4:=Tryz.isAgg4
 z4:=Tryz.sizeOf4
 v4:=Tryz.zeroValue4
 t5:=Tryz.underlying5
 a5:=Tryz.isAgg5
 z5:=Tryz.sizeOf5
 v5:=Tryz.zeroValue5
 t9:=Tryz.underlying9
 a9:=Tryz.isAgg9
 z9:=Tryz.sizeOf9
 v9:=Tryz.zeroValue9
 t28:=Tryz.underlying31
 a28:=Tryz.isAgg31
 z28:=Tryz.sizeOf31
 v28:=Tryz.zeroValue31
 t46:=Tryz.underlying217
 a46:=Tryz.isAgg217
 z46:=Tryz.sizeOf217
 v46:=Tryz.zeroValue217
 t51:=Tryz.underlying167
 a51:=Tryz.isAgg167
 z51:=Tryz.sizeOf167
 v51:=Tryz.zeroValue167
 t53:=Tryz.underlying230
 a53:=Tryz.isAgg230
 z53:=Tryz.sizeOf230
 v53:=Tryz.zeroValue230
 t131:=Tryz.underlying95
 a131:=Tryz.isAgg95
 z131:=Tryz.sizeOf95
 v131:=Tryz.zeroValue95
 t182:=Tryz.underlying221
 a182:=Tryz.isAgg221
 z182:=Tryz.sizeOf221
 v182:=Tryz.zeroValue221
 t183:=Tryz.underlying222
 a183:=Tryz.isAgg222
 z183:=Tryz.sizeOf222
 v183:=Tryz.zeroValue222
 t218:=Tryz.underlying231
 a218:=Tryz.isAgg231
 z218:=Tryz.sizeOf231
 v218:=Tryz.zeroValue231
 t222:=Tryz.underlying235
 a222:=Tryz.isAgg235
 z222:=Tryz.sizeOf235
 v222:=Tryz.zeroValue235
 t228:=Tryz.underlying237
 a228:=Tryz.isAgg237
 z228:=Tryz.sizeOf237
 v228:=Tryz.zeroValue237
 t229:=Tryz.underlying165
 a229:=Tryz.isAgg165
 z229:=Tryz.sizeOf165
 v229:=Tryz.zeroValue165 }
open Go.Sort Go.RowKit in
theorem Tryz.slices_Sort_int(blk off cap:Nat) (zs:List Int) (w:World) (hH:Holds (Value.int .i64) w blk off zs.toArray) (hblk:blk < w.heap.size) (hsz:zs.length < 4611686018427387904):
 Calls Tryz.prog 200 #[.slice (some ⟨blk,off,none⟩) zs.length cap] w λe w'=>
  e=.returned (.tuple #[])/\∃n os,w'=grow (putRow (Value.int .i64) (Sort.ahead w n) blk off (zs.mergeSort λx y=>decide (x<=y)).toArray) os:=Any.slices_Sort_int Tryz.lays189 blk off cap zs w hH hblk hsz
def Tryz.laysNm220_ren:Go.Shelf.Ren:=⟨fun | 20=>201 | n=>n,fun | 22=>31 | 3=>3 | 4=>4 | 0=>0 | n=>n,fun | n=>n⟩
theorem Tryz.laysNm220:Go.Proofs.Lays2.n20 Tryz.prog Tryz.laysNm220_ren:={
 mixed:=by kernel_rfl
 f20:=Tryz.func201.trans (oV some (by kernel_rfl))
 t0:=Tryz.underlying0
 a0:=Tryz.isAgg0
 z0:=Tryz.sizeOf0
 v0:=Tryz.zeroValue0
 t3:=Tryz.underlying3
 a3:=Tryz.isAgg3
 z3:=Tryz.sizeOf3
 v3:=Tryz.zeroValue3
 t4:=Tryz.underlying4
 a4:=Tryz.isAgg4
 z4:=Tryz.sizeOf4
 v4:=Tryz.zeroValue4
 t22:=Tryz.underlying31
 a22:=Tryz.isAgg31
 z22:=Tryz.sizeOf31
 v22:=Tryz.zeroValue31
 i3:=by kernel_rfl }
open Go.RowKit Go.Lib Go.Sort in
theorem Tryz.slices_Compact_int(blk off cap:Nat) (zs:List Int) (w:World) (hH:Holds (Value.int .i64) w blk off zs.toArray) (hsz:zs.length<=9223372036854775807) (hcap:zs.length<=cap):
 Calls Tryz.prog 201 #[.slice (some ⟨blk,off,none⟩) zs.length cap] w λe w'=>e=.returned (.slice (some ⟨blk,off,none⟩) (Lib.compact zs).length cap)/\∃q,w'=putRow (Value.int .i64) (Sort.ahead w q) blk off (Lib.compact zs++List.replicate (zs.length - (Lib.compact zs).length) 0).toArray:=Any.slices_Compact_int Tryz.laysNm220 blk off cap zs w hH hsz hcap
open Go.RowKit Go.Lib Go.Sort in
theorem Tryz.slices_Compact_int_empty(a:Option Addr) (cap:Nat) (w:World):
 Calls Tryz.prog 201 #[.slice a 0 cap] w λe w'=>e=.returned (.slice a 0 cap)/\w'=w:=Any.slices_Compact_int_empty Tryz.laysNm220 a cap w
end Go.Proofs
namespace Go.Proofs.YtjhenjhcbcalpaaGreatDoor
open Go Go.mQ
variable {k:Nat}
def Mt(l:List Int):Prop:=l=[]
theorem Mt.nil:Mt []:=rfl
abbrev ajy:CT:={ ps:=[.int .u64],pre:=λd=>d.1=0,res:=λd=>([],.one (.c (.v (.int .i64 0)))) }
abbrev alY  : Nat->Option (St->kH):=λ_=>none
theorem agJ :
 let z1:=[(8:UInt8),(8:UInt8),(8:UInt8),(8:UInt8),(8:UInt8),(8:UInt8),(8:UInt8),(8:UInt8),(8:UInt8),(8:UInt8),(8:UInt8),(8:UInt8),(8:UInt8),(8:UInt8),(8:UInt8),(8:UInt8),(8:UInt8),(8:UInt8),(8:UInt8),(8:UInt8),(8:UInt8),(8:UInt8),(8:UInt8),(8:UInt8),(8:UInt8),(8:UInt8),(8:UInt8),(8:UInt8),(8:UInt8),(8:UInt8),(8:UInt8),(8:UInt8),(8:UInt8),(8:UInt8),(8:UInt8),(8:UInt8),(8:UInt8),(8:UInt8),(8:UInt8),(8:UInt8),(8:UInt8),(8:UInt8),(8:UInt8),(8:UInt8),(8:UInt8),(8:UInt8),(8:UInt8),(8:UInt8),(8:UInt8),(8:UInt8),(8:UInt8),(8:UInt8),(8:UInt8),(8:UInt8),(8:UInt8),(8:UInt8),(8:UInt8),(8:UInt8),(8:UInt8),(8:UInt8),(8:UInt8),(8:UInt8),(8:UInt8),(8:UInt8)];((0:Int)<=(0:Int)/\(0:Int) < (256:Int))/\∀(u:UInt8),{ data:=(([(0:UInt8),(1:UInt8),(2:UInt8),(2:UInt8),(3:UInt8),(3:UInt8),(3:UInt8),(3:UInt8),(4:UInt8),(4:UInt8),(4:UInt8),(4:UInt8),(4:UInt8),(4:UInt8),(4:UInt8),(4:UInt8),(5:UInt8),(5:UInt8),(5:UInt8),(5:UInt8),(5:UInt8),(5:UInt8),(5:UInt8),(5:UInt8),(5:UInt8),(5:UInt8),(5:UInt8),(5:UInt8),(5:UInt8),(5:UInt8),(5:UInt8),(5:UInt8),(6:UInt8),(6:UInt8),(6:UInt8),(6:UInt8),(6:UInt8),(6:UInt8),(6:UInt8),(6:UInt8),(6:UInt8),(6:UInt8),(6:UInt8),(6:UInt8),(6:UInt8),(6:UInt8),(6:UInt8),(6:UInt8),(6:UInt8),(6:UInt8),(6:UInt8),(6:UInt8),(6:UInt8),(6:UInt8),(6:UInt8),(6:UInt8),(6:UInt8),(6:UInt8),(6:UInt8),(6:UInt8),(6:UInt8),(6:UInt8),(6:UInt8),(6:UInt8)].append [(7:UInt8),(7:UInt8),(7:UInt8),(7:UInt8),(7:UInt8),(7:UInt8),(7:UInt8),(7:UInt8),(7:UInt8),(7:UInt8),(7:UInt8),(7:UInt8),(7:UInt8),(7:UInt8),(7:UInt8),(7:UInt8),(7:UInt8),(7:UInt8),(7:UInt8),(7:UInt8),(7:UInt8),(7:UInt8),(7:UInt8),(7:UInt8),(7:UInt8),(7:UInt8),(7:UInt8),(7:UInt8),(7:UInt8),(7:UInt8),(7:UInt8),(7:UInt8),(7:UInt8),(7:UInt8),(7:UInt8),(7:UInt8),(7:UInt8),(7:UInt8),(7:UInt8),(7:UInt8),(7:UInt8),(7:UInt8),(7:UInt8),(7:UInt8),(7:UInt8),(7:UInt8),(7:UInt8),(7:UInt8),(7:UInt8),(7:UInt8),(7:UInt8),(7:UInt8),(7:UInt8),(7:UInt8),(7:UInt8),(7:UInt8),(7:UInt8),(7:UInt8),(7:UInt8),(7:UInt8),(7:UInt8),(7:UInt8),(7:UInt8),(7:UInt8)]).append (z1.append z1)).toArray:ByteArray }[0]?=some u->dX IntKind.i64 (u.toNat:Int)/\dX IntKind.i64 (0+(u.toNat:Int))/\qI 0 (0+(u.toNat:Int)):=by
 conv=>zeta
 delta qI;refine⟨by omega,λu hu=>?_⟩
 have hu:some (0:UInt8)=some u:=hu;cases hu;exact⟨ay.2 (by decide),ay.2 (by decide),rfl,rfl⟩
theorem abC:aW aU.gd 226 ajy:=
 kL (cx:=aU) (n:=25) (cl:=[]) aA trivial Tryz.func226 λd hd=>by
  obtain⟨x,⟨⟩⟩:=d;simp only at hd;subst hd;exact⟨alY ,cast (by kernel_rfl) (agJ )⟩
abbrev ajz:CT:={ ps:=[.int .u64],pre:=λd=>d.1=0,res:=λd=>([],.one (.c (.v (.int .i64 0)))) }
abbrev alZ  : Nat->Option (St->kH):=λ_=>none
theorem agK :
 (0:(Sh.int IntKind.u64).den)=(0:(Sh.int IntKind.u64).den)/\qI 0 (0:Int):=by
 delta qI;exact⟨rfl,rfl,rfl⟩
theorem abD:aW aU.gd 213 ajz:=
 kL (cx:=aU) (n:=8) (cl:=[(226,ajy)]) aA ⟨abC,trivial⟩ Tryz.func213 λd hd=>by
  obtain⟨x,⟨⟩⟩:=d;simp only at hd;subst hd;exact⟨alZ ,cast (by kernel_rfl) (agK )⟩
abbrev ajA:CT:={ ps:=[.sl (.int .i64),.int .i64,.int .i64],pre:=λd=>Mt d.1/\d.2.1=0/\d.2.2.1=0,res:=λd=>([],.iR []) }
abbrev al0  : Nat->Option (St->kH):=λ_=>some λ_=>.Gz 1
theorem agL :
 dX IntKind.i64 (1:Int)/\rT [] []:=by
 delta rT;exact⟨ay.2 (by omega),rfl,rfl⟩
theorem abE:aW aU.gd 216 ajA:=
 kL (cx:=aU) (n:=49) (cl:=[]) aA trivial Tryz.func216 λd hd=>by
  obtain⟨l,a,b,⟨⟩⟩:=d;obtain⟨h1,h2,h3⟩:=hd;simp only at h1 h2 h3;have h1:l=[]:=h1;subst h1;subst h2;subst h3;exact⟨al0 ,cast (by kernel_rfl) (agL )⟩
abbrev ajB:CT:={ ps:=[.sl (.int .i64),.int .i64,.int .i64,.int .i64],pre:=λd=>Mt d.1/\d.2.1=0/\d.2.2.1=0,res:=λd=>([],.iR []) }
abbrev al1(m:Int):Nat->Option (St->kH):=λ_=>some λ_=>.Gz 1
theorem agN(m:Int):
 dX IntKind.i64 (0:Int)/\(Mt []/\(0:Int)=(0:Int)/\(0:Int)=(0:Int))/\rT [] []:=by
 delta rT;exact⟨ay.2 (by omega),⟨rfl,rfl,rfl⟩,rfl,rfl⟩
theorem abG:aW aU.gd 212 ajB:=
 kL (cx:=aU) (n:=134) (cl:=[(216,ajA)]) aA ⟨abE,trivial⟩ Tryz.func212 λd hd=>by
  obtain⟨l,a,b,m,⟨⟩⟩:=d;obtain⟨h1,h2,h3⟩:=hd;simp only at h1 h2 h3;have h1:l=[]:=h1;subst h1;subst h2;subst h3;exact⟨al1 m,cast (by kernel_rfl) (agN m)⟩
abbrev apC:CT:={ ps:=[.sl (.int .i64)],pre:=λd=>Mt d.1,res:=λd=>([],.iR []) }
abbrev al2  : Nat->Option (St->kH):=λ_=>none
theorem agO :
 (0:Int)=(0:(Sh.int IntKind.u64).den)/\(Mt []/\(0:Int)=(0:Int)/\(0:Int)=(0:Int))/\rT [] []:=by
 delta rT;exact⟨rfl,⟨rfl,rfl,rfl⟩,rfl,rfl⟩
theorem OQ:aW aU.gd 200 apC:=
 kL (cx:=aU) (n:=11) (cl:=[(212,ajB),(213,ajz)]) aA ⟨abG,abD,trivial⟩ Tryz.func200 λd hd=>by
  obtain⟨l,⟨⟩⟩:=d;have hd:l=[]:=hd;subst hd;exact⟨al2 ,cast (by kernel_rfl) (agO )⟩
abbrev xO:CT:={ ps:=[.sl (.int .i64)],pre:=λd=>d.1.length<=1000000,res:=λd=>([.row 3 (.int .i64) (d.1)],.one (.c (.row 0))) }
abbrev Yd:List (Nat×IP):=[]
abbrev Ba:=Sh.int IntKind.i64
theorem al3(l:List Int) (aH:xO.pre (l,())):
 let z1:=[au.row (3:TypeId) Ba l];∀(b:Bool),(b=true->l=[])->br b (z1=[au.row (3:TypeId) Ba []]/\bg.one tJ=bg.one tJ) (oN ((0:Nat)+List.length (l)) (8:Nat)/\z1=[au.row (3:TypeId) Ba ([]++l)]/\bg.one tJ=bg.one tJ):=by
 conv=>zeta
 delta Ba tJ;have hp:l.length<=1000000:=aH;intro b hb;refine ah.2 ⟨λh=>by rw[hb h];exact⟨rfl,rfl⟩,λh=>⟨?_,by simp,rfl⟩⟩
 rw[fQ];omega
theorem EN:aW aU.gd 58 xO:=
 Lu (il:=Yd) (rc:=[.row 3 (.int .i64)]) (cx:=aU) (n:=8) (cl:=[]) (by kernel_rfl) aA trivial trivial Tryz.func58 (by kernel_rfl) (by kernel_rfl) rfl (by kernel_rfl) (by kernel_rfl) λd hd=>by
  obtain⟨l,⟨⟩⟩:=d;exact⟨λ_=>none,cast (by kernel_rfl) (al3 l hd)⟩
def I9(l:List Int) (x:Int):Int:=match l.findIdx? (λy=>decide (y=x)) with | some k=>(k:Int) | none=>-1
theorem RH{l:List Int}{x:Int} (hd:l[k]?=some x) (hn:∀j < k,∀y,l[j]?=some y->y≠x):I9 l x=k:=by
 have iq:k < l.length:=(eU.1 hd).1;have:l.findIdx? (λy=>decide (y=x))=some k:=by
  rw[A50];refine⟨iq,by have:=(eU.1 hd).2;simp[this],λj hj=>?_⟩
  have:=hn j hj l[j] (kP (by omega))
  simpa using this
 simp[I9,this]
theorem XE{l:List Int}{x:Int} (hn:∀(j:Nat) y,l[j]?=some y->y≠x):I9 l x = -1:=by
 have:l.findIdx? (λy=>decide (y=x))=none:=by
  rw[A71];intro y hy;obtain⟨j,hj⟩:=II hy;simpa using hn j y hj
 simp[I9,this]
abbrev abH:CT:={ ps:=[.sl (.int .i64),.int .i64],pre:=λd=>d.1.length<=4611686018427387904,res:=λd=>([],.one (.c (.v (.int .i64 (I9 d.1 d.2.1))))) }
abbrev al4(l:List Int) (x:Int):Nat->Option (St->kH):=λ_=>some λ_=>.inv { α:=Nat,slots:=λk=>[(8,.c (.v (.int .i64 k)))],res:=λ_=>[],inv:=λk=>k<=l.length/\∀j < k,∀y,l[j]?=some y->y≠x,meas:=λk=>l.length - k }
abbrev fH:=Go.mQ.Gd×Go.mQ.au
theorem agP(l:List Int) (x:Int) (aH:abH.pre (l,x,())):
 let z1:=λ(x_1:Nat)=>(x_1<=l.length/\∀(j:Nat),j < x_1->∀(y:Int),l[j]?=some y->y≠x);(∃x_1,(z1 x_1)/\(cI 0=cI (x_1:Int)/\True)/\([]:List fH)=[])/\∀(x_1:Nat),(z1 x_1)->br (decide ((x_1:Int) < (l.length:Int))) ((0<=(x_1:Int)/\(x_1:Int) < (l.length:Int))/\∀(d:Int),l[(x_1:Int).toNat]?=some d->br (decide (x=d)) (qI (I9 l x) (x_1:Int)) (dX IntKind.i64 ((x_1:Int)+(1:Int))/\∃x',(x'<=l.length/\∀(j:Nat),j < x'->∀(y:Int),l[j]?=some y->y≠x)/\(cI ((x_1:Int)+(1:Int))=cI (x':Int)/\True)/\([]:List fH)=[]/\l.length - x' < l.length - x_1)) (qI (I9 l x) (-1:Int)):=by
 conv=>zeta
 delta fH cI qI;refine⟨⟨0,⟨by omega,λj hj=>by omega⟩,⟨rfl,trivial⟩,rfl⟩,λk hk=>ah.2 ⟨λh=>?_,λh=>?_⟩⟩
 .simp only[dV]at h;have hp:l.length<=4611686018427387904:=aH;refine⟨by omega,λd hd=>?_⟩
  have hd:l[k]?=some d:=by simpa using hd
  refine ah.2 ⟨λhe=>?_,λhe=>⟨ay.2 (by omega),k+1,⟨by omega,λj hj y hy=>?_⟩,⟨rfl,trivial⟩,rfl,by omega⟩⟩
  .have he:x=d:=by simpa using he
   rw[RH (by rw[hd,he]) hk.2];exact⟨rfl,rfl⟩
  .by_cases ji:j=k
   .subst ji;rw[hd]at hy;cases hy;intro hh;simp[hh]at he
   .exact hk.2 j (by omega) y hy
 .simp only[gG]at h;rw[XE (λj y hy=>hk.2 j (by have:=(eU.1 hy).1;omega) y hy)];exact⟨rfl,rfl⟩
theorem abI:aW aU.gd 162 abH:=
 kL (cx:=aU) (n:=19) (cl:=[]) aA trivial Tryz.func162 λd hd=>by
  obtain⟨l,x,⟨⟩⟩:=d;exact⟨al4 l x,cast (by kernel_rfl) (agP l x hd)⟩
theorem abJ(l:List Int) (x:Int):gq l x=decide (0<=I9 l x):=by
 have h:=List.findIdx?_isSome (xs:=l) (p:=λy=>decide (y=x))
 unfold gq I9;rw[<-h];cases l.findIdx? (λy=>decide (y=x)) with
 | none=>rfl
 | some k=>simp
abbrev Ho:CT:={ ps:=[.sl (.int .i64),.int .i64],pre:=λd=>d.1.length<=4611686018427387904,res:=λd=>([],vB (gq d.1 d.2.1)) }
theorem al5(l:List Int) (x:Int) (aH:Ho.pre (l,x,())):
 l.length<=4611686018427387904/\qB (gq l x) (decide (0<=I9 l x)):=by
 delta qB;refine⟨aH,rfl,?_⟩;rw[abJ]
theorem Bc:aW aU.gd 98 Ho:=
 kL (cx:=aU) (n:=9) (cl:=[(162,abH)]) aA ⟨abI,trivial⟩ Tryz.func98 λd hd=>by
  obtain⟨l,x,⟨⟩⟩:=d;exact⟨λ_=>none,cast (by kernel_rfl) (al5 l x hd)⟩
theorem XF(l:List Int):(jQ l).length=l.length:=by simp[jQ]
theorem abK(l:List Int):(bT l).length<=l.length:=XD l
theorem agQ:UA Tryz.prog aU.gd 200 He:=⟨Xy OQ.1 rfl (λblk cap zs w hH hb hz=>Tryz.slices_Sort_int blk 0 cap zs w hH hb hz),OQ.2⟩
theorem agR:UA Tryz.prog aU.gd 201 Dc:=⟨LM (λa cap w=>Tryz.slices_Compact_int_empty a cap w) (λblk cap zs w hH h1 h2=>Tryz.slices_Compact_int blk 0 cap zs w hH h1 h2),⟨_,Tryz.func201,rfl,by kernel_rfl⟩⟩
abbrev Bd:CT:={ ps:=[.sl (.int .i64)],pre:=λd=>d.1.length<=1000000,res:=λd=>([.row 3 (.int .i64) (bT d.1)],.one (.c (.row 0))) }
abbrev apD:List (Nat×IP):=[(200,He),(201,Dc)]
theorem agS(l:List Int) (aH:Bd.pre (l,())):
 l.length<=(1000000:Nat)/\List.length (l) < (4611686018427387904:Nat)/\List.length (jQ (l)) < (4611686018427387904:Nat)/\[au.row (3:TypeId) Ba (bT l)]=[au.row (3:TypeId) Ba (Lib.compact (jQ (l)))]/\bg.one tJ=bg.one tJ:=by
 delta Ba tJ;have hp:l.length<=1000000:=aH;exact⟨hp,by omega,by rw[XF];omega,by rw[agH],rfl⟩
theorem OU:aW aU.gd 169 Bd:=
 Lu (il:=apD) (rc:=[]) (cx:=aU) (n:=10) (cl:=[(58,xO)]) (by kernel_rfl) aA ⟨EN,trivial⟩ ⟨agQ,agR,trivial⟩ Tryz.func169 (by kernel_rfl) (by kernel_rfl) rfl (by kernel_rfl) (by kernel_rfl) λd hd=>by
  obtain⟨l,⟨⟩⟩:=d;exact⟨λ_=>none,cast (by kernel_rfl) (agS l hd)⟩
abbrev JM:CT:={ ps:=[.sl (.int .i64),.int .i64],pre:=λd=>d.1.length<=1000000,res:=λd=>([],vB (gq d.1 d.2.1)) }
theorem agT(l:List Int) (x:Int) (aH:JM.pre (l,x,())):
 l.length<=4611686018427387904/\qB (gq l x) (gq l x):=by
 delta qB;have hp:l.length<=1000000:=aH;exact⟨by omega,rfl,rfl⟩
theorem Bf:aW aU.gd 165 JM:=
 kL (cx:=aU) (n:=8) (cl:=[(98,Ho)]) aA ⟨Bc,trivial⟩ Tryz.func165 λd hd=>by
  obtain⟨l,x,⟨⟩⟩:=d;exact⟨λ_=>none,cast (by kernel_rfl) (agT l x hd)⟩
abbrev OV:CT:={ ps:=[.sl (.int .i64),.int .i64],pre:=λd=>d.1.length<=999999,res:=λd=>([.row 3 (.int .i64) (bT (d.1++[d.2.1]))],.one (.c (.row 0))) }
theorem agU(l:List Int) (x:Int) (aH:OV.pre (l,x,())):
 let z1:=[au.row (3:TypeId) Ba (bT (l++[x]))];l.length<=(1000000:Nat)/\oN (List.length (l)+List.length ([x])) (8:Nat)/\List.length (l++[x])<=(1000000:Nat)/\z1=z1/\bg.one tJ=bg.one tJ:=by
 conv=>zeta
 delta Ba tJ;have hp:l.length<=999999:=aH;refine⟨by omega,?_,?_,rfl,rfl⟩
 .rw[fQ];simp;omega
 .simp;omega
theorem Hq:aW aU.gd 111 OV:=
 kL (cx:=aU) (n:=11) (cl:=[(58,xO),(169,Bd)]) aA ⟨EN,OU,trivial⟩ Tryz.func111 λd hd=>by
  obtain⟨l,x,⟨⟩⟩:=d;exact⟨λ_=>none,cast (by kernel_rfl) (agU l x hd)⟩
abbrev LU:Sh:=.pair .str (.pair (.int .i64) .unit)
abbrev IG:Sh:=.pair .str (.pair (.sl o7) .unit)
abbrev nD:Sh:=.pair (.int .i64) (.pair (.int .i64) .unit)
abbrev tK:Sh:=.pair (.sl LU) (.pair (.sl .str) (.pair (.sl .str) (.pair (.sl IG) (.pair (.sl nD) .unit))))
abbrev ID:=Int×Int×Int×Int×Int×Int×Int×Int×Unit
abbrev VD:=ByteArray×Int×Unit
abbrev FD:=ByteArray×List ID×Unit
abbrev SD:=Int×Int×Unit
abbrev PD:=List VD×List ByteArray×List ByteArray×List FD×List SD×Unit
def qQ(f:Nat) (x:FD):List (bV [nD,o7]):=x.2.1.zipIdx.map λp=>(((f:Int),(p.2:Int),()),p.1,())
def jX:Nat->List FD->List (bV [nD,o7])
 | _,[]=>[]
 | n,x :: l=>qQ n x++jX (n+1) l
def dR(fs:List FD):List (bV [nD,o7]):=jX 0 fs
theorem JO(f:Nat) (x:FD):(qQ f x).length=x.2.1.length:=by simp[qQ]
theorem JQ{f:Nat}{x:FD}{j:Nat}{e:ID} (h:x.2.1[j]?=some e):(qQ f x)[j]?=some (((f:Int),(j:Int),()),e,()):=by
 unfold qQ;rw[Ec,aeQ,h];simp
theorem uP:∀(l m:List FD) (n:Nat),jX n (l++m)=jX n l++jX (n+l.length) m
 | [],m,n=>by simp[jX]
 | x :: l,m,n=>by
   simp only[List.cons_append,jX,uP l m,DJ,yP];rw[show n+1+l.length=n+(l.length+1) by omega]
theorem XG{fs:List FD}{d:FD} (h:fs[k]?=some d):dR fs=dR (fs.take k)++(qQ k d++jX (k+1) (fs.drop (k+1))):=by
 have hk:k < fs.length:=(eU.1 h).1;have e:fs=fs.take k++(d :: fs.drop (k+1)):=by
  have h2:=List.drop_eq_getElem_cons hk;rw[(eU.1 h).2]at h2;rw[<-h2,X0]
 unfold dR
 conv=>lhs;rw[e]
 rw[uP];rw[show 0+(fs.take k).length=k by simp;omega]
 rfl
theorem RI{fs:List FD}{d:FD} (h:fs[k]?=some d):dR (fs.take (k+1))=dR (fs.take k)++qQ k d:=by
 have hk:k < fs.length:=(eU.1 h).1;rw[Tf,h];unfold dR;rw[uP];rw[show 0+(fs.take k).length=k by simp;omega]
 simp[jX]
theorem XH{fs:List FD}{j:Nat}{d:FD}{e:ID} (h:fs[k]?=some d) (h2:d.2.1[j]?=some e):(dR fs)[(dR (fs.take k)).length+j]?=some (((k:Int),(j:Int),()),e,()):=by
 have hj:j < d.2.1.length:=(eU.1 h2).1;rw[XG h,Qd (by omega),XZ (by rw[JO];omega)]
 rw[show(dR (fs.take k)).length+j - (dR (fs.take k)).length=j by omega]
 exact JQ h2
noncomputable abbrev al6:MK:={ ss:=[tK],f:=λd=>.seq Tryz.prog [nD,o7] (dR d.1.2.2.2.1),pre:=λd=>d.1.2.2.2.1.length<=1000000/\∀x∈d.1.2.2.2.1,x.2.1.length<=1000000 }
abbrev apE:List (Nat×CT):=[]
abbrev al7(vs:List VD) (ms cs:List ByteArray) (fs:List FD) (ts:List SD):Nat->Option (St->kH):=λk=>match k with
 | 1=>some λ_=>.gen { α:=Nat,slots:=λk=>[(10,.c (.v (.int .i64 k)))],res:=λ_=>[],inv:=λk=>k<=fs.length,meas:=λk=>fs.length - k } λk=>(dR (fs.take k)).length
 | 4=>some λs=>.gen { α:=Nat,slots:=λk=>[(18,.c (.v (.int .i64 k)))],res:=λ_=>[],inv:=λk=>k<=(slotL o7 s 16).length,meas:=λk=>(slotL o7 s 16).length - k } λk=>(dR (fs.take (aI s 10).toNat)).length+k
 | _=>none
abbrev hlN:List (Nat×Nat×CT):=[]
abbrev mlN:List (Nat×MK):=[]
theorem agW(vs:List VD) (ms cs:List ByteArray) (fs:List FD) (ts:List SD) (l:Nat) (aH:al6.pre ((vs,ms,cs,fs,ts,()),())):
 let z2:=λ(x:Nat)=>dR (List.take x fs);let z1:=λ(x:Nat)=>dR (List.take (x:Int).toNat fs);let z3:=λ(x_1:Nat)=>(x_1:Int)+(1:Int);(∃x,x<=fs.length/\(z2 x).length=0/\(cI 0=cI (x:Int)/\True)/\([]:List fH)=[])/\∀(x:Nat),x<=fs.length->br (decide ((x:Int) < (fs.length:Int))) ((0<=(x:Int)/\(x:Int) < (fs.length:Int))/\∀(d:ByteArray×(o7.sl.pair Sh.unit).den),fs[(x:Int).toNat]?=some d->(∃x_1,x_1<=List.length (d.snd.fst)/\(z1 x).length+x_1=(z2 x).length/\(cI 0=cI (x_1:Int)/\True)/\sm [g0 (au.blk 77 [SC.v (Value.string d.fst),SC.sl o7 d.snd.fst])])/\∀(x_1:Nat),x_1<=List.length (d.snd.fst)->br (decide ((x_1:Int) < ((List.length d.snd.fst):Int))) ((0<=(x_1:Int)/\(x_1:Int) < ((List.length d.snd.fst):Int))/\∀(dJ:ID),d.snd.fst[(x_1:Int).toNat]?=some dJ->l=l/\(dR fs)[(z1 x).length+x_1]?=some (((x:Int),(x_1:Int),()),dJ,())/\(dX IntKind.i64 (z3 x_1)/\∃x',x'<=List.length (d.snd.fst)/\(z1 x).length+x'=(z1 x).length+x_1+1/\(cI (z3 x_1)=cI (x':Int)/\True)/\sm [g0 (au.blk 77 [SC.v (Value.string d.fst),SC.sl o7 d.snd.fst])]/\List.length (d.snd.fst) - x' < List.length (d.snd.fst) - x_1)/\True) (dX IntKind.i64 (z3 x)/\∃x',x'<=fs.length/\(z2 x').length=(z1 x).length+x_1/\(cI (z3 x)=cI (x':Int)/\True)/\([]:List fH)=[]/\fs.length - x' < fs.length - x)) ((z2 x).length=aP (dR fs)):=by
 conv=>zeta
 delta fH cI g0 sm I6;have hp1:fs.length<=1000000:=aH.1;have hp2:∀x∈fs,x.2.1.length<=1000000:=aH.2;refine⟨⟨0,by omega,by simp[dR,jX],⟨rfl,trivial⟩,rfl⟩,λx hx=>ah.2 ⟨λh=>?_,λh=>?_⟩⟩
 .simp only[dV]at h;have hN:(x:Int).toNat=x:=by omega
  rw[hN];refine⟨by omega,λd hd=>?_⟩
  have hd:fs[x]?=some d:=by simpa using hd
  have hst:=RI hd;refine⟨⟨0,Iz _,by omega,⟨rfl,trivial⟩,rfl⟩,λy hy=>ah.2 ⟨λh2=>?_,λh2=>?_⟩⟩
  .simp only[dV]at h2;refine⟨by omega,λe he=>?_⟩
   have he:d.2.1[y]?=some e:=by simpa using he
   refine⟨rfl,XH hd he,⟨?_,y+1,?_,?_,⟨rfl,trivial⟩,rfl,?_⟩,trivial⟩
   .have:=hp2 d (iJ hd);exact ay.2 (by omega)
   .omega
   .omega
   .omega
  .simp only[gG]at h2;refine⟨ay.2 (by omega),x+1,by omega,?_,⟨rfl,trivial⟩,rfl,by omega⟩
   have hq:=hp2 d (iJ hd);have hy:y=d.2.1.length:=by omega
   rw[hst,kZ,JO,hy]
 .simp only[gG]at h;rw[zF (by omega),bD]
theorem agX:aav Tryz.prog aU.gd 210 al6:=by
 intro d h lb hd hg cap;obtain⟨⟨vs,ms,cs,fs,ts,⟨⟩⟩,⟨⟩⟩:=d;exact aaA (E:=aaw Tryz.prog aU 32 apE Yd hlN mlN [] [] λ_=>none) (UC (by kernel_rfl) aA trivial trivial trivial trivial) rfl Tryz.func210 (body:=jW Tryz.f210) (by kernel_rfl) (by kernel_rfl) rfl rfl rfl rfl ⟨al7 vs ms cs fs ts,λl=>cast (by kernel_rfl) (agW vs ms cs fs ts l hd)⟩ hg cap
noncomputable abbrev LV:CT:={ ps:=[tK],pre:=λd=>d.1.2.2.2.1.length<=1000000/\∀x∈d.1.2.2.2.1,x.2.1.length<=1000000,res:=λd=>([],.one (.c (.abs (.seq Tryz.prog [nD,o7] (dR d.1.2.2.2.1))))) }
noncomputable abbrev apF:List (Nat×MK):=[(210,al6)]
theorem agY(vs:List VD) (ms cs:List ByteArray) (fs:List FD) (ts:List SD) (aH:LV.pre ((vs,ms,cs,fs,ts,()),())):
 let z1:=bg.one (SV.c (SC.abs (IB.seq Tryz.prog [I6.pair (I6.pair Sh.unit),I6.pair (I6.pair (I6.pair (I6.pair (I6.pair (I6.pair nD)))))] (dR fs))));(fs.length<=1000000/\∀(x:ByteArray×(o7.sl.pair Sh.unit).den),x∈fs->List.length x.snd.fst<=1000000)/\rE z1 z1:=by
 conv=>zeta
 delta rE I6;exact⟨aH,rfl,rfl⟩
theorem abL:aW aU.gd 189 LV:=
 (oP (cx:=aU) (n:=4) (cl:=[]) (il:=Yd) (hl:=hlN) (ml:=apF) (rc:=[]) (lits:=[]) (suf:=[]) (by kernel_rfl) aA trivial trivial trivial ⟨agX,trivial⟩ Tryz.func189 (by kernel_rfl) (by kernel_rfl) rfl (by kernel_rfl) (by kernel_rfl) (by simp) λd hd=>by
  obtain⟨⟨vs,ms,cs,fs,ts,⟨⟩⟩,⟨⟩⟩:=d;exact⟨λ_=>none,cast (by kernel_rfl) (agY vs ms cs fs ts hd)⟩).met
def uQ(c:Int):Bool:=decide (97<=c/\c<=122\/65<=c/\c<=90)
abbrev ajC:CT:={ ps:=[.int .u8],pre:=λd=>True,res:=λd=>([],vB (uQ d.1)) }
theorem ag0(c:Int):
 qB (uQ c) (decide (97<=c) && decide (c<=122) || decide (65<=c) && decide (c<=90)):=by
 delta qB;refine⟨rfl,?_⟩;rw[show uQ c=(decide (97<=c) && decide (c<=122) || decide (65<=c) && decide (c<=90)) by unfold uQ;rw[MZ];simp]
theorem abM:aW aU.gd 214 ajC:=
 kL (cx:=aU) (n:=17) (cl:=[]) aA trivial Tryz.func214 λd hd=>by
  obtain⟨c,⟨⟩⟩:=d;exact⟨λ_=>none,cast (by kernel_rfl) (ag0 c)⟩
def dh(n:Int):Bool:=decide (-2147483648<=n/\n<=2147483647)
abbrev abN:CT:={ ps:=[.int .i64],pre:=λd=>True,res:=λd=>([],vB (dh d.1)) }
theorem ag3(n:Int):
 qB (dh n) (decide ((-2147483648)<=n) && decide (n<=2147483647)):=by
 delta qB;refine⟨rfl,?_⟩;rw[show dh n=(decide (-2147483648<=n) && decide (n<=2147483647)) by unfold dh;rw[MZ];simp]
theorem OW:aW aU.gd 186 abN:=
 kL (cx:=aU) (n:=9) (cl:=[]) aA trivial Tryz.func186 λd hd=>by
  obtain⟨n,⟨⟩⟩:=d;exact⟨λ_=>none,cast (by kernel_rfl) (ag3 n)⟩
abbrev RJ:CT:={ ps:=[.int .i64],pre:=λd=>True,res:=λd=>([],vB (dh d.1)) }
theorem ag4(n:Int):
 qB (dh n) (decide ((-2147483648)<=n) && decide (n<=2147483647)):=by
 delta qB;refine⟨rfl,?_⟩;rw[show dh n=(decide (-2147483648<=n) && decide (n<=2147483647)) by unfold dh;rw[MZ];simp]
theorem OX:aW aU.gd 134 RJ:=
 kL (cx:=aU) (n:=9) (cl:=[]) aA trivial Tryz.func134 λd hd=>by
  obtain⟨n,⟨⟩⟩:=d;exact⟨λ_=>none,cast (by kernel_rfl) (ag4 n)⟩
def pX(vs:List VD) (ms cs:List ByteArray) (fs:List FD) (op:Int):Int:=
 if op=8\/op=9\/op=10\/op=11\/op=12\/op=14 then vs.length else if op=15\/op=16\/op=17 then ms.length else if op=18\/op=19\/op=20 then cs.length else if op=21 then fs.length else -1
abbrev ajD:CT:={ ps:=[tK,.int .i64],pre:=λd=>True,res:=λd=>([],.one (.c (.v (.int .i64 (pX d.1.1 d.1.2.1 d.1.2.2.1 d.1.2.2.2.1 d.2.1))))) }
theorem ag5(vs:List VD) (ms cs:List ByteArray) (fs:List FD) (ts:List SD) (op:Int):
 let z7:=pX vs ms cs fs op;let z4:=qI z7 (vs.length:Int);let z5:=qI z7 (ms.length:Int);let z6:=qI z7 (cs.length:Int);let z3:=br (decide (op=21)) (qI z7 (fs.length:Int)) (qI z7 (-1:Int));let z2:=br (decide (op=18)) (br (decide (op=18)) z6 z3) (br (decide (op=19)) (br (decide (op=19)) z6 z3) (br (decide (op=20)) z6 z3));let z1:=br (decide (op=15)) (br (decide (op=15)) z5 z2) (br (decide (op=16)) (br (decide (op=16)) z5 z2) (br (decide (op=17)) z5 z2));br (decide (op=8)) (br (decide (op=8)) z4 z1) (br (decide (op=9)) (br (decide (op=9)) z4 z1) (br (decide (op=10)) (br (decide (op=10)) z4 z1) (br (decide (op=11)) (br (decide (op=11)) z4 z1) (br (decide (op=12)) (br (decide (op=12)) z4 z1) (br (decide (op=14)) z4 z1))))):=by
 conv=>zeta
 delta qI;unfold pX;simp only[ah]
 repeat' (first | (refine And.intro ?_ ?_) | (intro _))
 all_goals first | rfl | (simp_all;done) | (simp_all;omega) | grind
theorem abO:aW aU.gd 211 ajD:=
 kL (cx:=aU) (n:=35) (cl:=[]) aA trivial Tryz.func211 λd hd=>by
  obtain⟨⟨vs,ms,cs,fs,ts,⟨⟩⟩,op,⟨⟩⟩:=d;exact⟨λ_=>none,cast (by kernel_rfl) (ag5 vs ms cs fs ts op)⟩
def iD(vs:List VD):List ByteArray:=vs.map λv=>v.1
def jD(fs:List FD):List ByteArray:=fs.map λf=>f.1
abbrev RN:CT:={ ps:=[tK],pre:=λd=>d.1.1.length<=1000000,res:=λd=>([.row 9 .str (iD d.1.1)],.one (.c (.row 0))) }
abbrev al8(vs:List VD) (ms cs:List ByteArray) (fs:List FD) (ts:List SD):Nat->Option (St->kH):=λk=>match k with
 | 3=>some λ_=>.inv { α:=Nat,slots:=λk=>[(9,.c (.v (.int .i64 k))),(3,.c (.row 1))],res:=λk=>[(1,.row 9 .str (iD (vs.take k)))],inv:=λk=>k<=(vs).length,meas:=λk=>(vs).length - k,nil:=[(3,9,.str)] }
 | _=>none
theorem ag6(vs:List VD) (ms cs:List ByteArray) (fs:List FD) (ts:List SD) (aH:RN.pre ((vs,ms,cs,fs,ts,()),())):
 let z2:=[SC.sl LU vs,SC.sl Sh.str ms,SC.sl Sh.str cs,SC.sl IG fs,SC.sl nD ts];let z1:=λ(x:Nat)=>[g0 (au.blk 27 z2),g0 (au.row 9 Sh.str (iD (List.take x vs)))];(∃x,x<=vs.length/\(cI 0=cI (x:Int)/\SV.c (SC.row (Nat.succ 0))=SV.c (SC.row 1)/\True)/\[g0 (au.blk 27 z2),g0 (au.row 9 Sh.str [])]=(z1 x))/\∀(x:Nat),x<=vs.length->br (decide ((x:Int) < (vs.length:Int))) ((0<=(x:Int)/\(x:Int) < (vs.length:Int))/\∀(d:ByteArray×(I6.pair Sh.unit).den),vs[(x:Int).toNat]?=some d->oN (List.length (iD (List.take x vs))+List.length ([d.fst])) 16/\dX IntKind.i64 ((x:Int)+(1:Int))/\∃x',x'<=vs.length/\(cI ((x:Int)+(1:Int))=cI (x':Int)/\SV.c (SC.row 1)=SV.c (SC.row 1)/\True)/\[g0 (au.blk 27 z2),g0 (au.row 9 Sh.str (iD (List.take x vs)++[d.fst]))]=(z1 x')/\vs.length - x' < vs.length - x) ([au.row 9 Sh.str (iD vs)]=[au.row 9 Sh.str (iD (List.take x vs))]/\bg.one (SV.c (SC.row 0))=bg.one (SV.c (SC.row 0))):=by
 conv=>zeta
 delta cI g0 I6;have hp:(vs).length<=1000000:=aH;refine⟨⟨0,by omega,⟨rfl,rfl,trivial⟩,rfl⟩,λk hk=>ah.2 ⟨λh=>?_,λh=>?_⟩⟩
 .simp only[dV]at h;refine⟨by omega,λd hd=>?_⟩
  have hd:(vs)[k]?=some d:=by simpa using hd
  have e:iD ((vs).take (k+1))=iD ((vs).take k)++[d.1]:=by
   unfold iD;rw[Tf,hd];simp
  refine⟨?_,ay.2 (by omega),k+1,by omega,⟨rfl,rfl,trivial⟩,?_,by omega⟩
  .have:(iD ((vs).take k)).length<=1000000:=by simp[iD];omega
   exact fQ.2 (by simp only[yP,Qh];omega)
  .rw[e]
 .simp only[gG]at h;rw[zF (by omega)];exact⟨rfl,rfl⟩
theorem abP:aW aU.gd 183 RN:=
 kL (cx:=aU) (n:=20) (cl:=[]) aA trivial Tryz.func183 λd hd=>by
  obtain⟨⟨vs,ms,cs,fs,ts,⟨⟩⟩,⟨⟩⟩:=d;exact⟨al8 vs ms cs fs ts,cast (by kernel_rfl) (ag6 vs ms cs fs ts hd)⟩
abbrev RP:CT:={ ps:=[tK],pre:=λd=>d.1.2.2.2.1.length<=1000000,res:=λd=>([.row 9 .str (jD d.1.2.2.2.1)],.one (.c (.row 0))) }
abbrev al9(vs:List VD) (ms cs:List ByteArray) (fs:List FD) (ts:List SD):Nat->Option (St->kH):=λk=>match k with
 | 3=>some λ_=>.inv { α:=Nat,slots:=λk=>[(9,.c (.v (.int .i64 k))),(3,.c (.row 1))],res:=λk=>[(1,.row 9 .str (jD (fs.take k)))],inv:=λk=>k<=(fs).length,meas:=λk=>(fs).length - k,nil:=[(3,9,.str)] }
 | _=>none
theorem ag7(vs:List VD) (ms cs:List ByteArray) (fs:List FD) (ts:List SD) (aH:RP.pre ((vs,ms,cs,fs,ts,()),())):
 let z2:=[SC.sl LU vs,SC.sl Sh.str ms,SC.sl Sh.str cs,SC.sl IG fs,SC.sl nD ts];let z1:=λ(x:Nat)=>[g0 (au.blk 27 z2),g0 (au.row 9 Sh.str (jD (List.take x fs)))];(∃x,x<=fs.length/\(cI 0=cI (x:Int)/\SV.c (SC.row (Nat.succ 0))=SV.c (SC.row 1)/\True)/\[g0 (au.blk 27 z2),g0 (au.row 9 Sh.str [])]=(z1 x))/\∀(x:Nat),x<=fs.length->br (decide ((x:Int) < (fs.length:Int))) ((0<=(x:Int)/\(x:Int) < (fs.length:Int))/\∀(d:ByteArray×(o7.sl.pair Sh.unit).den),fs[(x:Int).toNat]?=some d->oN (List.length (jD (List.take x fs))+List.length ([d.fst])) 16/\dX IntKind.i64 ((x:Int)+(1:Int))/\∃x',x'<=fs.length/\(cI ((x:Int)+(1:Int))=cI (x':Int)/\SV.c (SC.row 1)=SV.c (SC.row 1)/\True)/\[g0 (au.blk 27 z2),g0 (au.row 9 Sh.str (jD (List.take x fs)++[d.fst]))]=(z1 x')/\fs.length - x' < fs.length - x) ([au.row 9 Sh.str (jD fs)]=[au.row 9 Sh.str (jD (List.take x fs))]/\bg.one (SV.c (SC.row 0))=bg.one (SV.c (SC.row 0))):=by
 conv=>zeta
 delta cI g0 I6;have hp:(fs).length<=1000000:=aH;refine⟨⟨0,by omega,⟨rfl,rfl,trivial⟩,rfl⟩,λk hk=>ah.2 ⟨λh=>?_,λh=>?_⟩⟩
 .simp only[dV]at h;refine⟨by omega,λd hd=>?_⟩
  have hd:(fs)[k]?=some d:=by simpa using hd
  have e:jD ((fs).take (k+1))=jD ((fs).take k)++[d.1]:=by
   unfold jD;rw[Tf,hd];simp
  refine⟨?_,ay.2 (by omega),k+1,by omega,⟨rfl,rfl,trivial⟩,?_,by omega⟩
  .have:(jD ((fs).take k)).length<=1000000:=by simp[jD];omega
   exact fQ.2 (by simp only[yP,Qh];omega)
  .rw[e]
 .simp only[gG]at h;rw[zF (by omega)];exact⟨rfl,rfl⟩
theorem abQ:aW aU.gd 185 RP:=
 kL (cx:=aU) (n:=20) (cl:=[]) aA trivial Tryz.func185 λd hd=>by
  obtain⟨⟨vs,ms,cs,fs,ts,⟨⟩⟩,⟨⟩⟩:=d;exact⟨al9 vs ms cs fs ts,cast (by kernel_rfl) (ag7 vs ms cs fs ts hd)⟩
def Jc(l:List ByteArray) (x:ByteArray):Int:=match l.findIdx? (λy=>decide (y=x)) with | some k=>(k:Int) | none=>-1
theorem RQ{l:List ByteArray}{x:ByteArray} (hd:l[k]?=some x) (hn:∀j < k,∀y,l[j]?=some y->y≠x):Jc l x=k:=by
 have iq:k < l.length:=(eU.1 hd).1;have:l.findIdx? (λy=>decide (y=x))=some k:=by
  rw[A50];refine⟨iq,by have:=(eU.1 hd).2;simp[this],λj hj=>?_⟩
  have:=hn j hj l[j] (kP (by omega))
  simpa using this
 simp[Jc,this]
theorem XI{l:List ByteArray}{x:ByteArray} (hn:∀(j:Nat) y,l[j]?=some y->y≠x):Jc l x = -1:=by
 have:l.findIdx? (λy=>decide (y=x))=none:=by
  rw[A71];intro y hy;obtain⟨j,hj⟩:=II hy;simpa using hn j y hj
 simp[Jc,this]
abbrev RS:CT:={ ps:=[.sl .str,.str],pre:=λd=>d.1.length<=1000000,res:=λd=>([],.one (.c (.v (.int .i64 (Jc d.1 d.2.1))))) }
abbrev ama(l:List ByteArray) (x:ByteArray):Nat->Option (St->kH):=λk=>match k with
 | 2=>some λ_=>.inv { α:=Nat,slots:=λk=>[(8,.c (.v (.int .i64 k)))],res:=λk=>[],inv:=λk=>k<=(l).length/\∀j < k,∀y,l[j]?=some y->y≠x,meas:=λk=>(l).length - k }
 | _=>none
theorem ag8(l:List ByteArray) (x:ByteArray) (aH:RS.pre (l,x,())):
 let z1:=λ(x_1:Nat)=>(x_1<=l.length/\∀(j:Nat),j < x_1->∀(y:ByteArray),l[j]?=some y->y≠x);(∃x_1,(z1 x_1)/\(cI 0=cI (x_1:Int)/\True)/\([]:List fH)=[])/\∀(x_1:Nat),(z1 x_1)->br (decide ((x_1:Int) < (l.length:Int))) ((0<=(x_1:Int)/\(x_1:Int) < (l.length:Int))/\∀(d:ByteArray),l[(x_1:Int).toNat]?=some d->br (decide (x=d)) (qI (Jc l x) (x_1:Int)) (dX IntKind.i64 ((x_1:Int)+(1:Int))/\∃x',(x'<=l.length/\∀(j:Nat),j < x'->∀(y:ByteArray),l[j]?=some y->y≠x)/\(cI ((x_1:Int)+(1:Int))=cI (x':Int)/\True)/\([]:List fH)=[]/\l.length - x' < l.length - x_1)) (qI (Jc l x) (-1:Int)):=by
 conv=>zeta
 delta fH cI qI;refine⟨⟨0,⟨by omega,λj hj=>by omega⟩,⟨rfl,trivial⟩,rfl⟩,λk hk=>ah.2 ⟨λh=>?_,λh=>?_⟩⟩
 .simp only[dV]at h;have hp:l.length<=1000000:=aH;refine⟨by omega,λd hd=>?_⟩
  have hd:l[k]?=some d:=by simpa using hd
  refine ah.2 ⟨λhe=>?_,λhe=>⟨ay.2 (by omega),k+1,⟨by omega,λj hj y hy=>?_⟩,⟨rfl,trivial⟩,rfl,by omega⟩⟩
  .have he:x=d:=by simpa using he
   rw[RQ (by rw[hd,he]) hk.2];exact⟨rfl,rfl⟩
  .by_cases ji:j=k
   .subst ji;rw[hd]at hy;cases hy;intro hh;simp[hh]at he
   .exact hk.2 j (by omega) y hy
 .simp only[gG]at h;rw[XI (λj y hy=>hk.2 j (by have:=(eU.1 hy).1;omega) y hy)];exact⟨rfl,rfl⟩
theorem abR:aW aU.gd 215 RS:=
 kL (cx:=aU) (n:=19) (cl:=[]) aA trivial Tryz.func215 λd hd=>by
  obtain⟨l,x,⟨⟩⟩:=d;exact⟨ama l x,cast (by kernel_rfl) (ag8 l x hd)⟩
def vT(l:List ByteArray) (x:ByteArray):Bool:=l.any λy=>decide (y=x)
theorem abS(l:List ByteArray) (x:ByteArray):vT l x=decide (0<=Jc l x):=by
 have h:=List.findIdx?_isSome (xs:=l) (p:=λy=>decide (y=x))
 unfold vT Jc;rw[<-h];cases l.findIdx? (λy=>decide (y=x)) with
 | none=>rfl
 | some k=>simp
abbrev RU:CT:={ ps:=[.sl .str,.str],pre:=λd=>d.1.length<=1000000,res:=λd=>([],vB (vT d.1 d.2.1)) }
theorem ag9(l:List ByteArray) (x:ByteArray) (aH:RU.pre (l,x,())):
 l.length<=1000000/\qB (vT l x) (decide (0<=Jc l x)):=by
 delta qB;refine⟨aH,rfl,?_⟩;rw[abS]
theorem abT:aW aU.gd 209 RU:=
 kL (cx:=aU) (n:=9) (cl:=[(215,RS)]) aA ⟨abR,trivial⟩ Tryz.func209 λd hd=>by
  obtain⟨l,x,⟨⟩⟩:=d;exact⟨λ_=>none,cast (by kernel_rfl) (ag9 l x hd)⟩
end Go.Proofs.YtjhenjhcbcalpaaGreatDoor
