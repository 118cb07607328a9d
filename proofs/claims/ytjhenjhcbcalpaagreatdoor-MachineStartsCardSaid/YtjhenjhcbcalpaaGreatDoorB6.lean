/- Texts of this claim, part 6: T1, S0, C1, V1, K1, SH, V2, V4, V3. Conditions: those of the given rows. -/
import Derived.Test.YtjhenjhcbcalpaaGreatDoorB5
import Derived.Test.YtjhenjhcbcalpaaGreatDoorProg
import Derived.Shelf.Small.Bits
import Derived.Shelf.Strconv.Itoa0
import Derived.Shelf.Sort.Plain
import Derived.Shelf.Slices.Turned
import Derived.Shelf.Slices.Equal
import Derived.Ground.Names2Prog
import Derived.Shelf.Slices.Clone
import Derived.Shelf.Slices.CompactI
import Derived.Shelf.Slices.SearchI
import Derived.Shelf.Slices.Cells
import Derived.Shelf.Slices.In.SortNone
import Derived.Shelf.Slices.Empties2
import Derived.Ground.SlgnProg
import Derived.Shelf.SlicesE.Clone
set_option linter.unusedSimpArgs false
set_option linter.unusedVariables false
set_option maxRecDepth 1000000
set_option maxHeartbeats 8000000
namespace Go.Proofs.YtjhenjhcbcalpaaGreatDoor
open Go Go.aV
abbrev ti3:TI:={ desc:=.int .i64,size:=1,bytes:=8,zero:=[.int .i64 0],iT:=some (.int .i64) }
theorem alK:aP Tryz.prog 3 ti3:=aP.of_eq (by kernel_rfl) (by kernel_rfl) rfl rfl (aN (i:=ti3) (s0:=(.int .i64)) rfl rfl rfl rfl)
abbrev ti4:TI:={ desc:=.bool,size:=1,bytes:=1,zero:=[.bool false],iT:=some .bool }
theorem alL:aP Tryz.prog 4 ti4:=aP.of_eq (by kernel_rfl) (by kernel_rfl) rfl rfl (aN (i:=ti4) (s0:=.bool) rfl rfl rfl rfl)
abbrev ti5:TI:={ desc:=.int .u8,size:=1,bytes:=1,zero:=[.int .u8 0],iT:=some (.int .u8) }
theorem alM:aP Tryz.prog 5 ti5:=aP.of_eq (by kernel_rfl) (by kernel_rfl) rfl rfl (aN (i:=ti5) (s0:=(.int .u8)) rfl rfl rfl rfl)
abbrev ti9:TI:={ desc:=.string,size:=1,bytes:=16,zero:=[.string ⟨#[]⟩],iT:=some .str }
theorem alN:aP Tryz.prog 9 ti9:=aP.of_eq (by kernel_rfl) (by kernel_rfl) rfl rfl (aN (i:=ti9) (s0:=.str) rfl rfl rfl rfl)
abbrev alO:TI:={ desc:=.int .i32,size:=1,bytes:=4,zero:=[.int .i32 0],iT:=some (.int .i32) }
theorem afC:aP Tryz.prog 21 alO:=aP.of_eq (by kernel_rfl) (by kernel_rfl) rfl rfl (aN (i:=alO) (s0:=(.int .i32)) rfl rfl rfl rfl)
abbrev alP:TI:={ desc:=.slice 118,size:=1,bytes:=24,zero:=[.slice none 0 0],iT:=some (.sl (.pair .str (.pair (.int .i64) .unit))) }
theorem afD:aP Tryz.prog 22 alP:=aP.of_eq (by kernel_rfl) (by kernel_rfl) rfl rfl (aN (i:=alP) (s0:=(.sl (.pair .str (.pair (.int .i64) .unit)))) rfl rfl rfl rfl)
abbrev alQ:TI:={ desc:=.slice 9,size:=1,bytes:=24,zero:=[.slice none 0 0],iT:=some (.sl .str) }
theorem afE:aP Tryz.prog 23 alQ:=aP.of_eq (by kernel_rfl) (by kernel_rfl) rfl rfl (aN (i:=alQ) (s0:=(.sl .str)) rfl rfl rfl rfl)
abbrev alR:TI:={ desc:=.slice 77,size:=1,bytes:=24,zero:=[.slice none 0 0],iT:=some (.sl (.pair .str (.pair (.sl (.pair (.int .i64) (.pair (.int .i64) (.pair (.int .i64) (.pair (.int .i64) (.pair (.int .i64) (.pair (.int .i64) (.pair (.int .i64) (.pair (.int .i64) .unit))))))))) .unit))) }
theorem afF:aP Tryz.prog 24 alR:=aP.of_eq (by kernel_rfl) (by kernel_rfl) rfl rfl (aN (i:=alR) (s0:=(.sl (.pair .str (.pair (.sl (.pair (.int .i64) (.pair (.int .i64) (.pair (.int .i64) (.pair (.int .i64) (.pair (.int .i64) (.pair (.int .i64) (.pair (.int .i64) (.pair (.int .i64) .unit))))))))) .unit)))) rfl rfl rfl rfl)
abbrev alS:TI:={ desc:=.slice 82,size:=1,bytes:=24,zero:=[.slice none 0 0],iT:=some (.sl (.pair (.int .i64) (.pair (.int .i64) .unit))) }
theorem afG:aP Tryz.prog 25 alS:=aP.of_eq (by kernel_rfl) (by kernel_rfl) rfl rfl (aN (i:=alS) (s0:=(.sl (.pair (.int .i64) (.pair (.int .i64) .unit)))) rfl rfl rfl rfl)
abbrev alT:TI:={ desc:=.struct #[dZ 22 0,dZ 23 1,dZ 23 2,dZ 24 3,dZ 25 4],size:=5,bytes:=120,zero:=[.slice none 0 0,.slice none 0 0,.slice none 0 0,.slice none 0 0,.slice none 0 0],iT:=some (.pair (.sl (.pair .str (.pair (.int .i64) .unit))) (.pair (.sl .str) (.pair (.sl .str) (.pair (.sl (.pair .str (.pair (.sl (.pair (.int .i64) (.pair (.int .i64) (.pair (.int .i64) (.pair (.int .i64) (.pair (.int .i64) (.pair (.int .i64) (.pair (.int .i64) (.pair (.int .i64) .unit))))))))) .unit))) (.pair (.sl (.pair (.int .i64) (.pair (.int .i64) .unit))) .unit))))) }
theorem afH:aP Tryz.prog 26 alT:=aP.of_eq (by kernel_rfl) (by kernel_rfl) rfl rfl (aN (i:=alT) (s0:=(.pair (.sl (.pair .str (.pair (.int .i64) .unit))) (.pair (.sl .str) (.pair (.sl .str) (.pair (.sl (.pair .str (.pair (.sl (.pair (.int .i64) (.pair (.int .i64) (.pair (.int .i64) (.pair (.int .i64) (.pair (.int .i64) (.pair (.int .i64) (.pair (.int .i64) (.pair (.int .i64) .unit))))))))) .unit))) (.pair (.sl (.pair (.int .i64) (.pair (.int .i64) .unit))) .unit)))))) rfl rfl rfl rfl)
abbrev alU:TI:={ desc:=.struct #[dZ 22 0,dZ 23 1,dZ 23 2,dZ 24 3,dZ 25 4],size:=5,bytes:=120,zero:=[.slice none 0 0,.slice none 0 0,.slice none 0 0,.slice none 0 0,.slice none 0 0],iT:=some (.pair (.sl (.pair .str (.pair (.int .i64) .unit))) (.pair (.sl .str) (.pair (.sl .str) (.pair (.sl (.pair .str (.pair (.sl (.pair (.int .i64) (.pair (.int .i64) (.pair (.int .i64) (.pair (.int .i64) (.pair (.int .i64) (.pair (.int .i64) (.pair (.int .i64) (.pair (.int .i64) .unit))))))))) .unit))) (.pair (.sl (.pair (.int .i64) (.pair (.int .i64) .unit))) .unit))))) }
theorem afI:aP Tryz.prog 27 alU:=aP.of_eq (by kernel_rfl) (by kernel_rfl) rfl rfl (aN (i:=alU) (s0:=(.pair (.sl (.pair .str (.pair (.int .i64) .unit))) (.pair (.sl .str) (.pair (.sl .str) (.pair (.sl (.pair .str (.pair (.sl (.pair (.int .i64) (.pair (.int .i64) (.pair (.int .i64) (.pair (.int .i64) (.pair (.int .i64) (.pair (.int .i64) (.pair (.int .i64) (.pair (.int .i64) .unit))))))))) .unit))) (.pair (.sl (.pair (.int .i64) (.pair (.int .i64) .unit))) .unit)))))) rfl rfl rfl rfl)
abbrev alV:TI:={ desc:=.slice 56,size:=1,bytes:=24,zero:=[.slice none 0 0],iT:=some (.sl (.pair (.int .i64) (.pair (.int .i64) (.pair (.int .i64) (.pair (.arr 8 (.int .i64)) (.pair (.int .i64) (.pair (.int .i64) (.pair (.int .i64) (.pair (.int .i64) (.pair (.int .i64) (.pair (.sl (.int .i64)) .unit))))))))))) }
theorem afJ:aP Tryz.prog 30 alV:=aP.of_eq (by kernel_rfl) (by kernel_rfl) rfl rfl (aN (i:=alV) (s0:=(.sl (.pair (.int .i64) (.pair (.int .i64) (.pair (.int .i64) (.pair (.arr 8 (.int .i64)) (.pair (.int .i64) (.pair (.int .i64) (.pair (.int .i64) (.pair (.int .i64) (.pair (.int .i64) (.pair (.sl (.int .i64)) .unit)))))))))))) rfl rfl rfl rfl)
abbrev alW:TI:={ desc:=.slice 3,size:=1,bytes:=24,zero:=[.slice none 0 0],iT:=some (.sl (.int .i64)) }
theorem afK:aP Tryz.prog 31 alW:=aP.of_eq (by kernel_rfl) (by kernel_rfl) rfl rfl (aN (i:=alW) (s0:=(.sl (.int .i64))) rfl rfl rfl rfl)
abbrev alX:TI:={ desc:=.slice 31,size:=1,bytes:=24,zero:=[.slice none 0 0],iT:=some (.sl (.sl (.int .i64))) }
theorem afL:aP Tryz.prog 32 alX:=aP.of_eq (by kernel_rfl) (by kernel_rfl) rfl rfl (aN (i:=alX) (s0:=(.sl (.sl (.int .i64)))) rfl rfl rfl rfl)
abbrev alY:TI:={ desc:=.struct #[dZ 31 0,dZ 31 1,dZ 32 2,dZ 31 3],size:=4,bytes:=96,zero:=[.slice none 0 0,.slice none 0 0,.slice none 0 0,.slice none 0 0],iT:=some (.pair (.sl (.int .i64)) (.pair (.sl (.int .i64)) (.pair (.sl (.sl (.int .i64))) (.pair (.sl (.int .i64)) .unit)))) }
theorem afM:aP Tryz.prog 33 alY:=aP.of_eq (by kernel_rfl) (by kernel_rfl) rfl rfl (aN (i:=alY) (s0:=(.pair (.sl (.int .i64)) (.pair (.sl (.int .i64)) (.pair (.sl (.sl (.int .i64))) (.pair (.sl (.int .i64)) .unit))))) rfl rfl rfl rfl)
abbrev alZ:TI:={ desc:=.struct #[dZ 31 0,dZ 31 1,dZ 32 2,dZ 31 3],size:=4,bytes:=96,zero:=[.slice none 0 0,.slice none 0 0,.slice none 0 0,.slice none 0 0],iT:=some (.pair (.sl (.int .i64)) (.pair (.sl (.int .i64)) (.pair (.sl (.sl (.int .i64))) (.pair (.sl (.int .i64)) .unit)))) }
theorem afN:aP Tryz.prog 34 alZ:=aP.of_eq (by kernel_rfl) (by kernel_rfl) rfl rfl (aN (i:=alZ) (s0:=(.pair (.sl (.int .i64)) (.pair (.sl (.int .i64)) (.pair (.sl (.sl (.int .i64))) (.pair (.sl (.int .i64)) .unit))))) rfl rfl rfl rfl)
abbrev al0:TI:={ desc:=.slice 65,size:=1,bytes:=24,zero:=[.slice none 0 0],iT:=some (.sl (.pair (.int .i64) (.pair (.int .i64) (.pair (.sl (.pair (.int .i64) (.pair (.int .i64) .unit))) .unit)))) }
theorem afO:aP Tryz.prog 35 al0:=aP.of_eq (by kernel_rfl) (by kernel_rfl) rfl rfl (aN (i:=al0) (s0:=(.sl (.pair (.int .i64) (.pair (.int .i64) (.pair (.sl (.pair (.int .i64) (.pair (.int .i64) .unit))) .unit))))) rfl rfl rfl rfl)
abbrev al1:TI:={ desc:=.struct #[dZ 30 0,dZ 34 1,dZ 35 5],size:=6,bytes:=144,zero:=[.slice none 0 0,.slice none 0 0,.slice none 0 0,.slice none 0 0,.slice none 0 0,.slice none 0 0],iT:=some (.pair (.sl (.pair (.int .i64) (.pair (.int .i64) (.pair (.int .i64) (.pair (.arr 8 (.int .i64)) (.pair (.int .i64) (.pair (.int .i64) (.pair (.int .i64) (.pair (.int .i64) (.pair (.int .i64) (.pair (.sl (.int .i64)) .unit))))))))))) (.pair (.pair (.sl (.int .i64)) (.pair (.sl (.int .i64)) (.pair (.sl (.sl (.int .i64))) (.pair (.sl (.int .i64)) .unit)))) (.pair (.sl (.pair (.int .i64) (.pair (.int .i64) (.pair (.sl (.pair (.int .i64) (.pair (.int .i64) .unit))) .unit)))) .unit))) }
theorem afP:aP Tryz.prog 36 al1:=aP.of_eq (by kernel_rfl) (by kernel_rfl) rfl rfl (aN (i:=al1) (s0:=(.pair (.sl (.pair (.int .i64) (.pair (.int .i64) (.pair (.int .i64) (.pair (.arr 8 (.int .i64)) (.pair (.int .i64) (.pair (.int .i64) (.pair (.int .i64) (.pair (.int .i64) (.pair (.int .i64) (.pair (.sl (.int .i64)) .unit))))))))))) (.pair (.pair (.sl (.int .i64)) (.pair (.sl (.int .i64)) (.pair (.sl (.sl (.int .i64))) (.pair (.sl (.int .i64)) .unit)))) (.pair (.sl (.pair (.int .i64) (.pair (.int .i64) (.pair (.sl (.pair (.int .i64) (.pair (.int .i64) .unit))) .unit)))) .unit)))) rfl rfl rfl rfl)
abbrev al2:TI:={ desc:=.struct #[dZ 30 0,dZ 34 1,dZ 35 5],size:=6,bytes:=144,zero:=[.slice none 0 0,.slice none 0 0,.slice none 0 0,.slice none 0 0,.slice none 0 0,.slice none 0 0],iT:=some (.pair (.sl (.pair (.int .i64) (.pair (.int .i64) (.pair (.int .i64) (.pair (.arr 8 (.int .i64)) (.pair (.int .i64) (.pair (.int .i64) (.pair (.int .i64) (.pair (.int .i64) (.pair (.int .i64) (.pair (.sl (.int .i64)) .unit))))))))))) (.pair (.pair (.sl (.int .i64)) (.pair (.sl (.int .i64)) (.pair (.sl (.sl (.int .i64))) (.pair (.sl (.int .i64)) .unit)))) (.pair (.sl (.pair (.int .i64) (.pair (.int .i64) (.pair (.sl (.pair (.int .i64) (.pair (.int .i64) .unit))) .unit)))) .unit))) }
theorem afQ:aP Tryz.prog 37 al2:=aP.of_eq (by kernel_rfl) (by kernel_rfl) rfl rfl (aN (i:=al2) (s0:=(.pair (.sl (.pair (.int .i64) (.pair (.int .i64) (.pair (.int .i64) (.pair (.arr 8 (.int .i64)) (.pair (.int .i64) (.pair (.int .i64) (.pair (.int .i64) (.pair (.int .i64) (.pair (.int .i64) (.pair (.sl (.int .i64)) .unit))))))))))) (.pair (.pair (.sl (.int .i64)) (.pair (.sl (.int .i64)) (.pair (.sl (.sl (.int .i64))) (.pair (.sl (.int .i64)) .unit)))) (.pair (.sl (.pair (.int .i64) (.pair (.int .i64) (.pair (.sl (.pair (.int .i64) (.pair (.int .i64) .unit))) .unit)))) .unit)))) rfl rfl rfl rfl)
abbrev al3:TI:={ desc:=.int .i64,size:=1,bytes:=8,zero:=[.int .i64 0],iT:=some (.int .i64) }
theorem afR:aP Tryz.prog 38 al3:=aP.of_eq (by kernel_rfl) (by kernel_rfl) rfl rfl (aN (i:=al3) (s0:=(.int .i64)) rfl rfl rfl rfl)
abbrev al4:TI:={ desc:=.struct #[dZ 27 0,dZ 3 5,dZ 3 6,dZ 37 7],size:=13,bytes:=280,zero:=[.slice none 0 0,.slice none 0 0,.slice none 0 0,.slice none 0 0,.slice none 0 0,.int .i64 0,.int .i64 0,.slice none 0 0,.slice none 0 0,.slice none 0 0,.slice none 0 0,.slice none 0 0,.slice none 0 0],iT:=some (.pair (.pair (.sl (.pair .str (.pair (.int .i64) .unit))) (.pair (.sl .str) (.pair (.sl .str) (.pair (.sl (.pair .str (.pair (.sl (.pair (.int .i64) (.pair (.int .i64) (.pair (.int .i64) (.pair (.int .i64) (.pair (.int .i64) (.pair (.int .i64) (.pair (.int .i64) (.pair (.int .i64) .unit))))))))) .unit))) (.pair (.sl (.pair (.int .i64) (.pair (.int .i64) .unit))) .unit))))) (.pair (.int .i64) (.pair (.int .i64) (.pair (.pair (.sl (.pair (.int .i64) (.pair (.int .i64) (.pair (.int .i64) (.pair (.arr 8 (.int .i64)) (.pair (.int .i64) (.pair (.int .i64) (.pair (.int .i64) (.pair (.int .i64) (.pair (.int .i64) (.pair (.sl (.int .i64)) .unit))))))))))) (.pair (.pair (.sl (.int .i64)) (.pair (.sl (.int .i64)) (.pair (.sl (.sl (.int .i64))) (.pair (.sl (.int .i64)) .unit)))) (.pair (.sl (.pair (.int .i64) (.pair (.int .i64) (.pair (.sl (.pair (.int .i64) (.pair (.int .i64) .unit))) .unit)))) .unit))) .unit)))) }
theorem afS:aP Tryz.prog 43 al4:=aP.of_eq (by kernel_rfl) (by kernel_rfl) rfl rfl (aN (i:=al4) (s0:=(.pair (.pair (.sl (.pair .str (.pair (.int .i64) .unit))) (.pair (.sl .str) (.pair (.sl .str) (.pair (.sl (.pair .str (.pair (.sl (.pair (.int .i64) (.pair (.int .i64) (.pair (.int .i64) (.pair (.int .i64) (.pair (.int .i64) (.pair (.int .i64) (.pair (.int .i64) (.pair (.int .i64) .unit))))))))) .unit))) (.pair (.sl (.pair (.int .i64) (.pair (.int .i64) .unit))) .unit))))) (.pair (.int .i64) (.pair (.int .i64) (.pair (.pair (.sl (.pair (.int .i64) (.pair (.int .i64) (.pair (.int .i64) (.pair (.arr 8 (.int .i64)) (.pair (.int .i64) (.pair (.int .i64) (.pair (.int .i64) (.pair (.int .i64) (.pair (.int .i64) (.pair (.sl (.int .i64)) .unit))))))))))) (.pair (.pair (.sl (.int .i64)) (.pair (.sl (.int .i64)) (.pair (.sl (.sl (.int .i64))) (.pair (.sl (.int .i64)) .unit)))) (.pair (.sl (.pair (.int .i64) (.pair (.int .i64) (.pair (.sl (.pair (.int .i64) (.pair (.int .i64) .unit))) .unit)))) .unit))) .unit))))) rfl rfl rfl rfl)
abbrev al5:TI:={ desc:=.struct #[dZ 27 0,dZ 3 5,dZ 3 6,dZ 37 7],size:=13,bytes:=280,zero:=[.slice none 0 0,.slice none 0 0,.slice none 0 0,.slice none 0 0,.slice none 0 0,.int .i64 0,.int .i64 0,.slice none 0 0,.slice none 0 0,.slice none 0 0,.slice none 0 0,.slice none 0 0,.slice none 0 0],iT:=some (.pair (.pair (.sl (.pair .str (.pair (.int .i64) .unit))) (.pair (.sl .str) (.pair (.sl .str) (.pair (.sl (.pair .str (.pair (.sl (.pair (.int .i64) (.pair (.int .i64) (.pair (.int .i64) (.pair (.int .i64) (.pair (.int .i64) (.pair (.int .i64) (.pair (.int .i64) (.pair (.int .i64) .unit))))))))) .unit))) (.pair (.sl (.pair (.int .i64) (.pair (.int .i64) .unit))) .unit))))) (.pair (.int .i64) (.pair (.int .i64) (.pair (.pair (.sl (.pair (.int .i64) (.pair (.int .i64) (.pair (.int .i64) (.pair (.arr 8 (.int .i64)) (.pair (.int .i64) (.pair (.int .i64) (.pair (.int .i64) (.pair (.int .i64) (.pair (.int .i64) (.pair (.sl (.int .i64)) .unit))))))))))) (.pair (.pair (.sl (.int .i64)) (.pair (.sl (.int .i64)) (.pair (.sl (.sl (.int .i64))) (.pair (.sl (.int .i64)) .unit)))) (.pair (.sl (.pair (.int .i64) (.pair (.int .i64) (.pair (.sl (.pair (.int .i64) (.pair (.int .i64) .unit))) .unit)))) .unit))) .unit)))) }
theorem afT:aP Tryz.prog 44 al5:=aP.of_eq (by kernel_rfl) (by kernel_rfl) rfl rfl (aN (i:=al5) (s0:=(.pair (.pair (.sl (.pair .str (.pair (.int .i64) .unit))) (.pair (.sl .str) (.pair (.sl .str) (.pair (.sl (.pair .str (.pair (.sl (.pair (.int .i64) (.pair (.int .i64) (.pair (.int .i64) (.pair (.int .i64) (.pair (.int .i64) (.pair (.int .i64) (.pair (.int .i64) (.pair (.int .i64) .unit))))))))) .unit))) (.pair (.sl (.pair (.int .i64) (.pair (.int .i64) .unit))) .unit))))) (.pair (.int .i64) (.pair (.int .i64) (.pair (.pair (.sl (.pair (.int .i64) (.pair (.int .i64) (.pair (.int .i64) (.pair (.arr 8 (.int .i64)) (.pair (.int .i64) (.pair (.int .i64) (.pair (.int .i64) (.pair (.int .i64) (.pair (.int .i64) (.pair (.sl (.int .i64)) .unit))))))))))) (.pair (.pair (.sl (.int .i64)) (.pair (.sl (.int .i64)) (.pair (.sl (.sl (.int .i64))) (.pair (.sl (.int .i64)) .unit)))) (.pair (.sl (.pair (.int .i64) (.pair (.int .i64) (.pair (.sl (.pair (.int .i64) (.pair (.int .i64) .unit))) .unit)))) .unit))) .unit))))) rfl rfl rfl rfl)
abbrev al6:TI:={ desc:=.int .i64,size:=1,bytes:=8,zero:=[.int .i64 0],iT:=some (.int .i64) }
theorem afU:aP Tryz.prog 46 al6:=aP.of_eq (by kernel_rfl) (by kernel_rfl) rfl rfl (aN (i:=al6) (s0:=(.int .i64)) rfl rfl rfl rfl)
abbrev al7:TI:={ desc:=.int .i64,size:=1,bytes:=8,zero:=[.int .i64 0],iT:=some (.int .i64) }
theorem afV:aP Tryz.prog 47 al7:=aP.of_eq (by kernel_rfl) (by kernel_rfl) rfl rfl (aN (i:=al7) (s0:=(.int .i64)) rfl rfl rfl rfl)
abbrev al8:TI:={ desc:=.struct #[dZ 3 0,dZ 3 1,dZ 46 2,dZ 3 3,dZ 3 4,dZ 3 5,dZ 47 6,dZ 3 7,dZ 3 8],size:=9,bytes:=72,zero:=[.int .i64 0,.int .i64 0,.int .i64 0,.int .i64 0,.int .i64 0,.int .i64 0,.int .i64 0,.int .i64 0,.int .i64 0],iT:=some (.pair (.int .i64) (.pair (.int .i64) (.pair (.int .i64) (.pair (.int .i64) (.pair (.int .i64) (.pair (.int .i64) (.pair (.int .i64) (.pair (.int .i64) (.pair (.int .i64) .unit))))))))),Ar:=[.i,.i,.i,.i,.i,.i,.i,.i,.i] }
theorem afW:aP Tryz.prog 48 al8:=aP.of_eq (by kernel_rfl) (by kernel_rfl) rfl rfl (aN (i:=al8) (s0:=(.pair (.int .i64) (.pair (.int .i64) (.pair (.int .i64) (.pair (.int .i64) (.pair (.int .i64) (.pair (.int .i64) (.pair (.int .i64) (.pair (.int .i64) (.pair (.int .i64) .unit)))))))))) rfl rfl rfl rfl) (λ_=>by kernel_rfl)
abbrev al9:TI:={ desc:=.struct #[dZ 3 0,dZ 3 1,dZ 46 2,dZ 3 3,dZ 3 4,dZ 3 5,dZ 47 6,dZ 3 7,dZ 3 8],size:=9,bytes:=72,zero:=[.int .i64 0,.int .i64 0,.int .i64 0,.int .i64 0,.int .i64 0,.int .i64 0,.int .i64 0,.int .i64 0,.int .i64 0],iT:=some (.pair (.int .i64) (.pair (.int .i64) (.pair (.int .i64) (.pair (.int .i64) (.pair (.int .i64) (.pair (.int .i64) (.pair (.int .i64) (.pair (.int .i64) (.pair (.int .i64) .unit))))))))),Ar:=[.i,.i,.i,.i,.i,.i,.i,.i,.i] }
theorem afX:aP Tryz.prog 49 al9:=aP.of_eq (by kernel_rfl) (by kernel_rfl) rfl rfl (aN (i:=al9) (s0:=(.pair (.int .i64) (.pair (.int .i64) (.pair (.int .i64) (.pair (.int .i64) (.pair (.int .i64) (.pair (.int .i64) (.pair (.int .i64) (.pair (.int .i64) (.pair (.int .i64) .unit)))))))))) rfl rfl rfl rfl) (λ_=>by kernel_rfl)
abbrev ama:TI:={ desc:=.array 8 3,size:=8,bytes:=64,zero:=[.int .i64 0,.int .i64 0,.int .i64 0,.int .i64 0,.int .i64 0,.int .i64 0,.int .i64 0,.int .i64 0],iT:=some (.arr 8 (.int .i64)),Ar:=[.i] }
theorem afY:aP Tryz.prog 52 ama:=aP.of_eq (by kernel_rfl) (by kernel_rfl) rfl rfl (aN (i:=ama) (s0:=(.arr 8 (.int .i64))) rfl rfl rfl rfl) (λ_=>by kernel_rfl)
abbrev amb:TI:={ desc:=.int .i64,size:=1,bytes:=8,zero:=[.int .i64 0],iT:=some (.int .i64) }
theorem afZ:aP Tryz.prog 53 amb:=aP.of_eq (by kernel_rfl) (by kernel_rfl) rfl rfl (aN (i:=amb) (s0:=(.int .i64)) rfl rfl rfl rfl)
abbrev amc:TI:={ desc:=.int .i64,size:=1,bytes:=8,zero:=[.int .i64 0],iT:=some (.int .i64) }
theorem af0:aP Tryz.prog 54 amc:=aP.of_eq (by kernel_rfl) (by kernel_rfl) rfl rfl (aN (i:=amc) (s0:=(.int .i64)) rfl rfl rfl rfl)
abbrev amd:TI:={ desc:=.struct #[dZ 3 0,dZ 3 1,dZ 3 2,dZ 52 3,dZ 3 11,dZ 3 12,dZ 53 13,dZ 54 14,dZ 38 15,dZ 31 16],size:=17,bytes:=152,zero:=[.int .i64 0,.int .i64 0,.int .i64 0,.int .i64 0,.int .i64 0,.int .i64 0,.int .i64 0,.int .i64 0,.int .i64 0,.int .i64 0,.int .i64 0,.int .i64 0,.int .i64 0,.int .i64 0,.int .i64 0,.int .i64 0,.slice none 0 0],iT:=some (.pair (.int .i64) (.pair (.int .i64) (.pair (.int .i64) (.pair (.arr 8 (.int .i64)) (.pair (.int .i64) (.pair (.int .i64) (.pair (.int .i64) (.pair (.int .i64) (.pair (.int .i64) (.pair (.sl (.int .i64)) .unit)))))))))) }
theorem af2:aP Tryz.prog 55 amd:=aP.of_eq (by kernel_rfl) (by kernel_rfl) rfl rfl (aN (i:=amd) (s0:=(.pair (.int .i64) (.pair (.int .i64) (.pair (.int .i64) (.pair (.arr 8 (.int .i64)) (.pair (.int .i64) (.pair (.int .i64) (.pair (.int .i64) (.pair (.int .i64) (.pair (.int .i64) (.pair (.sl (.int .i64)) .unit))))))))))) rfl rfl rfl rfl)
abbrev ame:TI:={ desc:=.struct #[dZ 3 0,dZ 3 1,dZ 3 2,dZ 52 3,dZ 3 11,dZ 3 12,dZ 53 13,dZ 54 14,dZ 38 15,dZ 31 16],size:=17,bytes:=152,zero:=[.int .i64 0,.int .i64 0,.int .i64 0,.int .i64 0,.int .i64 0,.int .i64 0,.int .i64 0,.int .i64 0,.int .i64 0,.int .i64 0,.int .i64 0,.int .i64 0,.int .i64 0,.int .i64 0,.int .i64 0,.int .i64 0,.slice none 0 0],iT:=some (.pair (.int .i64) (.pair (.int .i64) (.pair (.int .i64) (.pair (.arr 8 (.int .i64)) (.pair (.int .i64) (.pair (.int .i64) (.pair (.int .i64) (.pair (.int .i64) (.pair (.int .i64) (.pair (.sl (.int .i64)) .unit)))))))))) }
theorem af4:aP Tryz.prog 56 ame:=aP.of_eq (by kernel_rfl) (by kernel_rfl) rfl rfl (aN (i:=ame) (s0:=(.pair (.int .i64) (.pair (.int .i64) (.pair (.int .i64) (.pair (.arr 8 (.int .i64)) (.pair (.int .i64) (.pair (.int .i64) (.pair (.int .i64) (.pair (.int .i64) (.pair (.int .i64) (.pair (.sl (.int .i64)) .unit))))))))))) rfl rfl rfl rfl)
abbrev amf:TI:={ desc:=.slice 67,size:=1,bytes:=24,zero:=[.slice none 0 0],iT:=some (.sl (.pair (.int .i64) (.pair (.int .i64) .unit))) }
theorem af5:aP Tryz.prog 63 amf:=aP.of_eq (by kernel_rfl) (by kernel_rfl) rfl rfl (aN (i:=amf) (s0:=(.sl (.pair (.int .i64) (.pair (.int .i64) .unit)))) rfl rfl rfl rfl)
abbrev amg:TI:={ desc:=.struct #[dZ 3 0,dZ 3 1,dZ 63 2],size:=3,bytes:=40,zero:=[.int .i64 0,.int .i64 0,.slice none 0 0],iT:=some (.pair (.int .i64) (.pair (.int .i64) (.pair (.sl (.pair (.int .i64) (.pair (.int .i64) .unit))) .unit))) }
theorem af6:aP Tryz.prog 64 amg:=aP.of_eq (by kernel_rfl) (by kernel_rfl) rfl rfl (aN (i:=amg) (s0:=(.pair (.int .i64) (.pair (.int .i64) (.pair (.sl (.pair (.int .i64) (.pair (.int .i64) .unit))) .unit)))) rfl rfl rfl rfl)
abbrev amh:TI:={ desc:=.struct #[dZ 3 0,dZ 3 1,dZ 63 2],size:=3,bytes:=40,zero:=[.int .i64 0,.int .i64 0,.slice none 0 0],iT:=some (.pair (.int .i64) (.pair (.int .i64) (.pair (.sl (.pair (.int .i64) (.pair (.int .i64) .unit))) .unit))) }
theorem af7:aP Tryz.prog 65 amh:=aP.of_eq (by kernel_rfl) (by kernel_rfl) rfl rfl (aN (i:=amh) (s0:=(.pair (.int .i64) (.pair (.int .i64) (.pair (.sl (.pair (.int .i64) (.pair (.int .i64) .unit))) .unit)))) rfl rfl rfl rfl)
abbrev ami:TI:={ desc:=.struct #[dZ 3 0,dZ 3 1],size:=2,bytes:=16,zero:=[.int .i64 0,.int .i64 0],iT:=some (.pair (.int .i64) (.pair (.int .i64) .unit)),Ar:=[.i,.i] }
theorem af8:aP Tryz.prog 66 ami:=aP.of_eq (by kernel_rfl) (by kernel_rfl) rfl rfl (aN (i:=ami) (s0:=(.pair (.int .i64) (.pair (.int .i64) .unit))) rfl rfl rfl rfl) (λ_=>by kernel_rfl)
abbrev amj:TI:={ desc:=.struct #[dZ 3 0,dZ 3 1],size:=2,bytes:=16,zero:=[.int .i64 0,.int .i64 0],iT:=some (.pair (.int .i64) (.pair (.int .i64) .unit)),Ar:=[.i,.i] }
theorem af9:aP Tryz.prog 67 amj:=aP.of_eq (by kernel_rfl) (by kernel_rfl) rfl rfl (aN (i:=amj) (s0:=(.pair (.int .i64) (.pair (.int .i64) .unit))) rfl rfl rfl rfl) (λ_=>by kernel_rfl)
abbrev amk:TI:={ desc:=.slice 91,size:=1,bytes:=24,zero:=[.slice none 0 0],iT:=some (.sl (.pair (.int .i64) (.pair (.int .i64) (.pair (.int .i64) (.pair (.int .i64) (.pair (.int .i64) (.pair (.int .i64) (.pair (.int .i64) (.pair (.int .i64) .unit))))))))) }
theorem aga:aP Tryz.prog 75 amk:=aP.of_eq (by kernel_rfl) (by kernel_rfl) rfl rfl (aN (i:=amk) (s0:=(.sl (.pair (.int .i64) (.pair (.int .i64) (.pair (.int .i64) (.pair (.int .i64) (.pair (.int .i64) (.pair (.int .i64) (.pair (.int .i64) (.pair (.int .i64) .unit)))))))))) rfl rfl rfl rfl)
abbrev aml:TI:={ desc:=.struct #[dZ 9 0,dZ 75 1],size:=2,bytes:=40,zero:=[.string ⟨#[]⟩,.slice none 0 0],iT:=some (.pair .str (.pair (.sl (.pair (.int .i64) (.pair (.int .i64) (.pair (.int .i64) (.pair (.int .i64) (.pair (.int .i64) (.pair (.int .i64) (.pair (.int .i64) (.pair (.int .i64) .unit))))))))) .unit)) }
theorem agb:aP Tryz.prog 76 aml:=aP.of_eq (by kernel_rfl) (by kernel_rfl) rfl rfl (aN (i:=aml) (s0:=(.pair .str (.pair (.sl (.pair (.int .i64) (.pair (.int .i64) (.pair (.int .i64) (.pair (.int .i64) (.pair (.int .i64) (.pair (.int .i64) (.pair (.int .i64) (.pair (.int .i64) .unit))))))))) .unit))) rfl rfl rfl rfl)
abbrev amm:TI:={ desc:=.struct #[dZ 9 0,dZ 75 1],size:=2,bytes:=40,zero:=[.string ⟨#[]⟩,.slice none 0 0],iT:=some (.pair .str (.pair (.sl (.pair (.int .i64) (.pair (.int .i64) (.pair (.int .i64) (.pair (.int .i64) (.pair (.int .i64) (.pair (.int .i64) (.pair (.int .i64) (.pair (.int .i64) .unit))))))))) .unit)) }
theorem agc:aP Tryz.prog 77 amm:=aP.of_eq (by kernel_rfl) (by kernel_rfl) rfl rfl (aN (i:=amm) (s0:=(.pair .str (.pair (.sl (.pair (.int .i64) (.pair (.int .i64) (.pair (.int .i64) (.pair (.int .i64) (.pair (.int .i64) (.pair (.int .i64) (.pair (.int .i64) (.pair (.int .i64) .unit))))))))) .unit))) rfl rfl rfl rfl)
abbrev amn:TI:={ desc:=.struct #[dZ 3 0,dZ 3 1],size:=2,bytes:=16,zero:=[.int .i64 0,.int .i64 0],iT:=some (.pair (.int .i64) (.pair (.int .i64) .unit)),Ar:=[.i,.i] }
theorem agd:aP Tryz.prog 81 amn:=aP.of_eq (by kernel_rfl) (by kernel_rfl) rfl rfl (aN (i:=amn) (s0:=(.pair (.int .i64) (.pair (.int .i64) .unit))) rfl rfl rfl rfl) (λ_=>by kernel_rfl)
abbrev amo:TI:={ desc:=.struct #[dZ 3 0,dZ 3 1],size:=2,bytes:=16,zero:=[.int .i64 0,.int .i64 0],iT:=some (.pair (.int .i64) (.pair (.int .i64) .unit)),Ar:=[.i,.i] }
theorem agf:aP Tryz.prog 82 amo:=aP.of_eq (by kernel_rfl) (by kernel_rfl) rfl rfl (aN (i:=amo) (s0:=(.pair (.int .i64) (.pair (.int .i64) .unit))) rfl rfl rfl rfl) (λ_=>by kernel_rfl)
abbrev amr:TI:={ desc:=.int .i64,size:=1,bytes:=8,zero:=[.int .i64 0],iT:=some (.int .i64) }
theorem agh:aP Tryz.prog 88 amr:=aP.of_eq (by kernel_rfl) (by kernel_rfl) rfl rfl (aN (i:=amr) (s0:=(.int .i64)) rfl rfl rfl rfl)
abbrev ams:TI:={ desc:=.int .i64,size:=1,bytes:=8,zero:=[.int .i64 0],iT:=some (.int .i64) }
theorem agi:aP Tryz.prog 89 ams:=aP.of_eq (by kernel_rfl) (by kernel_rfl) rfl rfl (aN (i:=ams) (s0:=(.int .i64)) rfl rfl rfl rfl)
abbrev amu:TI:={ desc:=.struct #[dZ 88 0,dZ 3 1,dZ 3 2,dZ 3 3,dZ 3 4,dZ 3 5,dZ 89 6,dZ 47 7],size:=8,bytes:=64,zero:=[.int .i64 0,.int .i64 0,.int .i64 0,.int .i64 0,.int .i64 0,.int .i64 0,.int .i64 0,.int .i64 0],iT:=some (.pair (.int .i64) (.pair (.int .i64) (.pair (.int .i64) (.pair (.int .i64) (.pair (.int .i64) (.pair (.int .i64) (.pair (.int .i64) (.pair (.int .i64) .unit)))))))),Ar:=[.i,.i,.i,.i,.i,.i,.i,.i] }
theorem agj:aP Tryz.prog 90 amu:=aP.of_eq (by kernel_rfl) (by kernel_rfl) rfl rfl (aN (i:=amu) (s0:=(.pair (.int .i64) (.pair (.int .i64) (.pair (.int .i64) (.pair (.int .i64) (.pair (.int .i64) (.pair (.int .i64) (.pair (.int .i64) (.pair (.int .i64) .unit))))))))) rfl rfl rfl rfl) (λ_=>by kernel_rfl)
abbrev amv:TI:={ desc:=.struct #[dZ 88 0,dZ 3 1,dZ 3 2,dZ 3 3,dZ 3 4,dZ 3 5,dZ 89 6,dZ 47 7],size:=8,bytes:=64,zero:=[.int .i64 0,.int .i64 0,.int .i64 0,.int .i64 0,.int .i64 0,.int .i64 0,.int .i64 0,.int .i64 0],iT:=some (.pair (.int .i64) (.pair (.int .i64) (.pair (.int .i64) (.pair (.int .i64) (.pair (.int .i64) (.pair (.int .i64) (.pair (.int .i64) (.pair (.int .i64) .unit)))))))),Ar:=[.i,.i,.i,.i,.i,.i,.i,.i] }
theorem agk:aP Tryz.prog 91 amv:=aP.of_eq (by kernel_rfl) (by kernel_rfl) rfl rfl (aN (i:=amv) (s0:=(.pair (.int .i64) (.pair (.int .i64) (.pair (.int .i64) (.pair (.int .i64) (.pair (.int .i64) (.pair (.int .i64) (.pair (.int .i64) (.pair (.int .i64) .unit))))))))) rfl rfl rfl rfl) (λ_=>by kernel_rfl)
abbrev aat:TI:={ desc:=.struct #[dZ 9 0,dZ 3 1],size:=2,bytes:=24,zero:=[.string ⟨#[]⟩,.int .i64 0],iT:=some (.pair .str (.pair (.int .i64) .unit)),Ar:=[.s,.i] }
theorem aau:aP Tryz.prog 117 aat:=aP.of_eq (by kernel_rfl) (by kernel_rfl) rfl rfl (aN (i:=aat) (s0:=(.pair .str (.pair (.int .i64) .unit))) rfl rfl rfl rfl) (λ_=>by kernel_rfl)
abbrev aav:TI:={ desc:=.struct #[dZ 9 0,dZ 3 1],size:=2,bytes:=24,zero:=[.string ⟨#[]⟩,.int .i64 0],iT:=some (.pair .str (.pair (.int .i64) .unit)),Ar:=[.s,.i] }
theorem aaw:aP Tryz.prog 118 aav:=aP.of_eq (by kernel_rfl) (by kernel_rfl) rfl rfl (aN (i:=aav) (s0:=(.pair .str (.pair (.int .i64) .unit))) rfl rfl rfl rfl) (λ_=>by kernel_rfl)
abbrev aax:TI:={ desc:=.int .i64,size:=1,bytes:=8,zero:=[.int .i64 0],iT:=some (.int .i64) }
theorem aay:aP Tryz.prog 151 aax:=aP.of_eq (by kernel_rfl) (by kernel_rfl) rfl rfl (aN (i:=aax) (s0:=(.int .i64)) rfl rfl rfl rfl)
abbrev aaz:TI:={ desc:=.struct #[dZ 3 0,dZ 4 1,dZ 3 2,dZ 3 3,dZ 4 4,dZ 3 5,dZ 151 6,dZ 4 7],size:=8,bytes:=64,zero:=[.int .i64 0,.bool false,.int .i64 0,.int .i64 0,.bool false,.int .i64 0,.int .i64 0,.bool false],iT:=some (.pair (.int .i64) (.pair .bool (.pair (.int .i64) (.pair (.int .i64) (.pair .bool (.pair (.int .i64) (.pair (.int .i64) (.pair .bool .unit)))))))),Ar:=[.i,.b,.i,.i,.b,.i,.i,.b] }
theorem aaA:aP Tryz.prog 152 aaz:=aP.of_eq (by kernel_rfl) (by kernel_rfl) rfl rfl (aN (i:=aaz) (s0:=(.pair (.int .i64) (.pair .bool (.pair (.int .i64) (.pair (.int .i64) (.pair .bool (.pair (.int .i64) (.pair (.int .i64) (.pair .bool .unit))))))))) rfl rfl rfl rfl) (λ_=>by kernel_rfl)
abbrev aaB:TI:={ desc:=.struct #[dZ 3 0,dZ 4 1,dZ 3 2,dZ 3 3,dZ 4 4,dZ 3 5,dZ 151 6,dZ 4 7],size:=8,bytes:=64,zero:=[.int .i64 0,.bool false,.int .i64 0,.int .i64 0,.bool false,.int .i64 0,.int .i64 0,.bool false],iT:=some (.pair (.int .i64) (.pair .bool (.pair (.int .i64) (.pair (.int .i64) (.pair .bool (.pair (.int .i64) (.pair (.int .i64) (.pair .bool .unit)))))))),Ar:=[.i,.b,.i,.i,.b,.i,.i,.b] }
theorem aaC:aP Tryz.prog 153 aaB:=aP.of_eq (by kernel_rfl) (by kernel_rfl) rfl rfl (aN (i:=aaB) (s0:=(.pair (.int .i64) (.pair .bool (.pair (.int .i64) (.pair (.int .i64) (.pair .bool (.pair (.int .i64) (.pair (.int .i64) (.pair .bool .unit))))))))) rfl rfl rfl rfl) (λ_=>by kernel_rfl)
abbrev aaD:TI:={ desc:=.array 17 153,size:=136,bytes:=1088,zero:=[.int .i64 0,.bool false,.int .i64 0,.int .i64 0,.bool false,.int .i64 0,.int .i64 0,.bool false,.int .i64 0,.bool false,.int .i64 0,.int .i64 0,.bool false,.int .i64 0,.int .i64 0,.bool false,.int .i64 0,.bool false,.int .i64 0,.int .i64 0,.bool false,.int .i64 0,.int .i64 0,.bool false,.int .i64 0,.bool false,.int .i64 0,.int .i64 0,.bool false,.int .i64 0,.int .i64 0,.bool false,.int .i64 0,.bool false,.int .i64 0,.int .i64 0,.bool false,.int .i64 0,.int .i64 0,.bool false,.int .i64 0,.bool false,.int .i64 0,.int .i64 0,.bool false,.int .i64 0,.int .i64 0,.bool false,.int .i64 0,.bool false,.int .i64 0,.int .i64 0,.bool false,.int .i64 0,.int .i64 0,.bool false,.int .i64 0,.bool false,.int .i64 0,.int .i64 0,.bool false,.int .i64 0,.int .i64 0,.bool false,.int .i64 0,.bool false,.int .i64 0,.int .i64 0,.bool false,.int .i64 0,.int .i64 0,.bool false,.int .i64 0,.bool false,.int .i64 0,.int .i64 0,.bool false,.int .i64 0,.int .i64 0,.bool false,.int .i64 0,.bool false,.int .i64 0,.int .i64 0,.bool false,.int .i64 0,.int .i64 0,.bool false,.int .i64 0,.bool false,.int .i64 0,.int .i64 0,.bool false,.int .i64 0,.int .i64 0,.bool false,.int .i64 0,.bool false,.int .i64 0,.int .i64 0,.bool false,.int .i64 0,.int .i64 0,.bool false,.int .i64 0,.bool false,.int .i64 0,.int .i64 0,.bool false,.int .i64 0,.int .i64 0,.bool false,.int .i64 0,.bool false,.int .i64 0,.int .i64 0,.bool false,.int .i64 0,.int .i64 0,.bool false,.int .i64 0,.bool false,.int .i64 0,.int .i64 0,.bool false,.int .i64 0,.int .i64 0,.bool false,.int .i64 0,.bool false,.int .i64 0,.int .i64 0,.bool false,.int .i64 0,.int .i64 0,.bool false],iT:=some (.arr 17 (.pair (.int .i64) (.pair .bool (.pair (.int .i64) (.pair (.int .i64) (.pair .bool (.pair (.int .i64) (.pair (.int .i64) (.pair .bool .unit))))))))) }
theorem aaE:aP Tryz.prog 154 aaD:=aP.of_eq (by kernel_rfl) (by kernel_rfl) rfl rfl (aN (i:=aaD) (s0:=(.arr 17 (.pair (.int .i64) (.pair .bool (.pair (.int .i64) (.pair (.int .i64) (.pair .bool (.pair (.int .i64) (.pair (.int .i64) (.pair .bool .unit)))))))))) rfl rfl rfl rfl)
abbrev aaF:TI:={ desc:=.slice 158,size:=1,bytes:=24,zero:=[.slice none 0 0],iT:=some (.sl (.pair (.int .i64) (.pair (.int .i64) (.pair (.int .i64) (.pair .bool .unit))))) }
theorem aaG:aP Tryz.prog 155 aaF:=aP.of_eq (by kernel_rfl) (by kernel_rfl) rfl rfl (aN (i:=aaF) (s0:=(.sl (.pair (.int .i64) (.pair (.int .i64) (.pair (.int .i64) (.pair .bool .unit)))))) rfl rfl rfl rfl)
abbrev aaH:TI:={ desc:=.struct #[dZ 151 0,dZ 3 1,dZ 3 2,dZ 4 3],size:=4,bytes:=32,zero:=[.int .i64 0,.int .i64 0,.int .i64 0,.bool false],iT:=some (.pair (.int .i64) (.pair (.int .i64) (.pair (.int .i64) (.pair .bool .unit)))),Ar:=[.i,.i,.i,.b] }
theorem aaI:aP Tryz.prog 157 aaH:=aP.of_eq (by kernel_rfl) (by kernel_rfl) rfl rfl (aN (i:=aaH) (s0:=(.pair (.int .i64) (.pair (.int .i64) (.pair (.int .i64) (.pair .bool .unit))))) rfl rfl rfl rfl) (λ_=>by kernel_rfl)
abbrev aaJ:TI:={ desc:=.struct #[dZ 151 0,dZ 3 1,dZ 3 2,dZ 4 3],size:=4,bytes:=32,zero:=[.int .i64 0,.int .i64 0,.int .i64 0,.bool false],iT:=some (.pair (.int .i64) (.pair (.int .i64) (.pair (.int .i64) (.pair .bool .unit)))),Ar:=[.i,.i,.i,.b] }
theorem aaK:aP Tryz.prog 158 aaJ:=aP.of_eq (by kernel_rfl) (by kernel_rfl) rfl rfl (aN (i:=aaJ) (s0:=(.pair (.int .i64) (.pair (.int .i64) (.pair (.int .i64) (.pair .bool .unit))))) rfl rfl rfl rfl) (λ_=>by kernel_rfl)
abbrev aaL:TI:={ desc:=.slice 4,size:=1,bytes:=24,zero:=[.slice none 0 0],iT:=some (.sl .bool) }
theorem aaM:aP Tryz.prog 159 aaL:=aP.of_eq (by kernel_rfl) (by kernel_rfl) rfl rfl (aN (i:=aaL) (s0:=(.sl .bool)) rfl rfl rfl rfl)
abbrev aaN:TI:={ desc:=.struct #[dZ 3 0,dZ 3 1],size:=2,bytes:=16,zero:=[.int .i64 0,.int .i64 0],iT:=some (.pair (.int .i64) (.pair (.int .i64) .unit)),Ar:=[.i,.i] }
theorem aaO:aP Tryz.prog 161 aaN:=aP.of_eq (by kernel_rfl) (by kernel_rfl) rfl rfl (aN (i:=aaN) (s0:=(.pair (.int .i64) (.pair (.int .i64) .unit))) rfl rfl rfl rfl) (λ_=>by kernel_rfl)
abbrev aaP:TI:={ desc:=.struct #[dZ 3 0,dZ 3 1],size:=2,bytes:=16,zero:=[.int .i64 0,.int .i64 0],iT:=some (.pair (.int .i64) (.pair (.int .i64) .unit)),Ar:=[.i,.i] }
theorem aaQ:aP Tryz.prog 162 aaP:=aP.of_eq (by kernel_rfl) (by kernel_rfl) rfl rfl (aN (i:=aaP) (s0:=(.pair (.int .i64) (.pair (.int .i64) .unit))) rfl rfl rfl rfl) (λ_=>by kernel_rfl)
abbrev aaR:TI:={ desc:=.int .u32,size:=1,bytes:=4,zero:=[.int .u32 0],iT:=some (.int .u32) }
theorem aaS:aP Tryz.prog 167 aaR:=aP.of_eq (by kernel_rfl) (by kernel_rfl) rfl rfl (aN (i:=aaR) (s0:=(.int .u32)) rfl rfl rfl rfl)
abbrev aaT:TI:={ desc:=.array 7 4,size:=7,bytes:=7,zero:=[.bool false,.bool false,.bool false,.bool false,.bool false,.bool false,.bool false],iT:=some (.arr 7 .bool) }
theorem aaU:aP Tryz.prog 180 aaT:=aP.of_eq (by kernel_rfl) (by kernel_rfl) rfl rfl (aN (i:=aaT) (s0:=(.arr 7 .bool)) rfl rfl rfl rfl)
abbrev aaV:TI:={ desc:=.struct #[dZ 9 0,dZ 180 1],size:=8,bytes:=24,zero:=[.string ⟨#[]⟩,.bool false,.bool false,.bool false,.bool false,.bool false,.bool false,.bool false],iT:=some (.pair .str (.pair (.arr 7 .bool) .unit)) }
theorem aaW:aP Tryz.prog 181 aaV:=aP.of_eq (by kernel_rfl) (by kernel_rfl) rfl rfl (aN (i:=aaV) (s0:=(.pair .str (.pair (.arr 7 .bool) .unit))) rfl rfl rfl rfl)
abbrev aaX:TI:={ desc:=.struct #[dZ 9 0,dZ 180 1],size:=8,bytes:=24,zero:=[.string ⟨#[]⟩,.bool false,.bool false,.bool false,.bool false,.bool false,.bool false,.bool false],iT:=some (.pair .str (.pair (.arr 7 .bool) .unit)) }
theorem aaY:aP Tryz.prog 182 aaX:=aP.of_eq (by kernel_rfl) (by kernel_rfl) rfl rfl (aN (i:=aaX) (s0:=(.pair .str (.pair (.arr 7 .bool) .unit))) rfl rfl rfl rfl)
abbrev aaZ:TI:={ desc:=.array 22 182,size:=176,bytes:=528,zero:=[.string ⟨#[]⟩,.bool false,.bool false,.bool false,.bool false,.bool false,.bool false,.bool false,.string ⟨#[]⟩,.bool false,.bool false,.bool false,.bool false,.bool false,.bool false,.bool false,.string ⟨#[]⟩,.bool false,.bool false,.bool false,.bool false,.bool false,.bool false,.bool false,.string ⟨#[]⟩,.bool false,.bool false,.bool false,.bool false,.bool false,.bool false,.bool false,.string ⟨#[]⟩,.bool false,.bool false,.bool false,.bool false,.bool false,.bool false,.bool false,.string ⟨#[]⟩,.bool false,.bool false,.bool false,.bool false,.bool false,.bool false,.bool false,.string ⟨#[]⟩,.bool false,.bool false,.bool false,.bool false,.bool false,.bool false,.bool false,.string ⟨#[]⟩,.bool false,.bool false,.bool false,.bool false,.bool false,.bool false,.bool false,.string ⟨#[]⟩,.bool false,.bool false,.bool false,.bool false,.bool false,.bool false,.bool false,.string ⟨#[]⟩,.bool false,.bool false,.bool false,.bool false,.bool false,.bool false,.bool false,.string ⟨#[]⟩,.bool false,.bool false,.bool false,.bool false,.bool false,.bool false,.bool false,.string ⟨#[]⟩,.bool false,.bool false,.bool false,.bool false,.bool false,.bool false,.bool false,.string ⟨#[]⟩,.bool false,.bool false,.bool false,.bool false,.bool false,.bool false,.bool false,.string ⟨#[]⟩,.bool false,.bool false,.bool false,.bool false,.bool false,.bool false,.bool false,.string ⟨#[]⟩,.bool false,.bool false,.bool false,.bool false,.bool false,.bool false,.bool false,.string ⟨#[]⟩,.bool false,.bool false,.bool false,.bool false,.bool false,.bool false,.bool false,.string ⟨#[]⟩,.bool false,.bool false,.bool false,.bool false,.bool false,.bool false,.bool false,.string ⟨#[]⟩,.bool false,.bool false,.bool false,.bool false,.bool false,.bool false,.bool false,.string ⟨#[]⟩,.bool false,.bool false,.bool false,.bool false,.bool false,.bool false,.bool false,.string ⟨#[]⟩,.bool false,.bool false,.bool false,.bool false,.bool false,.bool false,.bool false,.string ⟨#[]⟩,.bool false,.bool false,.bool false,.bool false,.bool false,.bool false,.bool false,.string ⟨#[]⟩,.bool false,.bool false,.bool false,.bool false,.bool false,.bool false,.bool false],iT:=some (.arr 22 (.pair .str (.pair (.arr 7 .bool) .unit))) }
theorem aa0:aP Tryz.prog 183 aaZ:=aP.of_eq (by kernel_rfl) (by kernel_rfl) rfl rfl (aN (i:=aaZ) (s0:=(.arr 22 (.pair .str (.pair (.arr 7 .bool) .unit)))) rfl rfl rfl rfl)
abbrev aa1:TI:={ desc:=.slice 23,size:=1,bytes:=24,zero:=[.slice none 0 0],iT:=some (.sl (.sl .str)) }
theorem aa2:aP Tryz.prog 194 aa1:=aP.of_eq (by kernel_rfl) (by kernel_rfl) rfl rfl (aN (i:=aa1) (s0:=(.sl (.sl .str))) rfl rfl rfl rfl)
abbrev aa3:TI:={ desc:=.array 4 3,size:=4,bytes:=32,zero:=[.int .i64 0,.int .i64 0,.int .i64 0,.int .i64 0],iT:=some (.arr 4 (.int .i64)),Ar:=[.i] }
theorem aa4:aP Tryz.prog 203 aa3:=aP.of_eq (by kernel_rfl) (by kernel_rfl) rfl rfl (aN (i:=aa3) (s0:=(.arr 4 (.int .i64))) rfl rfl rfl rfl) (λ_=>by kernel_rfl)
abbrev aa5:TI:={ desc:=.array 7 3,size:=7,bytes:=56,zero:=[.int .i64 0,.int .i64 0,.int .i64 0,.int .i64 0,.int .i64 0,.int .i64 0,.int .i64 0],iT:=some (.arr 7 (.int .i64)),Ar:=[.i] }
theorem aa6:aP Tryz.prog 204 aa5:=aP.of_eq (by kernel_rfl) (by kernel_rfl) rfl rfl (aN (i:=aa5) (s0:=(.arr 7 (.int .i64))) rfl rfl rfl rfl) (λ_=>by kernel_rfl)
abbrev aa7:TI:={ desc:=.array 3 3,size:=3,bytes:=24,zero:=[.int .i64 0,.int .i64 0,.int .i64 0],iT:=some (.arr 3 (.int .i64)),Ar:=[.i] }
theorem aa8:aP Tryz.prog 206 aa7:=aP.of_eq (by kernel_rfl) (by kernel_rfl) rfl rfl (aN (i:=aa7) (s0:=(.arr 3 (.int .i64))) rfl rfl rfl rfl) (λ_=>by kernel_rfl)
abbrev aa9:TI:={ desc:=.array 10 9,size:=10,bytes:=160,zero:=[.string ⟨#[]⟩,.string ⟨#[]⟩,.string ⟨#[]⟩,.string ⟨#[]⟩,.string ⟨#[]⟩,.string ⟨#[]⟩,.string ⟨#[]⟩,.string ⟨#[]⟩,.string ⟨#[]⟩,.string ⟨#[]⟩],iT:=some (.arr 10 .str) }
theorem abb:aP Tryz.prog 214 aa9:=aP.of_eq (by kernel_rfl) (by kernel_rfl) rfl rfl (aN (i:=aa9) (s0:=(.arr 10 .str)) rfl rfl rfl rfl)
abbrev abd:TI:={ desc:=.int .u64,size:=1,bytes:=8,zero:=[.int .u64 0],iT:=some (.int .u64) }
theorem abe:aP Tryz.prog 217 abd:=aP.of_eq (by kernel_rfl) (by kernel_rfl) rfl rfl (aN (i:=abd) (s0:=(.int .u64)) rfl rfl rfl rfl)
abbrev abg:TI:={ desc:=.int .u64,size:=1,bytes:=8,zero:=[.int .u64 0],iT:=some (.int .u64) }
theorem abh:aP Tryz.prog 230 abg:=aP.of_eq (by kernel_rfl) (by kernel_rfl) rfl rfl (aN (i:=abg) (s0:=(.int .u64)) rfl rfl rfl rfl)
abbrev tis:List (Nat×TI):=[(3,ti3),(4,ti4),(5,ti5),(9,ti9),(21,alO),(22,alP),(23,alQ),(24,alR),(25,alS),(26,alT),(27,alU),(30,alV),(31,alW),(32,alX),(33,alY),(34,alZ),(35,al0),(36,al1),(37,al2),(38,al3),(43,al4),(44,al5),(46,al6),(47,al7),(48,al8),(49,al9),(52,ama),(53,amb),(54,amc),(55,amd),(56,ame),(63,amf),(64,amg),(65,amh),(66,ami),(67,amj),(75,amk),(76,aml),(77,amm),(81,amn),(82,amo),(88,amr),(89,ams),(90,amu),(91,amv),(117,aat),(118,aav),(151,aax),(152,aaz),(153,aaB),(154,aaD),(155,aaF),(157,aaH),(158,aaJ),(159,aaL),(161,aaN),(162,aaP),(167,aaR),(180,aaT),(181,aaV),(182,aaX),(183,aaZ),(194,aa1),(203,aa3),(204,aa5),(206,aa7),(214,aa9),(217,abd),(230,abg)]
theorem ay:cO Tryz.prog tis:=⟨alK,alL,alM,alN,afC,afD,afE,afF,afG,afH,afI,afJ,afK,afL,afM,afN,afO,afP,afQ,afR,afS,afT,afU,afV,afW,afX,afY,afZ,af0,af2,af4,af5,af6,af7,af8,af9,aga,agb,agc,agd,agf,agh,agi,agj,agk,aau,aaw,aay,aaA,aaC,aaE,aaG,aaI,aaK,aaM,aaO,aaQ,aaS,aaU,aaW,aaY,aa0,aa2,aa4,aa6,aa8,abb,abe,abh,trivial⟩
abbrev I6:Sh:=.int .i64
abbrev v6(n:Int):SC:=.v (.int .i64 n)
abbrev cI(n:Int):SV:=.c (.v (.int .i64 n))
abbrev cB(b:Bool):SV:=.c (.v (.bool b))
abbrev g0(r:aj):Go.aV.Gd×aj:=([],r)
abbrev rE(a b:aT):Prop:=([]:List aj)=[]∧a=b
abbrev rT(a b:List SV):Prop:=([]:List aj)=[]∧aT.gX a=aT.gX b
abbrev qI(a b:Int):Prop:=([]:List aj)=[]∧aT.one (.c (.v (.int .i64 a)))=aT.one (.c (.v (.int .i64 b)))
abbrev qB(a b:Bool):Prop:=([]:List aj)=[]∧aT.one (.c (.v (.bool a)))=aT.one (.c (.v (.bool b)))
abbrev sm{α:Type} (a:α):Prop:=a=a
def amw:List (List Bool):=[[true,false,false,false,true,false,false],[true,true,false,false,false,false,false],[true,true,true,false,false,true,false],[false,false,false,false,true,false,false],[false,true,false,false,true,false,false],[false,true,false,false,false,false,false],[false,false,false,false,false,false,false],[true,false,false,true,false,false,true],[false,true,false,true,false,false,true],[true,true,false,true,false,false,true],[true,true,false,true,false,false,true],[true,true,true,true,false,false,true],[false,false,false,false,false,false,false],[true,true,false,true,false,true,true],[false,false,false,true,false,false,false],[false,false,false,true,false,false,false],[true,false,false,true,false,false,false],[false,false,false,true,true,false,false],[false,false,false,true,false,false,false],[false,false,false,true,false,false,false],[true,true,false,true,false,false,false],[false,true,false,false,false,false,false]]
def fieldsD:List ByteArray:=[⟨#[65,78]⟩,⟨#[65,66]⟩,⟨#[70,65,66,67]⟩,⟨#[78]⟩,⟨#[66,78]⟩,⟨#[66]⟩,⟨#[]⟩,⟨#[65,79,82]⟩,⟨#[79,66,82]⟩,⟨#[65,79,66,82]⟩,⟨#[65,79,66,82]⟩,⟨#[65,79,66,67,82]⟩,⟨#[]⟩,⟨#[65,79,70,66,82]⟩,⟨#[79]⟩,⟨#[79]⟩,⟨#[65,79]⟩,⟨#[79,78]⟩,⟨#[79]⟩,⟨#[79]⟩,⟨#[65,79,66]⟩,⟨#[66]⟩]
def KH:List ByteArray:=[⟨#[97,100,100]⟩,⟨#[115,117,98]⟩,⟨#[109,117,108]⟩,⟨#[97,110,100]⟩,⟨#[111,114]⟩,⟨#[120,111,114]⟩,⟨#[101,113]⟩,⟨#[110,101]⟩,⟨#[108,116]⟩,⟨#[108,101]⟩]
def Oa:List (ByteArray×List Bool×Unit):=[(⟨#[99,111,110,115,116]⟩,[true,false,false,false,true,false,false],()),(⟨#[99,111,112,121]⟩,[true,true,false,false,false,false,false],()),(⟨#[99,97,108,99]⟩,[true,true,true,false,false,true,false],()),(⟨#[106,117,109,112]⟩,[false,false,false,false,true,false,false],()),(⟨#[98,114,97,110,99,104]⟩,[false,true,false,false,true,false,false],()),(⟨#[97,115,115,101,114,116]⟩,[false,true,false,false,false,false,false],()),(⟨#[115,116,111,112]⟩,[false,false,false,false,false,false,false],()),(⟨#[108,111,97,100]⟩,[true,false,false,true,false,false,true],()),(⟨#[115,116,111,114,101]⟩,[false,true,false,true,false,false,true],()),(⟨#[115,119,97,112]⟩,[true,true,false,true,false,false,true],()),(⟨#[102,101,116,99,104,97,100,100]⟩,[true,true,false,true,false,false,true],()),(⟨#[99,97,115]⟩,[true,true,true,true,false,false,true],()),(⟨#[102,101,110,99,101]⟩,[false,false,false,false,false,false,false],()),(⟨#[97,119,97,105,116]⟩,[true,true,false,true,false,true,true],()),(⟨#[108,111,99,107]⟩,[false,false,false,true,false,false,false],()),(⟨#[117,110,108,111,99,107]⟩,[false,false,false,true,false,false,false],()),(⟨#[116,114,121,108,111,99,107]⟩,[true,false,false,true,false,false,false],()),(⟨#[119,97,105,116]⟩,[false,false,false,true,true,false,false],()),(⟨#[115,105,103,110,97,108]⟩,[false,false,false,true,false,false,false],()),(⟨#[98,114,111,97,100,99,97,115,116]⟩,[false,false,false,true,false,false,false],()),(⟨#[115,112,97,119,110]⟩,[true,true,false,true,false,false,false],()),(⟨#[106,111,105,110]⟩,[false,true,false,false,false,false,false],())]
@[reducible] def gd0:Nat→Option (Sigma Sh.den):=λg=>match g with
  | 1=>some ⟨.arr 22 (.pair .str (.pair (.arr 7 .bool) .unit)),Oa⟩
  | 2=>some ⟨.arr 10 .str,KH⟩
  | _=>none
abbrev aK:Cx:={ ti:=tis,gd:=gd0 }
abbrev qO:Sh:=.pair (.int .i64) (.pair (.int .i64) (.pair (.int .i64) (.pair (.int .i64) (.pair (.int .i64) (.pair (.int .i64) (.pair (.int .i64) (.pair (.int .i64) .unit)))))))
def use(op:Int) (k:Nat):Bool:=decide (1≤op) && decide (op≤22) && (amw.getD (op - 1).toNat []).getD k false
def tu(op:Int):Bool:=decide (1≤op) && decide (op≤22)
def vK(f:Int):ByteArray:=if 1≤f∧f≤10 then KH.getD (f - 1).toNat ByteArray.empty else ByteArray.empty
abbrev aqx:CT:={ ps:=[],pre:=λd=>True,res:=λd=>([.row 9 .str fieldsD],.one (.c (.row 0))) }
abbrev amx  : Nat→Option (St→iC):=λ_=>none
abbrev aec:=SV.c (SC.row (0:Nat))
theorem agl :
 [aj.row (9:TypeId) Sh.str fieldsD]=[aj.row (9:TypeId) Sh.str [{ data:=#[(65:UInt8),(78:UInt8)]:ByteArray },{ data:=#[(65:UInt8),(66:UInt8)]:ByteArray },{ data:=#[(70:UInt8),(65:UInt8),(66:UInt8),(67:UInt8)]:ByteArray },{ data:=#[(78:UInt8)]:ByteArray },{ data:=#[(66:UInt8),(78:UInt8)]:ByteArray },{ data:=#[(66:UInt8)]:ByteArray },{ data:=#[]:ByteArray },{ data:=#[(65:UInt8),(79:UInt8),(82:UInt8)]:ByteArray },{ data:=#[(79:UInt8),(66:UInt8),(82:UInt8)]:ByteArray },{ data:=#[(65:UInt8),(79:UInt8),(66:UInt8),(82:UInt8)]:ByteArray },{ data:=#[(65:UInt8),(79:UInt8),(66:UInt8),(82:UInt8)]:ByteArray },{ data:=#[(65:UInt8),(79:UInt8),(66:UInt8),(67:UInt8),(82:UInt8)]:ByteArray },{ data:=#[]:ByteArray },{ data:=#[(65:UInt8),(79:UInt8),(70:UInt8),(66:UInt8),(82:UInt8)]:ByteArray },{ data:=#[(79:UInt8)]:ByteArray },{ data:=#[(79:UInt8)]:ByteArray },{ data:=#[(65:UInt8),(79:UInt8)]:ByteArray },{ data:=#[(79:UInt8),(78:UInt8)]:ByteArray },{ data:=#[(79:UInt8)]:ByteArray },{ data:=#[(79:UInt8)]:ByteArray },{ data:=#[(65:UInt8),(79:UInt8),(66:UInt8)]:ByteArray },{ data:=#[(66:UInt8)]:ByteArray }]]∧aT.one aec=aT.one aec:=by
 delta aec;exact⟨rfl,rfl⟩
theorem abj:Go.aV.Met Tryz.prog aK.gd 206 aqx:=
 jC (cx:=aK) (n:=2) (cl:=[]) ay trivial Tryz.func206 λd hd=>by
  obtain⟨⟩:=d;exact⟨amx ,cast (by kernel_rfl) (agl )⟩
abbrev aqy:CT:={ ps:=[.int .i64],pre:=λd=>True,res:=λd=>([],vB (tu d.1)) }
theorem agm(op:Int):
 qB (tu op) (decide (1≤op) && decide (op≤22)):=by
 delta qB;exact⟨rfl,rfl⟩
theorem abk:Go.aV.Met Tryz.prog aK.gd 197 aqy:=
 jC (cx:=aK) (n:=9) (cl:=[]) ay trivial Tryz.func197 λd hd=>by
  obtain⟨op,⟨⟩⟩:=d;exact⟨λ_=>none,cast (by kernel_rfl) (agm op)⟩
abbrev aqz:CT:={ ps:=[.int .i64],pre:=λd=>True,res:=λd=>([],vB (decide (0≤d.1) && decide (d.1 < 8))) }
theorem agn(r:Int):
 let z1:=decide (0≤r) && decide (r < 8);qB z1 z1:=by
 conv=>zeta
 delta qB;exact⟨rfl,rfl⟩
theorem abl:Go.aV.Met Tryz.prog aK.gd 204 aqz:=
 jC (cx:=aK) (n:=9) (cl:=[]) ay trivial Tryz.func204 λd hd=>by
  obtain⟨r,⟨⟩⟩:=d;exact⟨λ_=>none,cast (by kernel_rfl) (agn r)⟩
abbrev aqA:CT:={ ps:=[qO],pre:=λd=>True,res:=λd=>([],.one (.dat (.arr 7 (.int .i64)) [d.1.2.1,d.1.2.2.1,d.1.2.2.2.1,d.1.2.2.2.2.1,d.1.2.2.2.2.2.1,d.1.2.2.2.2.2.2.1,d.1.2.2.2.2.2.2.2.1])) }
theorem agp(op a b c obj n fn ord:Int):
 let z1:=[a,b,c,obj,n,fn,ord];rE (aT.one (SV.dat (Sh.arr 7 I6) z1)) (aT.one (SV.dat (Sh.arr 7 I6) z1)):=by
 conv=>zeta
 delta rE I6;exact⟨rfl,rfl⟩
theorem abm:Go.aV.Met Tryz.prog aK.gd 198 aqA:=
 jC (cx:=aK) (n:=18) (cl:=[]) ay trivial Tryz.func198 λd hd=>by
  obtain⟨⟨op,a,b,c,obj,n,fn,ord,⟨⟩⟩,⟨⟩⟩:=d;exact⟨λ_=>none,cast (by kernel_rfl) (agp op a b c obj n fn ord)⟩
abbrev aqB:CT:={ ps:=[.int .i64],pre:=λd=>True,res:=λd=>([],.one (.c (.v (.string (vK d.1))))) }
theorem agq(f:Int):
 let z1:=aT.one (SV.c (SC.v (Value.string (vK f))));br (decide (f < 1) || decide (10 < f)) (rE z1 (aT.one (SV.c (SC.v (Value.string { data:=#[]:ByteArray }))))) (cZ IntKind.i64 (f - 1)∧(0≤f - 1∧f - 1 < (10:Int))∧∀(d:ByteArray),KH[(f - 1).toNat]?=some d→rE z1 (aT.one (SV.c (SC.v (Value.string d))))):=by
 conv=>zeta
 delta rE;refine ah.2 ⟨λh=>?_,λh=>?_⟩
 ·simp only[AA,dG]at h;rw[show vK f=ByteArray.empty from if_neg (by omega)]
  exact⟨rfl,rfl⟩
 ·simp only[qH,dh]at h;refine⟨au.2 (by omega),by omega,λd hd=>⟨rfl,?_⟩⟩
  rw[show vK f=KH.getD (f - 1).toNat ByteArray.empty from if_pos (by omega),List.getD,hd];rfl
theorem abn:Go.aV.Met Tryz.prog aK.gd 199 aqB:=
 jC (cx:=aK) (n:=13) (cl:=[]) ay trivial Tryz.func199 λd hd=>by
  obtain⟨f,⟨⟩⟩:=d;exact⟨λ_=>none,cast (by kernel_rfl) (agq f)⟩
abbrev aqC:CT:={ ps:=[.int .i64],pre:=λd=>True,res:=λd=>([],.one (.c (.v (.string (vK d.1))))) }
theorem agr(f:Int):
 let z1:=aT.one (SV.c (SC.v (Value.string (vK f))));br (decide (f=1)) (rE z1 (aT.one (SV.c (SC.v (Value.string { data:=#[(97:UInt8),(100:UInt8),(100:UInt8)]:ByteArray }))))) (br (decide (f=2)) (rE z1 (aT.one (SV.c (SC.v (Value.string { data:=#[(115:UInt8),(117:UInt8),(98:UInt8)]:ByteArray }))))) (br (decide (f=3)) (rE z1 (aT.one (SV.c (SC.v (Value.string { data:=#[(109:UInt8),(117:UInt8),(108:UInt8)]:ByteArray }))))) (br (decide (f=4)) (rE z1 (aT.one (SV.c (SC.v (Value.string { data:=#[(97:UInt8),(110:UInt8),(100:UInt8)]:ByteArray }))))) (br (decide (f=5)) (rE z1 (aT.one (SV.c (SC.v (Value.string { data:=#[(111:UInt8),(114:UInt8)]:ByteArray }))))) (br (decide (f=6)) (rE z1 (aT.one (SV.c (SC.v (Value.string { data:=#[(120:UInt8),(111:UInt8),(114:UInt8)]:ByteArray }))))) (br (decide (f=7)) (rE z1 (aT.one (SV.c (SC.v (Value.string { data:=#[(101:UInt8),(113:UInt8)]:ByteArray }))))) (br (decide (f=8)) (rE z1 (aT.one (SV.c (SC.v (Value.string { data:=#[(110:UInt8),(101:UInt8)]:ByteArray }))))) (br (decide (f=9)) (rE z1 (aT.one (SV.c (SC.v (Value.string { data:=#[(108:UInt8),(116:UInt8)]:ByteArray }))))) (br (decide (f=10)) (rE z1 (aT.one (SV.c (SC.v (Value.string { data:=#[(108:UInt8),(101:UInt8)]:ByteArray }))))) (rE z1 (aT.one (SV.c (SC.v (Value.string { data:=#[]:ByteArray })))))))))))))):=by
 conv=>zeta
 delta rE
 by_cases h:1≤f∧f≤10
 ·have:f=1∨f=2∨f=3∨f=4∨f=5∨f=6∨f=7∨f=8∨f=9∨f=10:=by omega
  rcases this with rfl | rfl | rfl | rfl | rfl | rfl | rfl | rfl | rfl | rfl<;>exact⟨rfl,rfl⟩
 ·have e:vK f=ByteArray.empty:=if_neg h;rw[e];rw[show decide (f=1)=false from Ed (by omega)]
  rw[show decide (f=2)=false from Ed (by omega)]
  rw[show decide (f=3)=false from Ed (by omega)]
  rw[show decide (f=4)=false from Ed (by omega)]
  rw[show decide (f=5)=false from Ed (by omega)]
  rw[show decide (f=6)=false from Ed (by omega)]
  rw[show decide (f=7)=false from Ed (by omega)]
  rw[show decide (f=8)=false from Ed (by omega)]
  rw[show decide (f=9)=false from Ed (by omega)]
  rw[show decide (f=10)=false from Ed (by omega)]
  exact⟨rfl,rfl⟩
theorem abo:Go.aV.Met Tryz.prog aK.gd 205 aqC:=
 jC (cx:=aK) (n:=24) (cl:=[]) ay trivial Tryz.func205 λd hd=>by
  obtain⟨f,⟨⟩⟩:=d;exact⟨λ_=>none,cast (by kernel_rfl) (agr f)⟩
def gJ(op c:Int):Bool:=decide (1≤op) && decide (op≤22) && ((fieldsD.getD (op - 1).toNat ByteArray.empty).data.toList.any λb=>decide ((b.toNat:Int)=c))
abbrev amy:CT:={ ps:=[.int .i64,.int .u8],pre:=λd=>True,res:=λd=>([],vB (gJ d.1 d.2.1)) }
@[reducible] def amA (op c:Int):Nat→Option (St→iC):=λk=>match k with
  | 5=>some λs=>.inv { α:=Nat,slots:=λk=>[(6,.c (.v (.int .i64 k)))],res:=λ_=>[],inv:=λk=>k≤(Z4 s 5).size∧∀j,j < k→∀b,(Z4 s 5)[j]?=some b→¬((b.toNat:Int)=c),meas:=λk=>(Z4 s 5).size - k }
  | _=>none
theorem ags(op c:Int):
 let z1:=λ(x:Nat) (d:ByteArray)=>(x≤d.size∧∀(j:Nat),j < x→∀(b:UInt8),d[j]?=some b→¬(↑b.toNat:Int)=c);let z2:=[g0 (aj.row 9 Sh.str fieldsD)];br (decide (op < 1) || decide (22 < op)) (qB (gJ op c) false) (True∧cZ IntKind.i64 (op - 1)∧(0≤op - 1∧op - 1 < (22:Int))∧(op - 1).toNat < 22∧∀(d:ByteArray),fieldsD[(op - 1).toNat]?=some d→(∃x,(z1 x d)∧(cI 0=cI (↑x:Int)∧True)∧sm z2)∧∀(x:Nat),(z1 x d)→br (decide ((↑x:Int) < (↑d.size:Int))) ((0≤(↑x:Int)∧(↑x:Int) < (↑d.size:Int))∧∀(u:UInt8),d[(↑x:Int).toNat]?=some u→br (decide ((↑u.toNat:Int)=c)) (qB (gJ op c) true) (cZ IntKind.i64 ((↑x:Int)+(1:Int))∧∃x',(z1 x' d)∧(cI ((↑x:Int)+(1:Int))=cI (↑x':Int)∧True)∧sm z2∧d.size - x' < d.size - x)) (qB (gJ op c) false)):=by
 conv=>zeta
 delta cI g0 qB sm;refine ah.2 ⟨λh=>?_,λh=>?_⟩
 ·simp only[AA,dG]at h;have:gJ op c=false:=by
   unfold gJ
   by_cases h1:1≤op<;>by_cases h2:op≤22<;>simp[h1,h2]
   omega
  rw[this];exact⟨rfl,rfl⟩
 ·simp only[qH,dh]at h;refine⟨trivial,au.2 (by omega),by omega,by omega,λd hd=>⟨⟨0,⟨by omega,λj hj=>by omega⟩,⟨rfl,trivial⟩,rfl⟩,λx hx=>?_⟩⟩
  have e:gJ op c=d.data.toList.any λb=>decide ((b.toNat:Int)=c):=by
   unfold gJ;rw[List.getD,hd];simp[show 1≤op by omega,show op≤22 by omega]
  have hs:d.size≤9:=(show∀d∈fieldsD,d.size≤9 by decide) d (iF hd)
  have get:∀j:Nat,d[j]?=d.data.toList[j]?:=alI d;refine ah.2 ⟨λiO=>⟨by simp only[dG]at iO;omega,λu hu=>ah.2 ⟨λhc=>?_,λhc=>?_⟩⟩,λhge=>?_⟩
  ·simp only[dG]at hc;have hm:u∈d.data.toList:=iF (i:=x) (by rw[←get];simpa using hu)
   rw[e,VR.2 ⟨u,hm,by simpa using hc⟩]
   exact⟨rfl,rfl⟩
  ·simp only[dh]at hc;simp only[dG]at iO;refine⟨au.2 (by omega),x+1,⟨by omega,λj hj b hb=>?_⟩,⟨by simp,trivial⟩,rfl,by omega⟩
   by_cases hjx:j=x
   ·subst hjx;have:some u=some b:=by rw[←hu,←hb];simp
    cases this;exact hc
   ·exact hx.2 j (by omega) b hb
  ·simp only[dh]at hge;have:gJ op c=false:=by
    rw[e,P9];intro b hb;obtain⟨j,hj⟩:=wQ hb;have hj':j < d.data.toList.length:=(eU.1 hj).1;have hsz:d.data.toList.length=d.size:=by cases d;simp[ByteArray.size]
    simpa using hx.2 j (by omega) b (by rw[get];exact hj)
   rw[this];exact⟨rfl,rfl⟩
theorem Ob:Go.aV.Met Tryz.prog aK.gd 177 amy:=
 jC (cx:=aK) (n:=29) (cl:=[(206,aqx)]) ay ⟨abj,trivial⟩ Tryz.func177 λd hd=>by
  obtain⟨op,c,⟨⟩⟩:=d;exact⟨amA op c,cast (by kernel_rfl) (ags op c)⟩
def Xx(r:Int):Bool:=decide (0≤r) && decide (r < 8)
def pG(op a b c obj n fn ord:Int):Int:=
 if tu op=false then 8 else
 if(!use op 0 && a != 0 || !use op 1 && b != 0 || !use op 2 && c != 0 || !use op 3 && obj != 0 || !use op 4 && n != 0 || !use op 5 && fn != 0 || !use op 6 && ord != 0)=true then 9 else
 if(!Xx a || !Xx b || !Xx c)=true then 10 else
 if(decide (ord < 0) || decide (2 < ord))=true then 13 else
 if(use op 5 && decide (vK fn=(⟨#[]⟩:ByteArray)))=true then 8 else
 if(decide (op=1) && (decide (n < -2147483648) || decide (2147483647 < n)))=true then 2 else 0
theorem Oc{op:Int}{nm:ByteArray}{us:List Bool}{u:Unit} (hb:1≤op∧op≤22) (hd:Oa[(op - 1).toNat]?=some (nm,us,u)):
 us=[use op 0,use op 1,use op 2,use op 3,use op 4,use op 5,use op 6]:=by
 have key:∀k:Fin 22,(Oa[k.1]?).map (λr=>r.2.1)=some ([0,1,2,3,4,5,6].map λj=>(amw.getD k.1 []).getD j false):=by decide
 have h1:=key ⟨(op - 1).toNat,by omega⟩
 simp only at h1;rw[hd]at h1;simp only[L8,Yh]at h1;rw[h1];simp[use,hb.1,hb.2]
abbrev amB:CT:={ ps:=[qO],pre:=λd=>True,res:=λd=>([],.one (.c (.v (.int .i64 (pG d.1.1 d.1.2.1 d.1.2.2.1 d.1.2.2.2.1 d.1.2.2.2.2.1 d.1.2.2.2.2.2.1 d.1.2.2.2.2.2.2.1 d.1.2.2.2.2.2.2.2.1))))) }
@[reducible] def amC (op a b c obj n fn ord:Int):Nat→Option (St→iC):=λk=>match k with
  | 5=>some λ_=>.Fa 8
  | 11=>some λ_=>.Fa 4
  | _=>none
theorem agt(op a b c obj n fn ord:Int):
 let z11:=pG op a b c obj n fn ord;let z8:=qI z11 (8:Int);let z12:=[a,b,c,obj,n,fn,ord];let z2:=(0:Int)≤(0:Int)∧(0:Int) < (7:Int);let z10:=λ(dN:Bool) (dH:Int)=>!dN && !decide (dH=(0:Int));let z9:=qI z11 (9:Int);let z3:=(0:Int)≤(1:Int)∧(1:Int) < (7:Int);let z4:=(0:Int)≤(2:Int)∧(2:Int) < (7:Int);let z5:=(0:Int)≤(5:Int)∧(5:Int) < (7:Int);let z6:=(0:Int)≤(6:Int)∧(6:Int) < (7:Int);let z1:=λ(agu:Bool) (abp:Int)=>agu && (decide (abp < (0:Int)) || decide (8≤abp));let z7:=qI z11 (10:Int);True∧br (!tu op) z8 (cZ IntKind.i64 (op - 1)∧(0≤op - 1∧op - 1 < (22:Int))∧∀(d:ByteArray×((Sh.arr 7 Sh.bool).pair Sh.unit).den),Oa[(op - 1).toNat]?=some d→True∧((0:Int)≤(0:Int)∧0 < (↑z12.length:Int))∧∀(dH:Int),z12[0]?=some dH→z2∧0 < 7∧∀(dN:Bool),(d.snd.fst)[0]?=some dN→br (z10 dN dH) z9 (cZ IntKind.i64 (1:Int)∧((0:Int)≤(1:Int)∧1 < (↑z12.length:Int))∧∀(d_3:Int),z12[1]?=some d_3→z3∧1 < 7∧∀(d_4:Bool),(d.snd.fst)[1]?=some d_4→br (z10 d_4 d_3) z9 (cZ IntKind.i64 (2:Int)∧((0:Int)≤(2:Int)∧2 < (↑z12.length:Int))∧∀(d_5:Int),z12[2]?=some d_5→z4∧2 < 7∧∀(d_6:Bool),(d.snd.fst)[2]?=some d_6→br (z10 d_6 d_5) z9 (cZ IntKind.i64 (3:Int)∧((0:Int)≤(3:Int)∧3 < (↑z12.length:Int))∧∀(d_7:Int),z12[3]?=some d_7→((0:Int)≤(3:Int)∧(3:Int) < (7:Int))∧3 < 7∧∀(d_8:Bool),(d.snd.fst)[3]?=some d_8→br (z10 d_8 d_7) z9 (cZ IntKind.i64 (4:Int)∧((0:Int)≤(4:Int)∧4 < (↑z12.length:Int))∧∀(d_9:Int),z12[4]?=some d_9→((0:Int)≤(4:Int)∧(4:Int) < (7:Int))∧4 < 7∧∀(aqE:Bool),(d.snd.fst)[4]?=some aqE→br (z10 aqE d_9) z9 (cZ IntKind.i64 (5:Int)∧((0:Int)≤(5:Int)∧5 < (↑z12.length:Int))∧∀(aqF:Int),z12[5]?=some aqF→z5∧5 < 7∧∀(aqG:Bool),(d.snd.fst)[5]?=some aqG→br (z10 aqG aqF) z9 (cZ IntKind.i64 (6:Int)∧((0:Int)≤(6:Int)∧6 < (↑z12.length:Int))∧∀(aqH:Int),z12[6]?=some aqH→z6∧6 < 7∧∀(aqI:Bool),(d.snd.fst)[6]?=some aqI→br (z10 aqI aqH) z9 (cZ IntKind.i64 (7:Int)∧((0:Int)≤(0:Int)∧0 < (↑[a,b,c].length:Int))∧∀(abp:Int),[a,b,c][0]?=some abp→z2∧0 < 7∧∀(agu:Bool),(d.snd.fst)[0]?=some agu→br (z1 agu abp) z7 (cZ IntKind.i64 (1:Int)∧((0:Int)≤(1:Int)∧1 < (↑[a,b,c].length:Int))∧∀(aqJ:Int),[a,b,c][1]?=some aqJ→z3∧1 < 7∧∀(aqK:Bool),(d.snd.fst)[1]?=some aqK→br (z1 aqK aqJ) z7 (cZ IntKind.i64 (2:Int)∧((0:Int)≤(2:Int)∧2 < (↑[a,b,c].length:Int))∧∀(aqL:Int),[a,b,c][2]?=some aqL→z4∧2 < 7∧∀(aqM:Bool),(d.snd.fst)[2]?=some aqM→br (z1 aqM aqL) z7 (cZ IntKind.i64 (3:Int)∧z6∧6 < 7∧∀(aqN:Bool),(d.snd.fst)[6]?=some aqN→br (aqN && (decide (ord < 0) || decide (2 < ord))) (qI z11 (13:Int)) (z5∧5 < 7∧∀(amD:Bool),(d.snd.fst)[5]?=some amD→(amD=true→True)∧br (amD && decide (vK fn={ data:=#[]:ByteArray })) z8 (br (decide (op=1) && (decide (n < (-2147483648)) || decide (2147483647 < n))) (qI z11 (2:Int)) (qI z11 (0:Int))))))))))))))):=by
 conv=>zeta
 delta qI;refine⟨trivial,ah.2 ⟨λh=>?_,λh=>?_⟩⟩
 ·have hk:tu op=false:=by simpa using h
  rw[show pG op a b c obj n fn ord=8 by simp[pG,hk]]
  exact⟨rfl,rfl⟩
 ·have hk:tu op=true:=by simpa using h
  have hb:1≤op∧op≤22:=by simpa[tu]using hk
  refine⟨au.2 (by omega),by omega,λd hd=>?_⟩
  obtain⟨nm,us,⟨⟩⟩:=d;have hu:=Oc hb hd;subst hu;clear hd;simp only[A99,VT,Yh,forall_eq',ah,au,yK,LZ,true_and,aT.one.injEq,SV.c.injEq,SC.v.injEq,Value.int.injEq,pG,hk,Xx];generalize use op 0=u0;generalize use op 1=u1;generalize use op 2=u2;generalize use op 3=u3;generalize use op 4=u4;generalize use op 5=u5;generalize use op 6=u6
  repeat' (first | apply And.intro | intro _)
  all_goals first | omega | decide | skip
  all_goals simp_all
  all_goals grind
theorem Oe:Go.aV.Met Tryz.prog aK.gd 168 amB:=
 jC (cx:=aK) (n:=89) (cl:=[(197,aqy),(198,aqA),(199,aqB)]) ay ⟨abk,abm,abn,trivial⟩ Tryz.func168 λd hd=>by
  obtain⟨⟨op,a,b,c,obj,n,fn,ord,⟨⟩⟩,⟨⟩⟩:=d;exact⟨amC op a b c obj n fn ord,cast (by kernel_rfl) (agt op a b c obj n fn ord)⟩
theorem Uy(op:Int):gJ op 65=use op 0∧gJ op 66=use op 1∧gJ op 67=use op 2∧gJ op 79=use op 3∧gJ op 78=use op 4∧gJ op 70=use op 5∧gJ op 82=use op 6:=by
 by_cases hb:1≤op∧op≤22
 ·have key:∀k:Fin 22,([65,66,67,79,78,70,82].map λc:Int=>(fieldsD.getD k.1 ByteArray.empty).data.toList.any λb=>decide ((b.toNat:Int)=c))=[0,1,2,3,4,5,6].map λj=>(amw.getD k.1 []).getD j false:=by decide
  have h1:=key ⟨(op - 1).toNat,by omega⟩
  simp only[X9,List.map_nil,List.cons.injEq,and_true]at h1;obtain⟨h1,h2,h3,h4,h5,h6,h7⟩:=h1;simp only[gJ,use,hb.1,hb.2,decide_true,BQ,h1,h2,h3,h4,h5,h6,h7,and_self]
 ·have:(decide (1≤op) && decide (op≤22))=false:=by simp only[A86,dh];omega
  simp only[gJ,use,this,Bool.false_and,and_self]
abbrev amE:CT:={ ps:=[qO],pre:=λd=>True,res:=λd=>([],.one (.c (.v (.int .i64 (pG d.1.1 d.1.2.1 d.1.2.2.1 d.1.2.2.2.1 d.1.2.2.2.2.1 d.1.2.2.2.2.2.1 d.1.2.2.2.2.2.2.1 d.1.2.2.2.2.2.2.2.1))))) }
theorem agv(op a b c obj n fn ord:Int):
 let z4:=pG op a b c obj n fn ord;let z1:=qI z4 (8:Int);let z2:=decide (0≤a) && decide (a < 8);let z3:=decide (0≤b) && decide (b < 8);br (decide (op < 1) || decide (22 < op)) z1 (True∧((!(!gJ op (65:Int) && !decide (a=0)))=true→True)∧((!(!gJ op (65:Int) && !decide (a=0) || !gJ op (66:Int) && !decide (b=0)))=true→True)∧((!(!gJ op (65:Int) && !decide (a=0) || !gJ op (66:Int) && !decide (b=0) || !gJ op (67:Int) && !decide (c=0)))=true→True)∧((!(!gJ op (65:Int) && !decide (a=0) || !gJ op (66:Int) && !decide (b=0) || !gJ op (67:Int) && !decide (c=0) || !gJ op (79:Int) && !decide (obj=0)))=true→True)∧((!(!gJ op (65:Int) && !decide (a=0) || !gJ op (66:Int) && !decide (b=0) || !gJ op (67:Int) && !decide (c=0) || !gJ op (79:Int) && !decide (obj=0) || !gJ op (78:Int) && !decide (n=0)))=true→True)∧((!(!gJ op (65:Int) && !decide (a=0) || !gJ op (66:Int) && !decide (b=0) || !gJ op (67:Int) && !decide (c=0) || !gJ op (79:Int) && !decide (obj=0) || !gJ op (78:Int) && !decide (n=0) || !gJ op (70:Int) && !decide (fn=0)))=true→True)∧br (!gJ op (65:Int) && !decide (a=0) || !gJ op (66:Int) && !decide (b=0) || !gJ op (67:Int) && !decide (c=0) || !gJ op (79:Int) && !decide (obj=0) || !gJ op (78:Int) && !decide (n=0) || !gJ op (70:Int) && !decide (fn=0) || !gJ op (82:Int) && !decide (ord=0)) (qI z4 (9:Int)) (True∧((!!z2)=true→True)∧((!(!z2 || !z3))=true→True)∧br (!z2 || !z3 || !(decide (0≤c) && decide (c < 8))) (qI z4 (10:Int)) (br (decide (ord < 0) || decide (2 < ord)) (qI z4 (13:Int)) (True∧(gJ op 70=true→True)∧br (gJ op (70:Int) && decide (vK fn={ data:=#[]:ByteArray })) z1 (br (decide (op=1) && (decide (n < (-2147483648)) || decide (2147483647 < n))) (qI z4 (2:Int)) (qI z4 (0:Int))))))):=by
 conv=>zeta
 delta qI;obtain⟨e0,e1,e2,e3,e4,e5,e6⟩:=Uy op;rw[e0,e1,e2,e3,e4,e5,e6];simp only[ah,au,true_and,aT.one.injEq,SV.c.injEq,SC.v.injEq,Value.int.injEq,pG,tu,Xx];generalize use op 0=u0;generalize use op 1=u1;generalize use op 2=u2;generalize use op 3=u3;generalize use op 4=u4;generalize use op 5=u5;generalize use op 6=u6
 repeat' (first | apply And.intro | intro _)
 all_goals first | trivial | omega | skip
 all_goals first | grind | (simp_all<;>grind)
theorem Og:Go.aV.Met Tryz.prog aK.gd 176 amE:=
 jC (cx:=aK) (n:=132) (cl:=[(177,amy),(204,aqz),(205,aqC)]) ay ⟨Ob,abl,abo,trivial⟩ Tryz.func176 λd hd=>by
  obtain⟨⟨op,a,b,c,obj,n,fn,ord,⟨⟩⟩,⟨⟩⟩:=d;exact⟨λ_=>none,cast (by kernel_rfl) (agv op a b c obj n fn ord)⟩
def dM(l:List Int) (x:Int):Bool:=l.any λy=>decide (y=x)
def zL(l:List Int) (x:Int):Nat:=(l.takeWhile λy=>decide (y < x)).length
def wO(l:List Int) (x:Int):List Int:=l.take (zL l x)++[x]++l.drop (zL l x)
def aX(l:List Int):List Int:=l.foldl (λo x=>if dM o x then o else wO o x) []
theorem FU(l:List Int) (x:Int):(wO l x).length=l.length+1:=by
 simp only[wO,kD,ku,xB,yK,LZ];omega
theorem IL(l:List Int):(aX l).length≤l.length:=by
 have:∀(l o:List Int),(l.foldl (λo x=>if dM o x then o else wO o x) o).length≤o.length+l.length:=by
  intro l
  induction l with
  | nil=>intro o;simp
  | cons x l ih=>
    intro o;simp only[VP,yK];refine vO (ih _) ?_;split
    ·omega
    ·rw[FU];omega
 have h:=this l [];rw[LZ,XW]at h;exact h
def SS(l:List Int):Prop:=l.Pairwise (· < ·)
theorem yh:∀{l m:List Int},SS l→SS m→(∀x,x∈l↔x∈m)→l=m
 | [],[],_,_,_=>rfl
 | [],y :: m,_,_,h=>by have:=(h y).2 (by simp);simp at this
 | x :: l,[],_,_,h=>by have:=(h x).1 (by simp);simp at this
 | x :: l,y :: m,hl,hm,h=>by
   obtain⟨h1,h2⟩:=MB.1 hl;obtain⟨h3,h4⟩:=MB.1 hm;have hxy:x=y:=by
    have a:=(h x).1 (by simp)
    have b:=(h y).2 (by simp)
    rcases mX.1 a with a | a
    ·exact a
    ·rcases mX.1 b with b | b
     ·exact b.symm
     ·have:=h3 x a;have:=h1 y b;omega
   subst hxy
   congr 1
   refine yh h2 h4 λz=>?_
   have hz:=h z;simp only[mX]at hz;constructor
   ·intro hh;rcases hz.1 (.inr hh) with rfl | h5
    ·have:=h1 z hh;omega
    ·exact h5
   ·intro hh;rcases hz.2 (.inr hh) with rfl | h5
    ·have:=h3 z hh;omega
    ·exact h5
theorem nI{l:List Int}{x:Int}:dM l x=true↔x∈l:=by
 unfold dM;rw[VR];constructor
 ·rintro⟨y,h1,h2⟩;simp only[dG]at h2;subst h2;exact h1
 ·intro h;exact⟨x,h,by simp⟩
theorem pI{l:List Int}{x:Int}:dM l x=false↔x∉l:=by
 rw[←nI];simp
theorem amF(l:List Int) (x:Int):l.take (zL l x)=l.takeWhile λy=>decide (y < x):=by
 unfold zL
 induction l with
 | nil=>rfl
 | cons a l ih=>
   simp only[P7];split
   ·simp[ih]
   ·simp
theorem amG(l:List Int) (x:Int):l.drop (zL l x)=l.dropWhile λy=>decide (y < x):=by
 unfold zL
 induction l with
 | nil=>rfl
 | cons a l ih=>
   simp only[P7,List.dropWhile_cons];split
   ·simp[ih]
   ·simp
theorem Uz:∀{l:List Int}{x:Int},SS l→∀y∈l.dropWhile (λy=>decide (y < x)),x≤y
 | [],_,_,y,h=>by simp at h
 | a :: l,x,hl,y,h=>by
   obtain⟨h1,h2⟩:=MB.1 hl;simp only[List.dropWhile_cons]at h;split at h
   ·exact Uz h2 y h
   ·rename_i hn;simp only[dG]at hn;rcases mX.1 h with rfl | h
    ·omega
    ·have:=h1 y h;omega
theorem akb:∀{l:List Int}{x:Int},∀y∈l.takeWhile (λy=>decide (y < x)),y < x
 | [],_,y,h=>by simp at h
 | a :: l,x,y,h=>by
   simp only[P7]at h;split at h
   ·rename_i hn;simp only[dG]at hn;rcases mX.1 h with rfl | h
    ·exact hn
    ·exact akb y h
   ·simp at h
theorem amH{l:List Int}{x:Int} (hl:SS l) (hx:x∉l):SS (wO l x):=by
 unfold wO SS;rw[amF,amG];have hp:SS (l.takeWhile (λy=>decide (y < x))++l.dropWhile (λy=>decide (y < x))):=by rw[Yf];exact hl
 obtain⟨p1,p2,p3⟩:=Ju.1 hp;rw[uO,Ju];refine⟨p1,?_,?_⟩
 ·rw[Wh,MB];refine⟨λy hy=>?_,p2⟩
  have h1:=Uz hl y hy;have h2:y≠x:=λe=>hx (by rw[←e];rw[←Yf (p:=λy=>decide (y < x)) (l:=l)];exact akD _ hy)
  omega
 ·intro a ha b hb;rw[Wh]at hb;rcases mX.1 hb with rfl | hb
  ·exact akb a ha
  ·exact p3 a ha b hb
theorem Dv{l:List Int}{x y:Int}:y∈wO l x↔y=x∨y∈l:=by
 unfold wO;rw[GV,GV,Ye]
 conv=>rhs;rw[←Ef (zL l x) l,GV]
 constructor
 ·rintro((h | h) | h)
  ·exact .inr (.inl h)
  ·exact .inl h
  ·exact .inr (.inr h)
 ·rintro(h | h | h)
  ·exact .inl (.inr h)
  ·exact .inl (.inl h)
  ·exact .inr h
theorem Dw:∀(l o:List Int),SS o→SS (l.foldl (λo x=>if dM o x then o else wO o x) o)∧∀y,y∈l.foldl (λo x=>if dM o x then o else wO o x) o↔y∈o∨y∈l
 | [],o,h=>⟨h,λy=>by simp⟩
 | x :: l,o,h=>by
   simp only[VP];cases hx:dM o x with
   | true=>
     simp only[if_true];obtain⟨h1,h2⟩:=Dw l o h;refine⟨h1,λy=>?_⟩
     rw[h2,mX];have:=nI.1 hx;constructor
     ·rintro(h | h)
      ·exact .inl h
      ·exact .inr (.inr h)
     ·rintro(h | rfl | h)
      ·exact .inl h
      ·exact .inl this
      ·exact .inr h
   | false=>
     simp only[VY,aeJ];obtain⟨h1,h2⟩:=Dw l (wO o x) (amH h (pI.1 hx));refine⟨h1,λy=>?_⟩
     rw[h2,mX,Dv];constructor
     ·rintro((h | h) | h)
      ·exact .inr (.inl h)
      ·exact .inl h
      ·exact .inr (.inr h)
     ·rintro(h | h | h)
      ·exact .inl (.inr h)
      ·exact .inl (.inl h)
      ·exact .inr h
theorem oG(l:List Int):SS (aX l):=(Dw l [] List.Pairwise.nil).1
theorem pJ{l:List Int}{x:Int}:x∈aX l↔x∈l:=by
 have:=(Dw l [] List.Pairwise.nil).2 x;simpa[aX]using this
theorem Oh{d:Array Int} (hs:∀i j,i < j→j < d.size→d[i]!≤d[j]!):∀m,m≤d.size →
 SS (Lib.compactUpTo d m)∧(∀x,x∈Lib.compactUpTo d m↔∃j < m,d[j]! = x)
 | 0,_=>⟨by simp[Lib.compactUpTo,SS],λx=>by simp[Lib.compactUpTo]⟩
 | m+1,hm=>by
   obtain⟨h1,h2⟩:=Oh hs m (by omega)
   rw[Lib.compactUpTo_succ];have le:∀x∈Lib.compactUpTo d m,∃j < m,d[j]! = x:=λx hx=>(h2 x).1 hx
   cases hk:Lib.keeps d m with
   | true=>
     simp only[if_true];constructor
     ·refine Ju.2 ⟨h1,by simp,λa ha b hb=>?_⟩
      simp only[Ye]at hb;subst hb;obtain⟨j,hj,rfl⟩:=le a ha;have h3:m≠0:=by omega
      simp only[Lib.keeps,dG,h3,false_or]at hk;have h4:=hs (m - 1) m (by omega) (by omega)
      by_cases hj2:j=m - 1
      ·subst hj2;omega
      ·have:=hs j (m - 1) (by omega) (by omega);omega
     ·intro x;rw[GV,h2,Ye];constructor
      ·rintro(⟨j,hj,e⟩ | e)
       ·exact⟨j,by omega,e⟩
       ·exact⟨m,by omega,e.symm⟩
      ·rintro⟨j,hj,e⟩
       by_cases hj2:j=m
       ·subst hj2;exact .inr e.symm
       ·exact .inl ⟨j,by omega,e⟩
   | false=>
     simp only[VY,aeJ,XZ];refine⟨h1,λx=>?_⟩
     rw[h2];have h3:m≠0∧d[m]! = d[m - 1]!:=by simpa[Lib.keeps]using hk
     constructor
     ·rintro⟨j,hj,e⟩;exact⟨j,by omega,e⟩
     ·rintro⟨j,hj,e⟩
      by_cases hj2:j=m
      ·subst hj2;exact⟨j - 1,by omega,by rw[←h3.2];exact e⟩
      ·exact⟨j,by omega,e⟩
theorem Oi(l:List Int):(jL l).Pairwise (·≤·):=by
 have h:(jL l).Pairwise (λx y=>decide (x≤y)=true):=List.pairwise_mergeSort (λa b c h1 h2=>by simp at *;omega) (λa b=>by simp;omega) l
 exact h.imp λh=>by simpa using h
theorem abr{l:List Int}{x:Int}:x∈jL l↔x∈l:=(List.mergeSort_perm l _).mem_iff
theorem Oj(l:List Int):SS (Lib.compact (jL l))∧∀x,x∈Lib.compact (jL l)↔x∈l:=by
 have hs:∀i j,i < j→j < (jL l).toArray.size→(jL l).toArray[i]!≤(jL l).toArray[j]!:=by
  intro i j hij hj;have hj':j < (jL l).length:=by simpa using hj
  have:=VX.1 (Oi l) i j (by omega) hj' hij
  rw[getElem!_pos _ i (by simp;omega),getElem!_pos _ j (by simpa using hj)]
  simpa using this
 obtain⟨h1,h2⟩:=Oh hs (jL l).length (by simp)
 refine⟨h1,λx=>?_⟩
 show x∈Lib.compactUpTo (jL l).toArray (jL l).length↔_;rw[h2,←abr,List.mem_iff_getElem];constructor
 ·rintro⟨j,hj,e⟩;exact⟨j,hj,by rw[getElem!_pos _ j (by simpa using hj)]at e;simpa using e⟩
 ·rintro⟨j,hj,e⟩;exact⟨j,hj,by rw[getElem!_pos _ j (by simpa using hj)];simpa using e⟩
theorem agw(l:List Int):Lib.compact (jL l)=aX l:=
 yh (Oj l).1 (oG l) λx=>by rw[(Oj l).2,pJ]
end Go.Proofs.YtjhenjhcbcalpaaGreatDoor
namespace Go.Proofs
open Go.Shelf
def Tryz.lays189_ren:Go.Shelf.Ren:=⟨fun | 189=>200 | 125=>213 | 257=>212 | 128=>225 | 129=>226 | 294=>216 | 295=>217 | 296=>218 | 297=>219 | 298=>220 | 299=>221 | 216=>222 | 300=>223 | 301=>224 | 328=>227 | 329=>228 | 330=>229 | 331=>230 | 332=>231 | 215=>232 | 343=>233 | n=>n,fun | 28=>31 | 3=>3 | 46=>217 | 0=>0 | 51=>167 | 53=>230 | 4=>4 | 183=>222 | 182=>221 | 131=>95 | 5=>5 | 9=>9 | 218=>231 | 222=>235 | 228=>237 | 229=>165 | n=>n,fun | n=>n⟩
theorem Tryz.lays189:Go.Proofs.Lays.n189 Tryz.prog Tryz.lays189_ren:={
 mixed:=by kernel_rfl
 f125:=Tryz.func213.trans (Ec some (by kernel_rfl))
 f128:=Tryz.func225.trans (Ec some (by kernel_rfl))
 f129:=Tryz.func226.trans (Ec some (by kernel_rfl))
 f189:=Tryz.func200.trans (Ec some (by kernel_rfl))
 f215:=Tryz.func232.trans (Ec some (by kernel_rfl))
 f216:=Tryz.func222.trans (Ec some (by kernel_rfl))
 f257:=Tryz.func212.trans (Ec some (by kernel_rfl))
 f294:=Tryz.func216.trans (Ec some (by kernel_rfl))
 f295:=Tryz.func217.trans (Ec some (by kernel_rfl))
 f296:=Tryz.func218.trans (Ec some (by kernel_rfl))
 f297:=Tryz.func219.trans (Ec some (by kernel_rfl))
 f298:=Tryz.func220.trans (Ec some (by kernel_rfl))
 f299:=Tryz.func221.trans (Ec some (by kernel_rfl))
 f300:=Tryz.func223.trans (Ec some (by kernel_rfl))
 f301:=Tryz.func224.trans (Ec some (by kernel_rfl))
 f328:=Tryz.func227.trans (Ec some (by kernel_rfl))
 f329:=Tryz.func228.trans (Ec some (by kernel_rfl))
 f330:=Tryz.func229.trans (Ec some (by kernel_rfl))
 f331:=Tryz.func230.trans (Ec some (by kernel_rfl))
 f332:=Tryz.func231.trans (Ec some (by kernel_rfl))
 f343:=Tryz.func233.trans (Ec some (by kernel_rfl))
 t0:=Tryz.underlying0
 a0:=Tryz.isAgg0
 z0:=Tryz.sizeOf0
 v0:=Tryz.zeroValue0
 t3:=Tryz.underlying3
 a3:=Tryz.isAgg3
 z3:=Tryz.sizeOf3
 v3:=Tryz.zeroValue3
 t4:=Tryz.underlying4
 a4:=Tryz.isAgg4
 z4:=Tryz.sizeOf4
 v4:=Tryz.zeroValue4
 t5:=Tryz.underlying5
 a5:=Tryz.isAgg5
 z5:=Tryz.sizeOf5
 v5:=Tryz.zeroValue5
 t9:=Tryz.underlying9
 a9:=Tryz.isAgg9
 z9:=Tryz.sizeOf9
 v9:=Tryz.zeroValue9
 t28:=Tryz.underlying31
 a28:=Tryz.isAgg31
 z28:=Tryz.sizeOf31
 v28:=Tryz.zeroValue31
 t46:=Tryz.underlying217
 a46:=Tryz.isAgg217
 z46:=Tryz.sizeOf217
 v46:=Tryz.zeroValue217
 t51:=Tryz.underlying167
 a51:=Tryz.isAgg167
 z51:=Tryz.sizeOf167
 v51:=Tryz.zeroValue167
 t53:=Tryz.underlying230
 a53:=Tryz.isAgg230
 z53:=Tryz.sizeOf230
 v53:=Tryz.zeroValue230
 t131:=Tryz.underlying95
 a131:=Tryz.isAgg95
 z131:=Tryz.sizeOf95
 v131:=Tryz.zeroValue95
 t182:=Tryz.underlying221
 a182:=Tryz.isAgg221
 z182:=Tryz.sizeOf221
 v182:=Tryz.zeroValue221
 t183:=Tryz.underlying222
 a183:=Tryz.isAgg222
 z183:=Tryz.sizeOf222
 v183:=Tryz.zeroValue222
 t218:=Tryz.underlying231
 a218:=Tryz.isAgg231
 z218:=Tryz.sizeOf231
 v218:=Tryz.zeroValue231
 t222:=Tryz.underlying235
 a222:=Tryz.isAgg235
 z222:=Tryz.sizeOf235
 v222:=Tryz.zeroValue235
 t228:=Tryz.underlying237
 a228:=Tryz.isAgg237
 z228:=Tryz.sizeOf237
 v228:=Tryz.zeroValue237
 t229:=Tryz.underlying165
 a229:=Tryz.isAgg165
 z229:=Tryz.sizeOf165
 v229:=Tryz.zeroValue165 }
open Go.Sort Go.RowKit in
theorem Tryz.slices_Sort_int(blk off cap:Nat) (zs:List Int) (w:World) (hH:Holds (Value.int .i64) w blk off zs.toArray) (hblk:blk < w.heap.size) (hsz:zs.length < 4611686018427387904):
 Calls Tryz.prog 200 #[.slice (some ⟨blk,off,none⟩) zs.length cap] w λe w'=>
  e=.returned (.tuple #[])∧∃n os,w'=grow (putRow (Value.int .i64) (Sort.ahead w n) blk off (zs.mergeSort λx y=>decide (x≤y)).toArray) os:=Any.slices_Sort_int Tryz.lays189 blk off cap zs w hH hblk hsz
def Tryz.laysNm220_ren:Go.Shelf.Ren:=⟨fun | 20=>201 | n=>n,fun | 22=>31 | 3=>3 | 4=>4 | 0=>0 | n=>n,fun | n=>n⟩
theorem Tryz.laysNm220:Go.Proofs.Lays2.n20 Tryz.prog Tryz.laysNm220_ren:={
 mixed:=by kernel_rfl
 f20:=Tryz.func201.trans (Ec some (by kernel_rfl))
 t0:=Tryz.underlying0
 a0:=Tryz.isAgg0
 z0:=Tryz.sizeOf0
 v0:=Tryz.zeroValue0
 t3:=Tryz.underlying3
 a3:=Tryz.isAgg3
 z3:=Tryz.sizeOf3
 v3:=Tryz.zeroValue3
 t4:=Tryz.underlying4
 a4:=Tryz.isAgg4
 z4:=Tryz.sizeOf4
 v4:=Tryz.zeroValue4
 t22:=Tryz.underlying31
 a22:=Tryz.isAgg31
 z22:=Tryz.sizeOf31
 v22:=Tryz.zeroValue31
 i3:=by kernel_rfl }
open Go.RowKit Go.Lib Go.Sort in
theorem Tryz.slices_Compact_int(blk off cap:Nat) (zs:List Int) (w:World) (hH:Holds (Value.int .i64) w blk off zs.toArray) (hsz:zs.length≤9223372036854775807) (hcap:zs.length≤cap):
 Calls Tryz.prog 201 #[.slice (some ⟨blk,off,none⟩) zs.length cap] w λe w'=>e=.returned (.slice (some ⟨blk,off,none⟩) (Lib.compact zs).length cap)∧∃q,w'=putRow (Value.int .i64) (Sort.ahead w q) blk off (Lib.compact zs++List.replicate (zs.length - (Lib.compact zs).length) 0).toArray:=Any.slices_Compact_int Tryz.laysNm220 blk off cap zs w hH hsz hcap
open Go.RowKit Go.Lib Go.Sort in
theorem Tryz.slices_Compact_int_empty(a:Option Addr) (cap:Nat) (w:World):
 Calls Tryz.prog 201 #[.slice a 0 cap] w λe w'=>e=.returned (.slice a 0 cap)∧w'=w:=Any.slices_Compact_int_empty Tryz.laysNm220 a cap w
end Go.Proofs
namespace Go.Proofs.YtjhenjhcbcalpaaGreatDoor
open Go Go.aV
def Mt(l:List Int):Prop:=l=[]
theorem Mt.nil:Mt []:=rfl
abbrev akd:CT:={ ps:=[.int .u64],pre:=λd=>d.1=0,res:=λd=>([],.one (.c (.v (.int .i64 0)))) }
abbrev amI  : Nat→Option (St→iC):=λ_=>none
theorem agJ :
 let z1:=[(8:UInt8),(8:UInt8),(8:UInt8),(8:UInt8),(8:UInt8),(8:UInt8),(8:UInt8),(8:UInt8),(8:UInt8),(8:UInt8),(8:UInt8),(8:UInt8),(8:UInt8),(8:UInt8),(8:UInt8),(8:UInt8),(8:UInt8),(8:UInt8),(8:UInt8),(8:UInt8),(8:UInt8),(8:UInt8),(8:UInt8),(8:UInt8),(8:UInt8),(8:UInt8),(8:UInt8),(8:UInt8),(8:UInt8),(8:UInt8),(8:UInt8),(8:UInt8),(8:UInt8),(8:UInt8),(8:UInt8),(8:UInt8),(8:UInt8),(8:UInt8),(8:UInt8),(8:UInt8),(8:UInt8),(8:UInt8),(8:UInt8),(8:UInt8),(8:UInt8),(8:UInt8),(8:UInt8),(8:UInt8),(8:UInt8),(8:UInt8),(8:UInt8),(8:UInt8),(8:UInt8),(8:UInt8),(8:UInt8),(8:UInt8),(8:UInt8),(8:UInt8),(8:UInt8),(8:UInt8),(8:UInt8),(8:UInt8),(8:UInt8),(8:UInt8)];((0:Int)≤(0:Int)∧(0:Int) < (256:Int))∧∀(u:UInt8),{ data:=(([(0:UInt8),(1:UInt8),(2:UInt8),(2:UInt8),(3:UInt8),(3:UInt8),(3:UInt8),(3:UInt8),(4:UInt8),(4:UInt8),(4:UInt8),(4:UInt8),(4:UInt8),(4:UInt8),(4:UInt8),(4:UInt8),(5:UInt8),(5:UInt8),(5:UInt8),(5:UInt8),(5:UInt8),(5:UInt8),(5:UInt8),(5:UInt8),(5:UInt8),(5:UInt8),(5:UInt8),(5:UInt8),(5:UInt8),(5:UInt8),(5:UInt8),(5:UInt8),(6:UInt8),(6:UInt8),(6:UInt8),(6:UInt8),(6:UInt8),(6:UInt8),(6:UInt8),(6:UInt8),(6:UInt8),(6:UInt8),(6:UInt8),(6:UInt8),(6:UInt8),(6:UInt8),(6:UInt8),(6:UInt8),(6:UInt8),(6:UInt8),(6:UInt8),(6:UInt8),(6:UInt8),(6:UInt8),(6:UInt8),(6:UInt8),(6:UInt8),(6:UInt8),(6:UInt8),(6:UInt8),(6:UInt8),(6:UInt8),(6:UInt8),(6:UInt8)].append [(7:UInt8),(7:UInt8),(7:UInt8),(7:UInt8),(7:UInt8),(7:UInt8),(7:UInt8),(7:UInt8),(7:UInt8),(7:UInt8),(7:UInt8),(7:UInt8),(7:UInt8),(7:UInt8),(7:UInt8),(7:UInt8),(7:UInt8),(7:UInt8),(7:UInt8),(7:UInt8),(7:UInt8),(7:UInt8),(7:UInt8),(7:UInt8),(7:UInt8),(7:UInt8),(7:UInt8),(7:UInt8),(7:UInt8),(7:UInt8),(7:UInt8),(7:UInt8),(7:UInt8),(7:UInt8),(7:UInt8),(7:UInt8),(7:UInt8),(7:UInt8),(7:UInt8),(7:UInt8),(7:UInt8),(7:UInt8),(7:UInt8),(7:UInt8),(7:UInt8),(7:UInt8),(7:UInt8),(7:UInt8),(7:UInt8),(7:UInt8),(7:UInt8),(7:UInt8),(7:UInt8),(7:UInt8),(7:UInt8),(7:UInt8),(7:UInt8),(7:UInt8),(7:UInt8),(7:UInt8),(7:UInt8),(7:UInt8),(7:UInt8),(7:UInt8)]).append (z1.append z1)).toArray:ByteArray }[0]?=some u→cZ IntKind.i64 (↑u.toNat:Int)∧cZ IntKind.i64 (0+(↑u.toNat:Int))∧qI 0 (0+(↑u.toNat:Int)):=by
 conv=>zeta
 delta qI;refine⟨by omega,λu hu=>?_⟩
 have hu:some (0:UInt8)=some u:=hu;cases hu;exact⟨au.2 (by decide),au.2 (by decide),rfl,rfl⟩
theorem abt:Go.aV.Met Tryz.prog aK.gd 226 akd:=
 jC (cx:=aK) (n:=25) (cl:=[]) ay trivial Tryz.func226 λd hd=>by
  obtain⟨x,⟨⟩⟩:=d;simp only at hd;subst hd;exact⟨amI ,cast (by kernel_rfl) (agJ )⟩
abbrev ake:CT:={ ps:=[.int .u64],pre:=λd=>d.1=0,res:=λd=>([],.one (.c (.v (.int .i64 0)))) }
abbrev amJ  : Nat→Option (St→iC):=λ_=>none
theorem agK :
 (0:(Sh.int IntKind.u64).den)=(0:(Sh.int IntKind.u64).den)∧qI 0 (0:Int):=by
 delta qI;exact⟨rfl,rfl,rfl⟩
theorem abu:Go.aV.Met Tryz.prog aK.gd 213 ake:=
 jC (cx:=aK) (n:=8) (cl:=[(226,akd)]) ay ⟨abt,trivial⟩ Tryz.func213 λd hd=>by
  obtain⟨x,⟨⟩⟩:=d;simp only at hd;subst hd;exact⟨amJ ,cast (by kernel_rfl) (agK )⟩
abbrev akf:CT:={ ps:=[.sl (.int .i64),.int .i64,.int .i64],pre:=λd=>Mt d.1∧d.2.1=0∧d.2.2.1=0,res:=λd=>([],.gX []) }
abbrev amK  : Nat→Option (St→iC):=λ_=>some λ_=>.Fa 1
theorem agL :
 cZ IntKind.i64 (1:Int)∧rT [] []:=by
 delta rT;exact⟨au.2 (by omega),rfl,rfl⟩
theorem abv:Go.aV.Met Tryz.prog aK.gd 216 akf:=
 jC (cx:=aK) (n:=49) (cl:=[]) ay trivial Tryz.func216 λd hd=>by
  obtain⟨l,a,b,⟨⟩⟩:=d;obtain⟨h1,h2,h3⟩:=hd;simp only at h1 h2 h3;have h1:l=[]:=h1;subst h1;subst h2;subst h3;exact⟨amK ,cast (by kernel_rfl) (agL )⟩
abbrev akg:CT:={ ps:=[.sl (.int .i64),.int .i64,.int .i64,.int .i64],pre:=λd=>Mt d.1∧d.2.1=0∧d.2.2.1=0,res:=λd=>([],.gX []) }
abbrev amL(m:Int):Nat→Option (St→iC):=λ_=>some λ_=>.Fa 1
theorem agN(m:Int):
 cZ IntKind.i64 (0:Int)∧(Mt []∧(0:Int)=(0:Int)∧(0:Int)=(0:Int))∧rT [] []:=by
 delta rT;exact⟨au.2 (by omega),⟨rfl,rfl,rfl⟩,rfl,rfl⟩
theorem abw:Go.aV.Met Tryz.prog aK.gd 212 akg:=
 jC (cx:=aK) (n:=134) (cl:=[(216,akf)]) ay ⟨abv,trivial⟩ Tryz.func212 λd hd=>by
  obtain⟨l,a,b,m,⟨⟩⟩:=d;obtain⟨h1,h2,h3⟩:=hd;simp only at h1 h2 h3;have h1:l=[]:=h1;subst h1;subst h2;subst h3;exact⟨amL m,cast (by kernel_rfl) (agN m)⟩
abbrev aqY:CT:={ ps:=[.sl (.int .i64)],pre:=λd=>Mt d.1,res:=λd=>([],.gX []) }
abbrev amM  : Nat→Option (St→iC):=λ_=>none
theorem agO :
 (0:Int)=(0:(Sh.int IntKind.u64).den)∧(Mt []∧(0:Int)=(0:Int)∧(0:Int)=(0:Int))∧rT [] []:=by
 delta rT;exact⟨rfl,⟨rfl,rfl,rfl⟩,rfl,rfl⟩
theorem Om:Go.aV.Met Tryz.prog aK.gd 200 aqY:=
 jC (cx:=aK) (n:=11) (cl:=[(212,akg),(213,ake)]) ay ⟨abw,abu,trivial⟩ Tryz.func200 λd hd=>by
  obtain⟨l,⟨⟩⟩:=d;have hd:l=[]:=hd;subst hd;exact⟨amM ,cast (by kernel_rfl) (agO )⟩
abbrev wF:CT:={ ps:=[.sl (.int .i64)],pre:=λd=>d.1.length≤1000000,res:=λd=>([.row 3 (.int .i64) (d.1)],.one (.c (.row 0))) }
abbrev Xy:List (Nat×IP):=[]
abbrev abA:=Sh.int IntKind.i64
theorem amN(l:List Int) (aA:wF.pre (l,())):
 let z1:=[aj.row (3:TypeId) abA l];∀(b:Bool),(b=true→l=[])→br b (z1=[aj.row (3:TypeId) abA []]∧aT.one aec=aT.one aec) (jS ((0:Nat)+List.length (l)) (8:Nat)∧z1=[aj.row (3:TypeId) abA ([]++l)]∧aT.one aec=aT.one aec):=by
 conv=>zeta
 delta abA aec;have hp:l.length≤1000000:=aA;intro b hb;refine ah.2 ⟨λh=>by rw[hb h];exact⟨rfl,rfl⟩,λh=>⟨?_,by simp,rfl⟩⟩
 rw[bI];omega
theorem Dx:Go.aV.Met Tryz.prog aK.gd 58 wF:=
 Q9 (il:=Xy) (rc:=[.row 3 (.int .i64)]) (cx:=aK) (n:=8) (cl:=[]) (by kernel_rfl) ay trivial trivial Tryz.func58 (by kernel_rfl) (by kernel_rfl) rfl (by kernel_rfl) (by kernel_rfl) λd hd=>by
  obtain⟨l,⟨⟩⟩:=d;exact⟨λ_=>none,cast (by kernel_rfl) (amN l hd)⟩
def Hy(l:List Int) (x:Int):Int:=match l.findIdx? (λy=>decide (y=x)) with | some k=>(k:Int) | none=>-1
theorem Rl{l:List Int}{x:Int}{k:Nat} (hd:l[k]?=some x) (hn:∀j < k,∀y,l[j]?=some y→y≠x):Hy l x=k:=by
 have iO:k < l.length:=(eU.1 hd).1;have:l.findIdx? (λy=>decide (y=x))=some k:=by
  rw[xC];refine⟨iO,by have:=(eU.1 hd).2;simp[this],λj hj=>?_⟩
  have:=hn j hj l[j] (l7 (by omega))
  simpa using this
 simp[Hy,this]
theorem Xz{l:List Int}{x:Int} (hn:∀(j:Nat) y,l[j]?=some y→y≠x):Hy l x = -1:=by
 have:l.findIdx? (λy=>decide (y=x))=none:=by
  rw[Me];intro y hy;obtain⟨j,hj⟩:=wQ hy;simpa using hn j y hj
 simp[Hy,this]
abbrev abx:CT:={ ps:=[.sl (.int .i64),.int .i64],pre:=λd=>d.1.length≤4611686018427387904,res:=λd=>([],.one (.c (.v (.int .i64 (Hy d.1 d.2.1))))) }
abbrev amO(l:List Int) (x:Int):Nat→Option (St→iC):=λ_=>some λ_=>.inv { α:=Nat,slots:=λk=>[(8,.c (.v (.int .i64 k)))],res:=λ_=>[],inv:=λk=>k≤l.length∧∀j < k,∀y,l[j]?=some y→y≠x,meas:=λk=>l.length - k }
abbrev aal:=Go.aV.Gd×Go.aV.aj
theorem agP(l:List Int) (x:Int) (aA:abx.pre (l,x,())):
 let z1:=λ(x_1:Nat)=>(x_1≤l.length∧∀(j:Nat),j < x_1→∀(y:Int),l[j]?=some y→y≠x);(∃x_1,(z1 x_1)∧(cI 0=cI (↑x_1:Int)∧True)∧([]:List aal)=[])∧∀(x_1:Nat),(z1 x_1)→br (decide ((↑x_1:Int) < (↑l.length:Int))) ((0≤(↑x_1:Int)∧(↑x_1:Int) < (↑l.length:Int))∧∀(d:Int),l[(↑x_1:Int).toNat]?=some d→br (decide (x=d)) (qI (Hy l x) (↑x_1:Int)) (cZ IntKind.i64 ((↑x_1:Int)+(1:Int))∧∃x',(x'≤l.length∧∀(j:Nat),j < x'→∀(y:Int),l[j]?=some y→y≠x)∧(cI ((↑x_1:Int)+(1:Int))=cI (↑x':Int)∧True)∧([]:List aal)=[]∧l.length - x' < l.length - x_1)) (qI (Hy l x) (-1:Int)):=by
 conv=>zeta
 delta aal cI qI;refine⟨⟨0,⟨by omega,λj hj=>by omega⟩,⟨rfl,trivial⟩,rfl⟩,λk hk=>ah.2 ⟨λh=>?_,λh=>?_⟩⟩
 ·simp only[dG]at h;have hp:l.length≤4611686018427387904:=aA;refine⟨by omega,λd hd=>?_⟩
  have hd:l[k]?=some d:=by simpa using hd
  refine ah.2 ⟨λhe=>?_,λhe=>⟨au.2 (by omega),k+1,⟨by omega,λj hj y hy=>?_⟩,⟨rfl,trivial⟩,rfl,by omega⟩⟩
  ·have he:x=d:=by simpa using he
   rw[Rl (by rw[hd,he]) hk.2];exact⟨rfl,rfl⟩
  ·by_cases gq:j=k
   ·subst gq;rw[hd]at hy;cases hy;intro hh;simp[hh]at he
   ·exact hk.2 j (by omega) y hy
 ·simp only[dh]at h;rw[Xz (λj y hy=>hk.2 j (by have:=(eU.1 hy).1;omega) y hy)];exact⟨rfl,rfl⟩
theorem aby:Go.aV.Met Tryz.prog aK.gd 162 abx:=
 jC (cx:=aK) (n:=19) (cl:=[]) ay trivial Tryz.func162 λd hd=>by
  obtain⟨l,x,⟨⟩⟩:=d;exact⟨amO l x,cast (by kernel_rfl) (agP l x hd)⟩
theorem abz(l:List Int) (x:Int):dM l x=decide (0≤Hy l x):=by
 have h:=List.findIdx?_isSome (xs:=l) (p:=λy=>decide (y=x))
 unfold dM Hy;rw[←h];cases l.findIdx? (λy=>decide (y=x)) with
 | none=>rfl
 | some k=>simp
abbrev FW:CT:={ ps:=[.sl (.int .i64),.int .i64],pre:=λd=>d.1.length≤4611686018427387904,res:=λd=>([],vB (dM d.1 d.2.1)) }
theorem amP(l:List Int) (x:Int) (aA:FW.pre (l,x,())):
 l.length≤4611686018427387904∧qB (dM l x) (decide (0≤Hy l x)):=by
 delta qB;refine⟨aA,rfl,?_⟩;rw[abz]
theorem zN:Go.aV.Met Tryz.prog aK.gd 98 FW:=
 jC (cx:=aK) (n:=9) (cl:=[(162,abx)]) ay ⟨aby,trivial⟩ Tryz.func98 λd hd=>by
  obtain⟨l,x,⟨⟩⟩:=d;exact⟨λ_=>none,cast (by kernel_rfl) (amP l x hd)⟩
theorem XA(l:List Int):(jL l).length=l.length:=by simp[jL]
theorem Oo(l:List Int):(aX l).length≤l.length:=IL l
theorem agQ:Uu Tryz.prog aK.gd 200 FQ:=⟨Xt Om.1 rfl (λblk cap zs w hH hb hz=>Tryz.slices_Sort_int blk 0 cap zs w hH hb hz),Om.2⟩
theorem agR:Uu Tryz.prog aK.gd 201 Bv:=⟨KG (λa cap w=>Tryz.slices_Compact_int_empty a cap w) (λblk cap zs w hH h1 h2=>Tryz.slices_Compact_int blk 0 cap zs w hH h1 h2),⟨_,Tryz.func201,rfl,by kernel_rfl⟩⟩
abbrev zO:CT:={ ps:=[.sl (.int .i64)],pre:=λd=>d.1.length≤1000000,res:=λd=>([.row 3 (.int .i64) (aX d.1)],.one (.c (.row 0))) }
abbrev aqZ:List (Nat×IP):=[(200,FQ),(201,Bv)]
theorem agS(l:List Int) (aA:zO.pre (l,())):
 l.length≤(1000000:Nat)∧List.length (l) < (4611686018427387904:Nat)∧List.length (jL (l)) < (4611686018427387904:Nat)∧[aj.row (3:TypeId) abA (aX l)]=[aj.row (3:TypeId) abA (Lib.compact (jL (l)))]∧aT.one aec=aT.one aec:=by
 delta abA aec;have hp:l.length≤1000000:=aA;exact⟨hp,by omega,by rw[XA];omega,by rw[agw],rfl⟩
theorem Oq:Go.aV.Met Tryz.prog aK.gd 169 zO:=
 Q9 (il:=aqZ) (rc:=[]) (cx:=aK) (n:=10) (cl:=[(58,wF)]) (by kernel_rfl) ay ⟨Dx,trivial⟩ ⟨agQ,agR,trivial⟩ Tryz.func169 (by kernel_rfl) (by kernel_rfl) rfl (by kernel_rfl) (by kernel_rfl) λd hd=>by
  obtain⟨l,⟨⟩⟩:=d;exact⟨λ_=>none,cast (by kernel_rfl) (agS l hd)⟩
abbrev IU:CT:={ ps:=[.sl (.int .i64),.int .i64],pre:=λd=>d.1.length≤1000000,res:=λd=>([],vB (dM d.1 d.2.1)) }
theorem agT(l:List Int) (x:Int) (aA:IU.pre (l,x,())):
 l.length≤4611686018427387904∧qB (dM l x) (dM l x):=by
 delta qB;have hp:l.length≤1000000:=aA;exact⟨by omega,rfl,rfl⟩
theorem zQ:Go.aV.Met Tryz.prog aK.gd 165 IU:=
 jC (cx:=aK) (n:=8) (cl:=[(98,FW)]) ay ⟨zN,trivial⟩ Tryz.func165 λd hd=>by
  obtain⟨l,x,⟨⟩⟩:=d;exact⟨λ_=>none,cast (by kernel_rfl) (agT l x hd)⟩
abbrev Ot:CT:={ ps:=[.sl (.int .i64),.int .i64],pre:=λd=>d.1.length≤999999,res:=λd=>([.row 3 (.int .i64) (aX (d.1++[d.2.1]))],.one (.c (.row 0))) }
theorem agU(l:List Int) (x:Int) (aA:Ot.pre (l,x,())):
 let z1:=[aj.row (3:TypeId) abA (aX (l++[x]))];l.length≤(1000000:Nat)∧jS (List.length (l)+List.length ([x])) (8:Nat)∧List.length (l++[x])≤(1000000:Nat)∧z1=z1∧aT.one aec=aT.one aec:=by
 conv=>zeta
 delta abA aec;have hp:l.length≤999999:=aA;refine⟨by omega,?_,?_,rfl,rfl⟩
 ·rw[bI];simp;omega
 ·simp;omega
theorem FX:Go.aV.Met Tryz.prog aK.gd 111 Ot:=
 jC (cx:=aK) (n:=11) (cl:=[(58,wF),(169,zO)]) ay ⟨Dx,Oq,trivial⟩ Tryz.func111 λd hd=>by
  obtain⟨l,x,⟨⟩⟩:=d;exact⟨λ_=>none,cast (by kernel_rfl) (agU l x hd)⟩
abbrev shV:Sh:=.pair .str (.pair (.int .i64) .unit)
abbrev shF:Sh:=.pair .str (.pair (.sl qO) .unit)
abbrev FY:Sh:=.pair (.int .i64) (.pair (.int .i64) .unit)
abbrev oH:Sh:=.pair (.sl shV) (.pair (.sl .str) (.pair (.sl .str) (.pair (.sl shF) (.pair (.sl FY) .unit))))
abbrev ID:=Int×Int×Int×Int×Int×Int×Int×Int×Unit
abbrev VD:=ByteArray×Int×Unit
abbrev FD:=ByteArray×List ID×Unit
abbrev SD:=Int×Int×Unit
abbrev PD:=List VD×List ByteArray×List ByteArray×List FD×List SD×Unit
def qF(f:Nat) (x:FD):List (bY [FY,qO]):=x.2.1.zipIdx.map λp=>(((f:Int),(p.2:Int),()),p.1,())
def jX:Nat→List FD→List (bY [FY,qO])
 | _,[]=>[]
 | n,x :: l=>qF n x++jX (n+1) l
def dR(fs:List FD):List (bY [FY,qO]):=jX 0 fs
theorem IV(f:Nat) (x:FD):(qF f x).length=x.2.1.length:=by simp[qF]
theorem IW{f:Nat}{x:FD}{j:Nat}{e:ID} (h:x.2.1[j]?=some e):(qF f x)[j]?=some (((f:Int),(j:Int),()),e,()):=by
 unfold qF;rw[LX,Ym,h];simp
theorem tC:∀(l m:List FD) (n:Nat),jX n (l++m)=jX n l++jX (n+l.length) m
 | [],m,n=>by simp[jX]
 | x :: l,m,n=>by
   simp only[List.cons_append,jX,tC l m,uO,yK];rw[show n+1+l.length=n+(l.length+1) by omega]
theorem XB{fs:List FD}{k:Nat}{d:FD} (h:fs[k]?=some d):dR fs=dR (fs.take k)++(qF k d++jX (k+1) (fs.drop (k+1))):=by
 have hk:k < fs.length:=(eU.1 h).1;have e:fs=fs.take k++(d :: fs.drop (k+1)):=by
  have h2:=List.drop_eq_getElem_cons hk;rw[(eU.1 h).2]at h2;rw[←h2,Ef]
 unfold dR
 conv=>lhs;rw[e]
 rw[tC];rw[show 0+(fs.take k).length=k by simp;omega]
 rfl
theorem Rn{fs:List FD}{k:Nat}{d:FD} (h:fs[k]?=some d):dR (fs.take (k+1))=dR (fs.take k)++qF k d:=by
 have hk:k < fs.length:=(eU.1 h).1;rw[Jt,h];unfold dR;rw[tC];rw[show 0+(fs.take k).length=k by simp;omega]
 simp[jX]
theorem XC{fs:List FD}{k j:Nat}{d:FD}{e:ID} (h:fs[k]?=some d) (h2:d.2.1[j]?=some e):(dR fs)[(dR (fs.take k)).length+j]?=some (((k:Int),(j:Int),()),e,()):=by
 have hj:j < d.2.1.length:=(eU.1 h2).1;rw[XB h,CP (by omega),XV (by rw[IV];omega)]
 rw[show(dR (fs.take k)).length+j - (dR (fs.take k)).length=j by omega]
 exact IW h2
noncomputable abbrev amQ:MK:={ ss:=[oH],f:=λd=>.seq Tryz.prog [FY,qO] (dR d.1.2.2.2.1),pre:=λd=>d.1.2.2.2.1.length≤1000000∧∀x∈d.1.2.2.2.1,x.2.1.length≤1000000 }
abbrev atQ:List (Nat×CT):=[]
@[reducible] def amR (vs:List VD) (ms cs:List ByteArray) (fs:List FD) (ts:List SD):Nat→Option (St→iC):=λk=>match k with
  | 1=>some λ_=>.gen { α:=Nat,slots:=λk=>[(10,.c (.v (.int .i64 k)))],res:=λ_=>[],inv:=λk=>k≤fs.length,meas:=λk=>fs.length - k } λk=>(dR (fs.take k)).length
  | 4=>some λs=>.gen { α:=Nat,slots:=λk=>[(18,.c (.v (.int .i64 k)))],res:=λ_=>[],inv:=λk=>k≤(slotL qO s 16).length,meas:=λk=>(slotL qO s 16).length - k } λk=>(dR (fs.take (Um s 10).toNat)).length+k
  | _=>none
abbrev hlN:List (Nat×Nat×CT):=[]
abbrev mlN:List (Nat×MK):=[]
abbrev kq5:=I6.pair (I6.pair (I6.pair (I6.pair (I6.pair (I6.pair (I6.pair (I6.pair Sh.unit)))))))
theorem agX(vs:List VD) (ms cs:List ByteArray) (fs:List FD) (ts:List SD) (l:Nat) (aA:amQ.pre ((vs,ms,cs,fs,ts,()),())):
 let z2:=λ(x:Nat)=>dR (List.take x fs);let z1:=λ(x:Nat)=>dR (List.take (↑x:Int).toNat fs);let z3:=λ(x_1:Nat)=>(↑x_1:Int)+(1:Int);(∃x,x≤fs.length∧(z2 x).length=0∧(cI 0=cI (↑x:Int)∧True)∧([]:List aal)=[])∧∀(x:Nat),x≤fs.length→br (decide ((↑x:Int) < (↑fs.length:Int))) ((0≤(↑x:Int)∧(↑x:Int) < (↑fs.length:Int))∧∀(d:ByteArray×((I6.pair (I6.pair (I6.pair (I6.pair (I6.pair (I6.pair (I6.pair (I6.pair Sh.unit)))))))).sl.pair Sh.unit).den),fs[(↑x:Int).toNat]?=some d→(∃x_1,x_1≤List.length (d.snd.fst)∧(z1 x).length+x_1=(z2 x).length∧(cI 0=cI (↑x_1:Int)∧True)∧sm [g0 (aj.blk 77 [SC.v (Value.string d.fst),SC.sl kq5 d.snd.fst])])∧∀(x_1:Nat),x_1≤List.length (d.snd.fst)→br (decide ((↑x_1:Int) < (↑(List.length d.snd.fst):Int))) ((0≤(↑x_1:Int)∧(↑x_1:Int) < (↑(List.length d.snd.fst):Int))∧∀(dH:ID),d.snd.fst[(↑x_1:Int).toNat]?=some dH→l=l∧(dR fs)[(z1 x).length+x_1]?=some (((↑x:Int),(↑x_1:Int),()),dH,())∧(cZ IntKind.i64 (z3 x_1)∧∃x',x'≤List.length (d.snd.fst)∧(z1 x).length+x'=(z1 x).length+x_1+1∧(cI (z3 x_1)=cI (↑x':Int)∧True)∧sm [g0 (aj.blk 77 [SC.v (Value.string d.fst),SC.sl kq5 d.snd.fst])]∧List.length (d.snd.fst) - x' < List.length (d.snd.fst) - x_1)∧True) (cZ IntKind.i64 (z3 x)∧∃x',x'≤fs.length∧(z2 x').length=(z1 x).length+x_1∧(cI (z3 x)=cI (↑x':Int)∧True)∧([]:List aal)=[]∧fs.length - x' < fs.length - x)) ((z2 x).length=aS (dR fs)):=by
 conv=>zeta
 delta aal kq5 cI g0 sm I6;have hp1:fs.length≤1000000:=aA.1;have hp2:∀x∈fs,x.2.1.length≤1000000:=aA.2;refine⟨⟨0,by omega,by simp[dR,jX],⟨rfl,trivial⟩,rfl⟩,λx hx=>ah.2 ⟨λh=>?_,λh=>?_⟩⟩
 ·simp only[dG]at h;have hN:(↑x:Int).toNat=x:=by omega
  rw[hN];refine⟨by omega,λd hd=>?_⟩
  have hd:fs[x]?=some d:=by simpa using hd
  have hst:=Rn hd;refine⟨⟨0,XY _,by omega,⟨rfl,trivial⟩,rfl⟩,λy hy=>ah.2 ⟨λh2=>?_,λh2=>?_⟩⟩
  ·simp only[dG]at h2;refine⟨by omega,λe he=>?_⟩
   have he:d.2.1[y]?=some e:=by simpa using he
   refine⟨rfl,XC hd he,⟨?_,y+1,?_,?_,⟨rfl,trivial⟩,rfl,?_⟩,trivial⟩
   ·have:=hp2 d (iF hd);exact au.2 (by omega)
   ·omega
   ·omega
   ·omega
  ·simp only[dh]at h2;refine⟨au.2 (by omega),x+1,by omega,?_,⟨rfl,trivial⟩,rfl,by omega⟩
   have hq:=hp2 d (iF hd);have hy:y=d.2.1.length:=by omega
   rw[hst,kD,IV,hy]
 ·simp only[dh]at h;rw[tZ (by omega),bH]
theorem agY:aam Tryz.prog aK.gd 210 amQ:=by
 intro d h lb hd hg cap;obtain⟨⟨vs,ms,cs,fs,ts,⟨⟩⟩,⟨⟩⟩:=d;exact aar (E:=aan Tryz.prog aK 32 atQ Xy hlN mlN [] [] λ_=>none) (Uw (by kernel_rfl) ay trivial trivial trivial trivial) rfl Tryz.func210 (body:=jW Tryz.f210) (by kernel_rfl) (by kernel_rfl) rfl rfl rfl rfl ⟨amR vs ms cs fs ts,λl=>cast (by kernel_rfl) (agX vs ms cs fs ts l hd)⟩ hg cap
noncomputable abbrev KI:CT:={ ps:=[oH],pre:=λd=>d.1.2.2.2.1.length≤1000000∧∀x∈d.1.2.2.2.1,x.2.1.length≤1000000,res:=λd=>([],.one (.c (.abs (.seq Tryz.prog [FY,qO] (dR d.1.2.2.2.1))))) }
noncomputable abbrev aq0:List (Nat×MK):=[(210,amQ)]
abbrev kq6:=I6.pair (I6.pair (I6.pair (I6.pair (I6.pair (I6.pair (I6.pair Sh.unit))))))
theorem ag0(vs:List VD) (ms cs:List ByteArray) (fs:List FD) (ts:List SD) (aA:KI.pre ((vs,ms,cs,fs,ts,()),())):
 let z1:=aT.one (SV.c (SC.abs (GY.seq Tryz.prog [I6.pair (I6.pair Sh.unit),I6.pair kq6] (dR fs))));(fs.length≤1000000∧∀(x:ByteArray×((I6.pair (I6.pair (I6.pair (I6.pair (I6.pair (I6.pair (I6.pair (I6.pair Sh.unit)))))))).sl.pair Sh.unit).den),x∈fs→List.length x.snd.fst≤1000000)∧rE z1 z1:=by
 conv=>zeta
 delta kq6 rE I6;exact⟨aA,rfl,rfl⟩
theorem abB:Go.aV.Met Tryz.prog aK.gd 189 KI:=
 (lV (cx:=aK) (n:=4) (cl:=[]) (il:=Xy) (hl:=hlN) (ml:=aq0) (rc:=[]) (lits:=[]) (suf:=[]) (by kernel_rfl) ay trivial trivial trivial ⟨agY,trivial⟩ Tryz.func189 (by kernel_rfl) (by kernel_rfl) rfl (by kernel_rfl) (by kernel_rfl) (by simp) λd hd=>by
  obtain⟨⟨vs,ms,cs,fs,ts,⟨⟩⟩,⟨⟩⟩:=d;exact⟨λ_=>none,cast (by kernel_rfl) (ag0 vs ms cs fs ts hd)⟩).met
def tH(c:Int):Bool:=decide (97≤c∧c≤122∨65≤c∧c≤90)
abbrev akh:CT:={ ps:=[.int .u8],pre:=λd=>True,res:=λd=>([],vB (tH d.1)) }
theorem ag1(c:Int):
 qB (tH c) (decide (97≤c) && decide (c≤122) || decide (65≤c) && decide (c≤90)):=by
 delta qB;refine⟨rfl,?_⟩;rw[show tH c=(decide (97≤c) && decide (c≤122) || decide (65≤c) && decide (c≤90)) by unfold tH;rw[Ee];simp]
theorem abC:Go.aV.Met Tryz.prog aK.gd 214 akh:=
 jC (cx:=aK) (n:=17) (cl:=[]) ay trivial Tryz.func214 λd hd=>by
  obtain⟨c,⟨⟩⟩:=d;exact⟨λ_=>none,cast (by kernel_rfl) (ag1 c)⟩
def bV(n:Int):Bool:=decide (-2147483648≤n∧n≤2147483647)
abbrev abD:CT:={ ps:=[.int .i64],pre:=λd=>True,res:=λd=>([],vB (bV d.1)) }
theorem ag2(n:Int):
 qB (bV n) (decide ((-2147483648)≤n) && decide (n≤2147483647)):=by
 delta qB;refine⟨rfl,?_⟩;rw[show bV n=(decide (-2147483648≤n) && decide (n≤2147483647)) by unfold bV;rw[Ee];simp]
theorem Ou:Go.aV.Met Tryz.prog aK.gd 186 abD:=
 jC (cx:=aK) (n:=9) (cl:=[]) ay trivial Tryz.func186 λd hd=>by
  obtain⟨n,⟨⟩⟩:=d;exact⟨λ_=>none,cast (by kernel_rfl) (ag2 n)⟩
abbrev Ro:CT:={ ps:=[.int .i64],pre:=λd=>True,res:=λd=>([],vB (bV d.1)) }
theorem ag3(n:Int):
 qB (bV n) (decide ((-2147483648)≤n) && decide (n≤2147483647)):=by
 delta qB;refine⟨rfl,?_⟩;rw[show bV n=(decide (-2147483648≤n) && decide (n≤2147483647)) by unfold bV;rw[Ee];simp]
theorem Ov:Go.aV.Met Tryz.prog aK.gd 134 Ro:=
 jC (cx:=aK) (n:=9) (cl:=[]) ay trivial Tryz.func134 λd hd=>by
  obtain⟨n,⟨⟩⟩:=d;exact⟨λ_=>none,cast (by kernel_rfl) (ag3 n)⟩
def pK(vs:List VD) (ms cs:List ByteArray) (fs:List FD) (op:Int):Int:=
 if op=8∨op=9∨op=10∨op=11∨op=12∨op=14 then vs.length else if op=15∨op=16∨op=17 then ms.length else if op=18∨op=19∨op=20 then cs.length else if op=21 then fs.length else -1
abbrev aki:CT:={ ps:=[oH,.int .i64],pre:=λd=>True,res:=λd=>([],.one (.c (.v (.int .i64 (pK d.1.1 d.1.2.1 d.1.2.2.1 d.1.2.2.2.1 d.2.1))))) }
theorem ag4(vs:List VD) (ms cs:List ByteArray) (fs:List FD) (ts:List SD) (op:Int):
 let z7:=pK vs ms cs fs op;let z4:=qI z7 (↑vs.length:Int);let z5:=qI z7 (↑ms.length:Int);let z6:=qI z7 (↑cs.length:Int);let z3:=br (decide (op=21)) (qI z7 (↑fs.length:Int)) (qI z7 (-1:Int));let z2:=br (decide (op=18)) (br (decide (op=18)) z6 z3) (br (decide (op=19)) (br (decide (op=19)) z6 z3) (br (decide (op=20)) z6 z3));let z1:=br (decide (op=15)) (br (decide (op=15)) z5 z2) (br (decide (op=16)) (br (decide (op=16)) z5 z2) (br (decide (op=17)) z5 z2));br (decide (op=8)) (br (decide (op=8)) z4 z1) (br (decide (op=9)) (br (decide (op=9)) z4 z1) (br (decide (op=10)) (br (decide (op=10)) z4 z1) (br (decide (op=11)) (br (decide (op=11)) z4 z1) (br (decide (op=12)) (br (decide (op=12)) z4 z1) (br (decide (op=14)) z4 z1))))):=by
 conv=>zeta
 delta qI;unfold pK;simp only[ah]
 repeat' (first | (refine And.intro ?_ ?_) | (intro _))
 all_goals first | rfl | (simp_all;done) | (simp_all;omega) | grind
theorem abE:Go.aV.Met Tryz.prog aK.gd 211 aki:=
 jC (cx:=aK) (n:=35) (cl:=[]) ay trivial Tryz.func211 λd hd=>by
  obtain⟨⟨vs,ms,cs,fs,ts,⟨⟩⟩,op,⟨⟩⟩:=d;exact⟨λ_=>none,cast (by kernel_rfl) (ag4 vs ms cs fs ts op)⟩
def iD(vs:List VD):List ByteArray:=vs.map λv=>v.1
def jD(fs:List FD):List ByteArray:=fs.map λf=>f.1
abbrev Rq:CT:={ ps:=[oH],pre:=λd=>d.1.1.length≤1000000,res:=λd=>([.row 9 .str (iD d.1.1)],.one (.c (.row 0))) }
@[reducible] def amS (vs:List VD) (ms cs:List ByteArray) (fs:List FD) (ts:List SD):Nat→Option (St→iC):=λk=>match k with
  | 3=>some λ_=>.inv { α:=Nat,slots:=λk=>[(9,.c (.v (.int .i64 k))),(3,.c (.row 1))],res:=λk=>[(1,.row 9 .str (iD (vs.take k)))],inv:=λk=>k≤(vs).length,meas:=λk=>(vs).length - k,nil:=[(3,9,.str)] }
  | _=>none
abbrev aea:=Sh.str.pair (I6.pair Sh.unit)
abbrev kq2:=Sh.str.pair ((I6.pair (I6.pair (I6.pair (I6.pair (I6.pair (I6.pair (I6.pair (I6.pair Sh.unit)))))))).sl.pair Sh.unit)
abbrev aeb:=I6.pair (I6.pair Sh.unit)
theorem ag5(vs:List VD) (ms cs:List ByteArray) (fs:List FD) (ts:List SD) (aA:Rq.pre ((vs,ms,cs,fs,ts,()),())):
 let z2:=[SC.sl aea vs,SC.sl Sh.str ms,SC.sl Sh.str cs,SC.sl kq2 fs,SC.sl aeb ts];let z1:=λ(x:Nat)=>[g0 (aj.blk 27 z2),g0 (aj.row 9 Sh.str (iD (List.take x vs)))];(∃x,x≤vs.length∧(cI 0=cI (↑x:Int)∧SV.c (SC.row (Nat.succ 0))=SV.c (SC.row 1)∧True)∧[g0 (aj.blk 27 z2),g0 (aj.row 9 Sh.str [])]=(z1 x))∧∀(x:Nat),x≤vs.length→br (decide ((↑x:Int) < (↑vs.length:Int))) ((0≤(↑x:Int)∧(↑x:Int) < (↑vs.length:Int))∧∀(d:ByteArray×(I6.pair Sh.unit).den),vs[(↑x:Int).toNat]?=some d→jS (List.length (iD (List.take x vs))+List.length ([d.fst])) 16∧cZ IntKind.i64 ((↑x:Int)+(1:Int))∧∃x',x'≤vs.length∧(cI ((↑x:Int)+(1:Int))=cI (↑x':Int)∧SV.c (SC.row 1)=SV.c (SC.row 1)∧True)∧[g0 (aj.blk 27 z2),g0 (aj.row 9 Sh.str (iD (List.take x vs)++[d.fst]))]=(z1 x')∧vs.length - x' < vs.length - x) ([aj.row 9 Sh.str (iD vs)]=[aj.row 9 Sh.str (iD (List.take x vs))]∧aT.one (SV.c (SC.row 0))=aT.one (SV.c (SC.row 0))):=by
 conv=>zeta
 delta aea kq2 aeb cI g0 I6;have hp:(vs).length≤1000000:=aA;refine⟨⟨0,by omega,⟨rfl,rfl,trivial⟩,rfl⟩,λk hk=>ah.2 ⟨λh=>?_,λh=>?_⟩⟩
 ·simp only[dG]at h;refine⟨by omega,λd hd=>?_⟩
  have hd:(vs)[k]?=some d:=by simpa using hd
  have e:iD ((vs).take (k+1))=iD ((vs).take k)++[d.1]:=by
   unfold iD;rw[Jt,hd];simp
  refine⟨?_,au.2 (by omega),k+1,by omega,⟨rfl,rfl,trivial⟩,?_,by omega⟩
  ·have:(iD ((vs).take k)).length≤1000000:=by simp[iD];omega
   exact bI.2 (by simp only[yK,LZ];omega)
  ·rw[e]
 ·simp only[dh]at h;rw[tZ (by omega)];exact⟨rfl,rfl⟩
theorem abG:Go.aV.Met Tryz.prog aK.gd 183 Rq:=
 jC (cx:=aK) (n:=20) (cl:=[]) ay trivial Tryz.func183 λd hd=>by
  obtain⟨⟨vs,ms,cs,fs,ts,⟨⟩⟩,⟨⟩⟩:=d;exact⟨amS vs ms cs fs ts,cast (by kernel_rfl) (ag5 vs ms cs fs ts hd)⟩
abbrev Rt:CT:={ ps:=[oH],pre:=λd=>d.1.2.2.2.1.length≤1000000,res:=λd=>([.row 9 .str (jD d.1.2.2.2.1)],.one (.c (.row 0))) }
@[reducible] def amT (vs:List VD) (ms cs:List ByteArray) (fs:List FD) (ts:List SD):Nat→Option (St→iC):=λk=>match k with
  | 3=>some λ_=>.inv { α:=Nat,slots:=λk=>[(9,.c (.v (.int .i64 k))),(3,.c (.row 1))],res:=λk=>[(1,.row 9 .str (jD (fs.take k)))],inv:=λk=>k≤(fs).length,meas:=λk=>(fs).length - k,nil:=[(3,9,.str)] }
  | _=>none
theorem ag6(vs:List VD) (ms cs:List ByteArray) (fs:List FD) (ts:List SD) (aA:Rt.pre ((vs,ms,cs,fs,ts,()),())):
 let z2:=[SC.sl aea vs,SC.sl Sh.str ms,SC.sl Sh.str cs,SC.sl kq2 fs,SC.sl aeb ts];let z1:=λ(x:Nat)=>[g0 (aj.blk 27 z2),g0 (aj.row 9 Sh.str (jD (List.take x fs)))];(∃x,x≤fs.length∧(cI 0=cI (↑x:Int)∧SV.c (SC.row (Nat.succ 0))=SV.c (SC.row 1)∧True)∧[g0 (aj.blk 27 z2),g0 (aj.row 9 Sh.str [])]=(z1 x))∧∀(x:Nat),x≤fs.length→br (decide ((↑x:Int) < (↑fs.length:Int))) ((0≤(↑x:Int)∧(↑x:Int) < (↑fs.length:Int))∧∀(d:ByteArray×((I6.pair (I6.pair (I6.pair (I6.pair (I6.pair (I6.pair (I6.pair (I6.pair Sh.unit)))))))).sl.pair Sh.unit).den),fs[(↑x:Int).toNat]?=some d→jS (List.length (jD (List.take x fs))+List.length ([d.fst])) 16∧cZ IntKind.i64 ((↑x:Int)+(1:Int))∧∃x',x'≤fs.length∧(cI ((↑x:Int)+(1:Int))=cI (↑x':Int)∧SV.c (SC.row 1)=SV.c (SC.row 1)∧True)∧[g0 (aj.blk 27 z2),g0 (aj.row 9 Sh.str (jD (List.take x fs)++[d.fst]))]=(z1 x')∧fs.length - x' < fs.length - x) ([aj.row 9 Sh.str (jD fs)]=[aj.row 9 Sh.str (jD (List.take x fs))]∧aT.one (SV.c (SC.row 0))=aT.one (SV.c (SC.row 0))):=by
 conv=>zeta
 delta aea kq2 aeb cI g0 I6;have hp:(fs).length≤1000000:=aA;refine⟨⟨0,by omega,⟨rfl,rfl,trivial⟩,rfl⟩,λk hk=>ah.2 ⟨λh=>?_,λh=>?_⟩⟩
 ·simp only[dG]at h;refine⟨by omega,λd hd=>?_⟩
  have hd:(fs)[k]?=some d:=by simpa using hd
  have e:jD ((fs).take (k+1))=jD ((fs).take k)++[d.1]:=by
   unfold jD;rw[Jt,hd];simp
  refine⟨?_,au.2 (by omega),k+1,by omega,⟨rfl,rfl,trivial⟩,?_,by omega⟩
  ·have:(jD ((fs).take k)).length≤1000000:=by simp[jD];omega
   exact bI.2 (by simp only[yK,LZ];omega)
  ·rw[e]
 ·simp only[dh]at h;rw[tZ (by omega)];exact⟨rfl,rfl⟩
theorem abH:Go.aV.Met Tryz.prog aK.gd 185 Rt:=
 jC (cx:=aK) (n:=20) (cl:=[]) ay trivial Tryz.func185 λd hd=>by
  obtain⟨⟨vs,ms,cs,fs,ts,⟨⟩⟩,⟨⟩⟩:=d;exact⟨amT vs ms cs fs ts,cast (by kernel_rfl) (ag6 vs ms cs fs ts hd)⟩
def Hz(l:List ByteArray) (x:ByteArray):Int:=match l.findIdx? (λy=>decide (y=x)) with | some k=>(k:Int) | none=>-1
theorem Ru{l:List ByteArray}{x:ByteArray}{k:Nat} (hd:l[k]?=some x) (hn:∀j < k,∀y,l[j]?=some y→y≠x):Hz l x=k:=by
 have iO:k < l.length:=(eU.1 hd).1;have:l.findIdx? (λy=>decide (y=x))=some k:=by
  rw[xC];refine⟨iO,by have:=(eU.1 hd).2;simp[this],λj hj=>?_⟩
  have:=hn j hj l[j] (l7 (by omega))
  simpa using this
 simp[Hz,this]
theorem XD{l:List ByteArray}{x:ByteArray} (hn:∀(j:Nat) y,l[j]?=some y→y≠x):Hz l x = -1:=by
 have:l.findIdx? (λy=>decide (y=x))=none:=by
  rw[Me];intro y hy;obtain⟨j,hj⟩:=wQ hy;simpa using hn j y hj
 simp[Hz,this]
abbrev Rw:CT:={ ps:=[.sl .str,.str],pre:=λd=>d.1.length≤1000000,res:=λd=>([],.one (.c (.v (.int .i64 (Hz d.1 d.2.1))))) }
@[reducible] def amU (l:List ByteArray) (x:ByteArray):Nat→Option (St→iC):=λk=>match k with
  | 2=>some λ_=>.inv { α:=Nat,slots:=λk=>[(8,.c (.v (.int .i64 k)))],res:=λk=>[],inv:=λk=>k≤(l).length∧∀j < k,∀y,l[j]?=some y→y≠x,meas:=λk=>(l).length - k }
  | _=>none
theorem ag7(l:List ByteArray) (x:ByteArray) (aA:Rw.pre (l,x,())):
 let z1:=λ(x_1:Nat)=>(x_1≤l.length∧∀(j:Nat),j < x_1→∀(y:ByteArray),l[j]?=some y→y≠x);(∃x_1,(z1 x_1)∧(cI 0=cI (↑x_1:Int)∧True)∧([]:List aal)=[])∧∀(x_1:Nat),(z1 x_1)→br (decide ((↑x_1:Int) < (↑l.length:Int))) ((0≤(↑x_1:Int)∧(↑x_1:Int) < (↑l.length:Int))∧∀(d:ByteArray),l[(↑x_1:Int).toNat]?=some d→br (decide (x=d)) (qI (Hz l x) (↑x_1:Int)) (cZ IntKind.i64 ((↑x_1:Int)+(1:Int))∧∃x',(x'≤l.length∧∀(j:Nat),j < x'→∀(y:ByteArray),l[j]?=some y→y≠x)∧(cI ((↑x_1:Int)+(1:Int))=cI (↑x':Int)∧True)∧([]:List aal)=[]∧l.length - x' < l.length - x_1)) (qI (Hz l x) (-1:Int)):=by
 conv=>zeta
 delta aal cI qI;refine⟨⟨0,⟨by omega,λj hj=>by omega⟩,⟨rfl,trivial⟩,rfl⟩,λk hk=>ah.2 ⟨λh=>?_,λh=>?_⟩⟩
 ·simp only[dG]at h;have hp:l.length≤1000000:=aA;refine⟨by omega,λd hd=>?_⟩
  have hd:l[k]?=some d:=by simpa using hd
  refine ah.2 ⟨λhe=>?_,λhe=>⟨au.2 (by omega),k+1,⟨by omega,λj hj y hy=>?_⟩,⟨rfl,trivial⟩,rfl,by omega⟩⟩
  ·have he:x=d:=by simpa using he
   rw[Ru (by rw[hd,he]) hk.2];exact⟨rfl,rfl⟩
  ·by_cases gq:j=k
   ·subst gq;rw[hd]at hy;cases hy;intro hh;simp[hh]at he
   ·exact hk.2 j (by omega) y hy
 ·simp only[dh]at h;rw[XD (λj y hy=>hk.2 j (by have:=(eU.1 hy).1;omega) y hy)];exact⟨rfl,rfl⟩
theorem abI:Go.aV.Met Tryz.prog aK.gd 215 Rw:=
 jC (cx:=aK) (n:=19) (cl:=[]) ay trivial Tryz.func215 λd hd=>by
  obtain⟨l,x,⟨⟩⟩:=d;exact⟨amU l x,cast (by kernel_rfl) (ag7 l x hd)⟩
def uJ(l:List ByteArray) (x:ByteArray):Bool:=l.any λy=>decide (y=x)
theorem abJ(l:List ByteArray) (x:ByteArray):uJ l x=decide (0≤Hz l x):=by
 have h:=List.findIdx?_isSome (xs:=l) (p:=λy=>decide (y=x))
 unfold uJ Hz;rw[←h];cases l.findIdx? (λy=>decide (y=x)) with
 | none=>rfl
 | some k=>simp
abbrev Rx:CT:={ ps:=[.sl .str,.str],pre:=λd=>d.1.length≤1000000,res:=λd=>([],vB (uJ d.1 d.2.1)) }
theorem ag8(l:List ByteArray) (x:ByteArray) (aA:Rx.pre (l,x,())):
 l.length≤1000000∧qB (uJ l x) (decide (0≤Hz l x)):=by
 delta qB;refine⟨aA,rfl,?_⟩;rw[abJ]
theorem abK:Go.aV.Met Tryz.prog aK.gd 209 Rx:=
 jC (cx:=aK) (n:=9) (cl:=[(215,Rw)]) ay ⟨abI,trivial⟩ Tryz.func209 λd hd=>by
  obtain⟨l,x,⟨⟩⟩:=d;exact⟨λ_=>none,cast (by kernel_rfl) (ag8 l x hd)⟩
end Go.Proofs.YtjhenjhcbcalpaaGreatDoor
