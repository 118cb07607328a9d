/- Part 6 of the proof. Conditions: the rows'. -/
import Derived.Test.YtjhenjhcbcalpaaGreatDoorB5
import Derived.Test.YtjhenjhcbcalpaaGreatDoorProg
import Derived.Shelf.Small.Bits
import Derived.Shelf.Strconv.Itoa0
import Derived.Shelf.Sort.Plain
import Derived.Shelf.Slices.Turned
import Derived.Shelf.Slices.Equal
import Derived.Ground.Names2Prog
import Derived.Shelf.Slices.Clone
import Derived.Shelf.Slices.CompactI
import Derived.Shelf.Slices.SearchI
import Derived.Shelf.Slices.Cells
import Derived.Shelf.Slices.In.SortNone
import Derived.Shelf.Slices.Empties2
import Derived.Ground.SlgnProg
import Derived.Shelf.SlicesE.Clone
set_option linter.unusedSimpArgs false
set_option linter.unusedVariables false
set_option maxRecDepth 1000000
set_option maxHeartbeats 8000000
namespace Go.Proofs.YtjhenjhcbcalpaaGreatDoor
open Go Go.lH
abbrev aY:=Go.lH.Met Tryz.prog
variable {l:List Int}
abbrev ti3:TI:={ desc:=.int .i64,size:=1,bytes:=8,zero:=[.int .i64 0],ig:=some (.int .i64) }
theorem agF:aJ Tryz.prog 3 ti3:=aJ.of_eq (by kernel_rfl) (by kernel_rfl) rfl rfl (aH (i:=ti3) (s0:=(.int .i64)) rfl rfl rfl rfl)
abbrev ti4:TI:={ desc:=.bool,size:=1,bytes:=1,zero:=[.bool false],ig:=some .bool }
theorem agG:aJ Tryz.prog 4 ti4:=aJ.of_eq (by kernel_rfl) (by kernel_rfl) rfl rfl (aH (i:=ti4) (s0:=.bool) rfl rfl rfl rfl)
abbrev ti5:TI:={ desc:=.int .u8,size:=1,bytes:=1,zero:=[.int .u8 0],ig:=some (.int .u8) }
theorem agH:aJ Tryz.prog 5 ti5:=aJ.of_eq (by kernel_rfl) (by kernel_rfl) rfl rfl (aH (i:=ti5) (s0:=(.int .u8)) rfl rfl rfl rfl)
abbrev ti9:TI:={ desc:=.string,size:=1,bytes:=16,zero:=[.string ⟨#[]⟩],ig:=some .str }
theorem agJ:aJ Tryz.prog 9 ti9:=aJ.of_eq (by kernel_rfl) (by kernel_rfl) rfl rfl (aH (i:=ti9) (s0:=.str) rfl rfl rfl rfl)
abbrev agK:TI:={ desc:=.int .i32,size:=1,bytes:=4,zero:=[.int .i32 0],ig:=some (.int .i32) }
theorem abN:aJ Tryz.prog 21 agK:=aJ.of_eq (by kernel_rfl) (by kernel_rfl) rfl rfl (aH (i:=agK) (s0:=(.int .i32)) rfl rfl rfl rfl)
abbrev agL:TI:={ desc:=.slice 118,size:=1,bytes:=24,zero:=[.slice none 0 0],ig:=some (.sl (.pair .str (.pair (.int .i64) .unit))) }
theorem abO:aJ Tryz.prog 22 agL:=aJ.of_eq (by kernel_rfl) (by kernel_rfl) rfl rfl (aH (i:=agL) (s0:=(.sl (.pair .str (.pair (.int .i64) .unit)))) rfl rfl rfl rfl)
abbrev agN:TI:={ desc:=.slice 9,size:=1,bytes:=24,zero:=[.slice none 0 0],ig:=some (.sl .str) }
theorem abP:aJ Tryz.prog 23 agN:=aJ.of_eq (by kernel_rfl) (by kernel_rfl) rfl rfl (aH (i:=agN) (s0:=(.sl .str)) rfl rfl rfl rfl)
abbrev agO:TI:={ desc:=.slice 77,size:=1,bytes:=24,zero:=[.slice none 0 0],ig:=some (.sl (.pair .str (.pair (.sl (.pair (.int .i64) (.pair (.int .i64) (.pair (.int .i64) (.pair (.int .i64) (.pair (.int .i64) (.pair (.int .i64) (.pair (.int .i64) (.pair (.int .i64) .unit))))))))) .unit))) }
theorem abQ:aJ Tryz.prog 24 agO:=aJ.of_eq (by kernel_rfl) (by kernel_rfl) rfl rfl (aH (i:=agO) (s0:=(.sl (.pair .str (.pair (.sl (.pair (.int .i64) (.pair (.int .i64) (.pair (.int .i64) (.pair (.int .i64) (.pair (.int .i64) (.pair (.int .i64) (.pair (.int .i64) (.pair (.int .i64) .unit))))))))) .unit)))) rfl rfl rfl rfl)
abbrev agP:TI:={ desc:=.slice 82,size:=1,bytes:=24,zero:=[.slice none 0 0],ig:=some (.sl (.pair (.int .i64) (.pair (.int .i64) .unit))) }
theorem abR:aJ Tryz.prog 25 agP:=aJ.of_eq (by kernel_rfl) (by kernel_rfl) rfl rfl (aH (i:=agP) (s0:=(.sl (.pair (.int .i64) (.pair (.int .i64) .unit)))) rfl rfl rfl rfl)
abbrev agQ:TI:={ desc:=.struct #[dH 22 0,dH 23 1,dH 23 2,dH 24 3,dH 25 4],size:=5,bytes:=120,zero:=[.slice none 0 0,.slice none 0 0,.slice none 0 0,.slice none 0 0,.slice none 0 0],ig:=some (.pair (.sl (.pair .str (.pair (.int .i64) .unit))) (.pair (.sl .str) (.pair (.sl .str) (.pair (.sl (.pair .str (.pair (.sl (.pair (.int .i64) (.pair (.int .i64) (.pair (.int .i64) (.pair (.int .i64) (.pair (.int .i64) (.pair (.int .i64) (.pair (.int .i64) (.pair (.int .i64) .unit))))))))) .unit))) (.pair (.sl (.pair (.int .i64) (.pair (.int .i64) .unit))) .unit))))) }
theorem abS:aJ Tryz.prog 26 agQ:=aJ.of_eq (by kernel_rfl) (by kernel_rfl) rfl rfl (aH (i:=agQ) (s0:=(.pair (.sl (.pair .str (.pair (.int .i64) .unit))) (.pair (.sl .str) (.pair (.sl .str) (.pair (.sl (.pair .str (.pair (.sl (.pair (.int .i64) (.pair (.int .i64) (.pair (.int .i64) (.pair (.int .i64) (.pair (.int .i64) (.pair (.int .i64) (.pair (.int .i64) (.pair (.int .i64) .unit))))))))) .unit))) (.pair (.sl (.pair (.int .i64) (.pair (.int .i64) .unit))) .unit)))))) rfl rfl rfl rfl)
abbrev agR:TI:={ desc:=.struct #[dH 22 0,dH 23 1,dH 23 2,dH 24 3,dH 25 4],size:=5,bytes:=120,zero:=[.slice none 0 0,.slice none 0 0,.slice none 0 0,.slice none 0 0,.slice none 0 0],ig:=some (.pair (.sl (.pair .str (.pair (.int .i64) .unit))) (.pair (.sl .str) (.pair (.sl .str) (.pair (.sl (.pair .str (.pair (.sl (.pair (.int .i64) (.pair (.int .i64) (.pair (.int .i64) (.pair (.int .i64) (.pair (.int .i64) (.pair (.int .i64) (.pair (.int .i64) (.pair (.int .i64) .unit))))))))) .unit))) (.pair (.sl (.pair (.int .i64) (.pair (.int .i64) .unit))) .unit))))) }
theorem abT:aJ Tryz.prog 27 agR:=aJ.of_eq (by kernel_rfl) (by kernel_rfl) rfl rfl (aH (i:=agR) (s0:=(.pair (.sl (.pair .str (.pair (.int .i64) .unit))) (.pair (.sl .str) (.pair (.sl .str) (.pair (.sl (.pair .str (.pair (.sl (.pair (.int .i64) (.pair (.int .i64) (.pair (.int .i64) (.pair (.int .i64) (.pair (.int .i64) (.pair (.int .i64) (.pair (.int .i64) (.pair (.int .i64) .unit))))))))) .unit))) (.pair (.sl (.pair (.int .i64) (.pair (.int .i64) .unit))) .unit)))))) rfl rfl rfl rfl)
abbrev agS:TI:={ desc:=.slice 56,size:=1,bytes:=24,zero:=[.slice none 0 0],ig:=some (.sl (.pair (.int .i64) (.pair (.int .i64) (.pair (.int .i64) (.pair (.arr 8 (.int .i64)) (.pair (.int .i64) (.pair (.int .i64) (.pair (.int .i64) (.pair (.int .i64) (.pair (.int .i64) (.pair (.sl (.int .i64)) .unit))))))))))) }
theorem abU:aJ Tryz.prog 30 agS:=aJ.of_eq (by kernel_rfl) (by kernel_rfl) rfl rfl (aH (i:=agS) (s0:=(.sl (.pair (.int .i64) (.pair (.int .i64) (.pair (.int .i64) (.pair (.arr 8 (.int .i64)) (.pair (.int .i64) (.pair (.int .i64) (.pair (.int .i64) (.pair (.int .i64) (.pair (.int .i64) (.pair (.sl (.int .i64)) .unit)))))))))))) rfl rfl rfl rfl)
abbrev agT:TI:={ desc:=.slice 3,size:=1,bytes:=24,zero:=[.slice none 0 0],ig:=some (.sl (.int .i64)) }
theorem abV:aJ Tryz.prog 31 agT:=aJ.of_eq (by kernel_rfl) (by kernel_rfl) rfl rfl (aH (i:=agT) (s0:=(.sl (.int .i64))) rfl rfl rfl rfl)
abbrev agU:TI:={ desc:=.slice 31,size:=1,bytes:=24,zero:=[.slice none 0 0],ig:=some (.sl (.sl (.int .i64))) }
theorem abW:aJ Tryz.prog 32 agU:=aJ.of_eq (by kernel_rfl) (by kernel_rfl) rfl rfl (aH (i:=agU) (s0:=(.sl (.sl (.int .i64)))) rfl rfl rfl rfl)
abbrev agV:TI:={ desc:=.struct #[dH 31 0,dH 31 1,dH 32 2,dH 31 3],size:=4,bytes:=96,zero:=[.slice none 0 0,.slice none 0 0,.slice none 0 0,.slice none 0 0],ig:=some (.pair (.sl (.int .i64)) (.pair (.sl (.int .i64)) (.pair (.sl (.sl (.int .i64))) (.pair (.sl (.int .i64)) .unit)))) }
theorem abX:aJ Tryz.prog 33 agV:=aJ.of_eq (by kernel_rfl) (by kernel_rfl) rfl rfl (aH (i:=agV) (s0:=(.pair (.sl (.int .i64)) (.pair (.sl (.int .i64)) (.pair (.sl (.sl (.int .i64))) (.pair (.sl (.int .i64)) .unit))))) rfl rfl rfl rfl)
abbrev agW:TI:={ desc:=.struct #[dH 31 0,dH 31 1,dH 32 2,dH 31 3],size:=4,bytes:=96,zero:=[.slice none 0 0,.slice none 0 0,.slice none 0 0,.slice none 0 0],ig:=some (.pair (.sl (.int .i64)) (.pair (.sl (.int .i64)) (.pair (.sl (.sl (.int .i64))) (.pair (.sl (.int .i64)) .unit)))) }
theorem abY:aJ Tryz.prog 34 agW:=aJ.of_eq (by kernel_rfl) (by kernel_rfl) rfl rfl (aH (i:=agW) (s0:=(.pair (.sl (.int .i64)) (.pair (.sl (.int .i64)) (.pair (.sl (.sl (.int .i64))) (.pair (.sl (.int .i64)) .unit))))) rfl rfl rfl rfl)
abbrev agX:TI:={ desc:=.slice 65,size:=1,bytes:=24,zero:=[.slice none 0 0],ig:=some (.sl (.pair (.int .i64) (.pair (.int .i64) (.pair (.sl (.pair (.int .i64) (.pair (.int .i64) .unit))) .unit)))) }
theorem abZ:aJ Tryz.prog 35 agX:=aJ.of_eq (by kernel_rfl) (by kernel_rfl) rfl rfl (aH (i:=agX) (s0:=(.sl (.pair (.int .i64) (.pair (.int .i64) (.pair (.sl (.pair (.int .i64) (.pair (.int .i64) .unit))) .unit))))) rfl rfl rfl rfl)
abbrev agY:TI:={ desc:=.struct #[dH 30 0,dH 34 1,dH 35 5],size:=6,bytes:=144,zero:=[.slice none 0 0,.slice none 0 0,.slice none 0 0,.slice none 0 0,.slice none 0 0,.slice none 0 0],ig:=some (.pair (.sl (.pair (.int .i64) (.pair (.int .i64) (.pair (.int .i64) (.pair (.arr 8 (.int .i64)) (.pair (.int .i64) (.pair (.int .i64) (.pair (.int .i64) (.pair (.int .i64) (.pair (.int .i64) (.pair (.sl (.int .i64)) .unit))))))))))) (.pair (.pair (.sl (.int .i64)) (.pair (.sl (.int .i64)) (.pair (.sl (.sl (.int .i64))) (.pair (.sl (.int .i64)) .unit)))) (.pair (.sl (.pair (.int .i64) (.pair (.int .i64) (.pair (.sl (.pair (.int .i64) (.pair (.int .i64) .unit))) .unit)))) .unit))) }
theorem ab1:aJ Tryz.prog 36 agY:=aJ.of_eq (by kernel_rfl) (by kernel_rfl) rfl rfl (aH (i:=agY) (s0:=(.pair (.sl (.pair (.int .i64) (.pair (.int .i64) (.pair (.int .i64) (.pair (.arr 8 (.int .i64)) (.pair (.int .i64) (.pair (.int .i64) (.pair (.int .i64) (.pair (.int .i64) (.pair (.int .i64) (.pair (.sl (.int .i64)) .unit))))))))))) (.pair (.pair (.sl (.int .i64)) (.pair (.sl (.int .i64)) (.pair (.sl (.sl (.int .i64))) (.pair (.sl (.int .i64)) .unit)))) (.pair (.sl (.pair (.int .i64) (.pair (.int .i64) (.pair (.sl (.pair (.int .i64) (.pair (.int .i64) .unit))) .unit)))) .unit)))) rfl rfl rfl rfl)
abbrev ag0:TI:={ desc:=.struct #[dH 30 0,dH 34 1,dH 35 5],size:=6,bytes:=144,zero:=[.slice none 0 0,.slice none 0 0,.slice none 0 0,.slice none 0 0,.slice none 0 0,.slice none 0 0],ig:=some (.pair (.sl (.pair (.int .i64) (.pair (.int .i64) (.pair (.int .i64) (.pair (.arr 8 (.int .i64)) (.pair (.int .i64) (.pair (.int .i64) (.pair (.int .i64) (.pair (.int .i64) (.pair (.int .i64) (.pair (.sl (.int .i64)) .unit))))))))))) (.pair (.pair (.sl (.int .i64)) (.pair (.sl (.int .i64)) (.pair (.sl (.sl (.int .i64))) (.pair (.sl (.int .i64)) .unit)))) (.pair (.sl (.pair (.int .i64) (.pair (.int .i64) (.pair (.sl (.pair (.int .i64) (.pair (.int .i64) .unit))) .unit)))) .unit))) }
theorem ab2:aJ Tryz.prog 37 ag0:=aJ.of_eq (by kernel_rfl) (by kernel_rfl) rfl rfl (aH (i:=ag0) (s0:=(.pair (.sl (.pair (.int .i64) (.pair (.int .i64) (.pair (.int .i64) (.pair (.arr 8 (.int .i64)) (.pair (.int .i64) (.pair (.int .i64) (.pair (.int .i64) (.pair (.int .i64) (.pair (.int .i64) (.pair (.sl (.int .i64)) .unit))))))))))) (.pair (.pair (.sl (.int .i64)) (.pair (.sl (.int .i64)) (.pair (.sl (.sl (.int .i64))) (.pair (.sl (.int .i64)) .unit)))) (.pair (.sl (.pair (.int .i64) (.pair (.int .i64) (.pair (.sl (.pair (.int .i64) (.pair (.int .i64) .unit))) .unit)))) .unit)))) rfl rfl rfl rfl)
abbrev ag1:TI:={ desc:=.int .i64,size:=1,bytes:=8,zero:=[.int .i64 0],ig:=some (.int .i64) }
theorem ab3:aJ Tryz.prog 38 ag1:=aJ.of_eq (by kernel_rfl) (by kernel_rfl) rfl rfl (aH (i:=ag1) (s0:=(.int .i64)) rfl rfl rfl rfl)
abbrev ag2:TI:={ desc:=.struct #[dH 27 0,dH 3 5,dH 3 6,dH 37 7],size:=13,bytes:=280,zero:=[.slice none 0 0,.slice none 0 0,.slice none 0 0,.slice none 0 0,.slice none 0 0,.int .i64 0,.int .i64 0,.slice none 0 0,.slice none 0 0,.slice none 0 0,.slice none 0 0,.slice none 0 0,.slice none 0 0],ig:=some (.pair (.pair (.sl (.pair .str (.pair (.int .i64) .unit))) (.pair (.sl .str) (.pair (.sl .str) (.pair (.sl (.pair .str (.pair (.sl (.pair (.int .i64) (.pair (.int .i64) (.pair (.int .i64) (.pair (.int .i64) (.pair (.int .i64) (.pair (.int .i64) (.pair (.int .i64) (.pair (.int .i64) .unit))))))))) .unit))) (.pair (.sl (.pair (.int .i64) (.pair (.int .i64) .unit))) .unit))))) (.pair (.int .i64) (.pair (.int .i64) (.pair (.pair (.sl (.pair (.int .i64) (.pair (.int .i64) (.pair (.int .i64) (.pair (.arr 8 (.int .i64)) (.pair (.int .i64) (.pair (.int .i64) (.pair (.int .i64) (.pair (.int .i64) (.pair (.int .i64) (.pair (.sl (.int .i64)) .unit))))))))))) (.pair (.pair (.sl (.int .i64)) (.pair (.sl (.int .i64)) (.pair (.sl (.sl (.int .i64))) (.pair (.sl (.int .i64)) .unit)))) (.pair (.sl (.pair (.int .i64) (.pair (.int .i64) (.pair (.sl (.pair (.int .i64) (.pair (.int .i64) .unit))) .unit)))) .unit))) .unit)))) }
theorem ab4:aJ Tryz.prog 43 ag2:=aJ.of_eq (by kernel_rfl) (by kernel_rfl) rfl rfl (aH (i:=ag2) (s0:=(.pair (.pair (.sl (.pair .str (.pair (.int .i64) .unit))) (.pair (.sl .str) (.pair (.sl .str) (.pair (.sl (.pair .str (.pair (.sl (.pair (.int .i64) (.pair (.int .i64) (.pair (.int .i64) (.pair (.int .i64) (.pair (.int .i64) (.pair (.int .i64) (.pair (.int .i64) (.pair (.int .i64) .unit))))))))) .unit))) (.pair (.sl (.pair (.int .i64) (.pair (.int .i64) .unit))) .unit))))) (.pair (.int .i64) (.pair (.int .i64) (.pair (.pair (.sl (.pair (.int .i64) (.pair (.int .i64) (.pair (.int .i64) (.pair (.arr 8 (.int .i64)) (.pair (.int .i64) (.pair (.int .i64) (.pair (.int .i64) (.pair (.int .i64) (.pair (.int .i64) (.pair (.sl (.int .i64)) .unit))))))))))) (.pair (.pair (.sl (.int .i64)) (.pair (.sl (.int .i64)) (.pair (.sl (.sl (.int .i64))) (.pair (.sl (.int .i64)) .unit)))) (.pair (.sl (.pair (.int .i64) (.pair (.int .i64) (.pair (.sl (.pair (.int .i64) (.pair (.int .i64) .unit))) .unit)))) .unit))) .unit))))) rfl rfl rfl rfl)
abbrev ag3:TI:={ desc:=.struct #[dH 27 0,dH 3 5,dH 3 6,dH 37 7],size:=13,bytes:=280,zero:=[.slice none 0 0,.slice none 0 0,.slice none 0 0,.slice none 0 0,.slice none 0 0,.int .i64 0,.int .i64 0,.slice none 0 0,.slice none 0 0,.slice none 0 0,.slice none 0 0,.slice none 0 0,.slice none 0 0],ig:=some (.pair (.pair (.sl (.pair .str (.pair (.int .i64) .unit))) (.pair (.sl .str) (.pair (.sl .str) (.pair (.sl (.pair .str (.pair (.sl (.pair (.int .i64) (.pair (.int .i64) (.pair (.int .i64) (.pair (.int .i64) (.pair (.int .i64) (.pair (.int .i64) (.pair (.int .i64) (.pair (.int .i64) .unit))))))))) .unit))) (.pair (.sl (.pair (.int .i64) (.pair (.int .i64) .unit))) .unit))))) (.pair (.int .i64) (.pair (.int .i64) (.pair (.pair (.sl (.pair (.int .i64) (.pair (.int .i64) (.pair (.int .i64) (.pair (.arr 8 (.int .i64)) (.pair (.int .i64) (.pair (.int .i64) (.pair (.int .i64) (.pair (.int .i64) (.pair (.int .i64) (.pair (.sl (.int .i64)) .unit))))))))))) (.pair (.pair (.sl (.int .i64)) (.pair (.sl (.int .i64)) (.pair (.sl (.sl (.int .i64))) (.pair (.sl (.int .i64)) .unit)))) (.pair (.sl (.pair (.int .i64) (.pair (.int .i64) (.pair (.sl (.pair (.int .i64) (.pair (.int .i64) .unit))) .unit)))) .unit))) .unit)))) }
theorem ab5:aJ Tryz.prog 44 ag3:=aJ.of_eq (by kernel_rfl) (by kernel_rfl) rfl rfl (aH (i:=ag3) (s0:=(.pair (.pair (.sl (.pair .str (.pair (.int .i64) .unit))) (.pair (.sl .str) (.pair (.sl .str) (.pair (.sl (.pair .str (.pair (.sl (.pair (.int .i64) (.pair (.int .i64) (.pair (.int .i64) (.pair (.int .i64) (.pair (.int .i64) (.pair (.int .i64) (.pair (.int .i64) (.pair (.int .i64) .unit))))))))) .unit))) (.pair (.sl (.pair (.int .i64) (.pair (.int .i64) .unit))) .unit))))) (.pair (.int .i64) (.pair (.int .i64) (.pair (.pair (.sl (.pair (.int .i64) (.pair (.int .i64) (.pair (.int .i64) (.pair (.arr 8 (.int .i64)) (.pair (.int .i64) (.pair (.int .i64) (.pair (.int .i64) (.pair (.int .i64) (.pair (.int .i64) (.pair (.sl (.int .i64)) .unit))))))))))) (.pair (.pair (.sl (.int .i64)) (.pair (.sl (.int .i64)) (.pair (.sl (.sl (.int .i64))) (.pair (.sl (.int .i64)) .unit)))) (.pair (.sl (.pair (.int .i64) (.pair (.int .i64) (.pair (.sl (.pair (.int .i64) (.pair (.int .i64) .unit))) .unit)))) .unit))) .unit))))) rfl rfl rfl rfl)
abbrev ag4:TI:={ desc:=.int .i64,size:=1,bytes:=8,zero:=[.int .i64 0],ig:=some (.int .i64) }
theorem ab6:aJ Tryz.prog 46 ag4:=aJ.of_eq (by kernel_rfl) (by kernel_rfl) rfl rfl (aH (i:=ag4) (s0:=(.int .i64)) rfl rfl rfl rfl)
abbrev ag5:TI:={ desc:=.int .i64,size:=1,bytes:=8,zero:=[.int .i64 0],ig:=some (.int .i64) }
theorem ab7:aJ Tryz.prog 47 ag5:=aJ.of_eq (by kernel_rfl) (by kernel_rfl) rfl rfl (aH (i:=ag5) (s0:=(.int .i64)) rfl rfl rfl rfl)
abbrev ag6:TI:={ desc:=.struct #[dH 3 0,dH 3 1,dH 46 2,dH 3 3,dH 3 4,dH 3 5,dH 47 6,dH 3 7,dH 3 8],size:=9,bytes:=72,zero:=[.int .i64 0,.int .i64 0,.int .i64 0,.int .i64 0,.int .i64 0,.int .i64 0,.int .i64 0,.int .i64 0,.int .i64 0],ig:=some (.pair (.int .i64) (.pair (.int .i64) (.pair (.int .i64) (.pair (.int .i64) (.pair (.int .i64) (.pair (.int .i64) (.pair (.int .i64) (.pair (.int .i64) (.pair (.int .i64) .unit))))))))),y5:=[.i,.i,.i,.i,.i,.i,.i,.i,.i] }
theorem ab8:aJ Tryz.prog 48 ag6:=aJ.of_eq (by kernel_rfl) (by kernel_rfl) rfl rfl (aH (i:=ag6) (s0:=(.pair (.int .i64) (.pair (.int .i64) (.pair (.int .i64) (.pair (.int .i64) (.pair (.int .i64) (.pair (.int .i64) (.pair (.int .i64) (.pair (.int .i64) (.pair (.int .i64) .unit)))))))))) rfl rfl rfl rfl) (λ_=>by kernel_rfl)
abbrev ag7:TI:={ desc:=.struct #[dH 3 0,dH 3 1,dH 46 2,dH 3 3,dH 3 4,dH 3 5,dH 47 6,dH 3 7,dH 3 8],size:=9,bytes:=72,zero:=[.int .i64 0,.int .i64 0,.int .i64 0,.int .i64 0,.int .i64 0,.int .i64 0,.int .i64 0,.int .i64 0,.int .i64 0],ig:=some (.pair (.int .i64) (.pair (.int .i64) (.pair (.int .i64) (.pair (.int .i64) (.pair (.int .i64) (.pair (.int .i64) (.pair (.int .i64) (.pair (.int .i64) (.pair (.int .i64) .unit))))))))),y5:=[.i,.i,.i,.i,.i,.i,.i,.i,.i] }
theorem ab9:aJ Tryz.prog 49 ag7:=aJ.of_eq (by kernel_rfl) (by kernel_rfl) rfl rfl (aH (i:=ag7) (s0:=(.pair (.int .i64) (.pair (.int .i64) (.pair (.int .i64) (.pair (.int .i64) (.pair (.int .i64) (.pair (.int .i64) (.pair (.int .i64) (.pair (.int .i64) (.pair (.int .i64) .unit)))))))))) rfl rfl rfl rfl) (λ_=>by kernel_rfl)
abbrev ag8:TI:={ desc:=.array 8 3,size:=8,bytes:=64,zero:=[.int .i64 0,.int .i64 0,.int .i64 0,.int .i64 0,.int .i64 0,.int .i64 0,.int .i64 0,.int .i64 0],ig:=some (.arr 8 (.int .i64)),y5:=[.i] }
theorem acd:aJ Tryz.prog 52 ag8:=aJ.of_eq (by kernel_rfl) (by kernel_rfl) rfl rfl (aH (i:=ag8) (s0:=(.arr 8 (.int .i64))) rfl rfl rfl rfl) (λ_=>by kernel_rfl)
abbrev ag9:TI:={ desc:=.int .i64,size:=1,bytes:=8,zero:=[.int .i64 0],ig:=some (.int .i64) }
theorem ace:aJ Tryz.prog 53 ag9:=aJ.of_eq (by kernel_rfl) (by kernel_rfl) rfl rfl (aH (i:=ag9) (s0:=(.int .i64)) rfl rfl rfl rfl)
abbrev aha:TI:={ desc:=.int .i64,size:=1,bytes:=8,zero:=[.int .i64 0],ig:=some (.int .i64) }
theorem acf:aJ Tryz.prog 54 aha:=aJ.of_eq (by kernel_rfl) (by kernel_rfl) rfl rfl (aH (i:=aha) (s0:=(.int .i64)) rfl rfl rfl rfl)
abbrev ahb:TI:={ desc:=.struct #[dH 3 0,dH 3 1,dH 3 2,dH 52 3,dH 3 11,dH 3 12,dH 53 13,dH 54 14,dH 38 15,dH 31 16],size:=17,bytes:=152,zero:=[.int .i64 0,.int .i64 0,.int .i64 0,.int .i64 0,.int .i64 0,.int .i64 0,.int .i64 0,.int .i64 0,.int .i64 0,.int .i64 0,.int .i64 0,.int .i64 0,.int .i64 0,.int .i64 0,.int .i64 0,.int .i64 0,.slice none 0 0],ig:=some (.pair (.int .i64) (.pair (.int .i64) (.pair (.int .i64) (.pair (.arr 8 (.int .i64)) (.pair (.int .i64) (.pair (.int .i64) (.pair (.int .i64) (.pair (.int .i64) (.pair (.int .i64) (.pair (.sl (.int .i64)) .unit)))))))))) }
theorem acg:aJ Tryz.prog 55 ahb:=aJ.of_eq (by kernel_rfl) (by kernel_rfl) rfl rfl (aH (i:=ahb) (s0:=(.pair (.int .i64) (.pair (.int .i64) (.pair (.int .i64) (.pair (.arr 8 (.int .i64)) (.pair (.int .i64) (.pair (.int .i64) (.pair (.int .i64) (.pair (.int .i64) (.pair (.int .i64) (.pair (.sl (.int .i64)) .unit))))))))))) rfl rfl rfl rfl)
abbrev ahc:TI:={ desc:=.struct #[dH 3 0,dH 3 1,dH 3 2,dH 52 3,dH 3 11,dH 3 12,dH 53 13,dH 54 14,dH 38 15,dH 31 16],size:=17,bytes:=152,zero:=[.int .i64 0,.int .i64 0,.int .i64 0,.int .i64 0,.int .i64 0,.int .i64 0,.int .i64 0,.int .i64 0,.int .i64 0,.int .i64 0,.int .i64 0,.int .i64 0,.int .i64 0,.int .i64 0,.int .i64 0,.int .i64 0,.slice none 0 0],ig:=some (.pair (.int .i64) (.pair (.int .i64) (.pair (.int .i64) (.pair (.arr 8 (.int .i64)) (.pair (.int .i64) (.pair (.int .i64) (.pair (.int .i64) (.pair (.int .i64) (.pair (.int .i64) (.pair (.sl (.int .i64)) .unit)))))))))) }
theorem ach:aJ Tryz.prog 56 ahc:=aJ.of_eq (by kernel_rfl) (by kernel_rfl) rfl rfl (aH (i:=ahc) (s0:=(.pair (.int .i64) (.pair (.int .i64) (.pair (.int .i64) (.pair (.arr 8 (.int .i64)) (.pair (.int .i64) (.pair (.int .i64) (.pair (.int .i64) (.pair (.int .i64) (.pair (.int .i64) (.pair (.sl (.int .i64)) .unit))))))))))) rfl rfl rfl rfl)
abbrev ahd:TI:={ desc:=.slice 67,size:=1,bytes:=24,zero:=[.slice none 0 0],ig:=some (.sl (.pair (.int .i64) (.pair (.int .i64) .unit))) }
theorem aci:aJ Tryz.prog 63 ahd:=aJ.of_eq (by kernel_rfl) (by kernel_rfl) rfl rfl (aH (i:=ahd) (s0:=(.sl (.pair (.int .i64) (.pair (.int .i64) .unit)))) rfl rfl rfl rfl)
abbrev ahe:TI:={ desc:=.struct #[dH 3 0,dH 3 1,dH 63 2],size:=3,bytes:=40,zero:=[.int .i64 0,.int .i64 0,.slice none 0 0],ig:=some (.pair (.int .i64) (.pair (.int .i64) (.pair (.sl (.pair (.int .i64) (.pair (.int .i64) .unit))) .unit))) }
theorem acj:aJ Tryz.prog 64 ahe:=aJ.of_eq (by kernel_rfl) (by kernel_rfl) rfl rfl (aH (i:=ahe) (s0:=(.pair (.int .i64) (.pair (.int .i64) (.pair (.sl (.pair (.int .i64) (.pair (.int .i64) .unit))) .unit)))) rfl rfl rfl rfl)
abbrev ahf:TI:={ desc:=.struct #[dH 3 0,dH 3 1,dH 63 2],size:=3,bytes:=40,zero:=[.int .i64 0,.int .i64 0,.slice none 0 0],ig:=some (.pair (.int .i64) (.pair (.int .i64) (.pair (.sl (.pair (.int .i64) (.pair (.int .i64) .unit))) .unit))) }
theorem acn:aJ Tryz.prog 65 ahf:=aJ.of_eq (by kernel_rfl) (by kernel_rfl) rfl rfl (aH (i:=ahf) (s0:=(.pair (.int .i64) (.pair (.int .i64) (.pair (.sl (.pair (.int .i64) (.pair (.int .i64) .unit))) .unit)))) rfl rfl rfl rfl)
abbrev ahg:TI:={ desc:=.struct #[dH 3 0,dH 3 1],size:=2,bytes:=16,zero:=[.int .i64 0,.int .i64 0],ig:=some (.pair (.int .i64) (.pair (.int .i64) .unit)),y5:=[.i,.i] }
theorem aco:aJ Tryz.prog 66 ahg:=aJ.of_eq (by kernel_rfl) (by kernel_rfl) rfl rfl (aH (i:=ahg) (s0:=(.pair (.int .i64) (.pair (.int .i64) .unit))) rfl rfl rfl rfl) (λ_=>by kernel_rfl)
abbrev ahh:TI:={ desc:=.struct #[dH 3 0,dH 3 1],size:=2,bytes:=16,zero:=[.int .i64 0,.int .i64 0],ig:=some (.pair (.int .i64) (.pair (.int .i64) .unit)),y5:=[.i,.i] }
theorem acp:aJ Tryz.prog 67 ahh:=aJ.of_eq (by kernel_rfl) (by kernel_rfl) rfl rfl (aH (i:=ahh) (s0:=(.pair (.int .i64) (.pair (.int .i64) .unit))) rfl rfl rfl rfl) (λ_=>by kernel_rfl)
abbrev ahi:TI:={ desc:=.slice 91,size:=1,bytes:=24,zero:=[.slice none 0 0],ig:=some (.sl (.pair (.int .i64) (.pair (.int .i64) (.pair (.int .i64) (.pair (.int .i64) (.pair (.int .i64) (.pair (.int .i64) (.pair (.int .i64) (.pair (.int .i64) .unit))))))))) }
theorem acr:aJ Tryz.prog 75 ahi:=aJ.of_eq (by kernel_rfl) (by kernel_rfl) rfl rfl (aH (i:=ahi) (s0:=(.sl (.pair (.int .i64) (.pair (.int .i64) (.pair (.int .i64) (.pair (.int .i64) (.pair (.int .i64) (.pair (.int .i64) (.pair (.int .i64) (.pair (.int .i64) .unit)))))))))) rfl rfl rfl rfl)
abbrev ahj:TI:={ desc:=.struct #[dH 9 0,dH 75 1],size:=2,bytes:=40,zero:=[.string ⟨#[]⟩,.slice none 0 0],ig:=some (.pair .str (.pair (.sl (.pair (.int .i64) (.pair (.int .i64) (.pair (.int .i64) (.pair (.int .i64) (.pair (.int .i64) (.pair (.int .i64) (.pair (.int .i64) (.pair (.int .i64) .unit))))))))) .unit)) }
theorem acs:aJ Tryz.prog 76 ahj:=aJ.of_eq (by kernel_rfl) (by kernel_rfl) rfl rfl (aH (i:=ahj) (s0:=(.pair .str (.pair (.sl (.pair (.int .i64) (.pair (.int .i64) (.pair (.int .i64) (.pair (.int .i64) (.pair (.int .i64) (.pair (.int .i64) (.pair (.int .i64) (.pair (.int .i64) .unit))))))))) .unit))) rfl rfl rfl rfl)
abbrev ahk:TI:={ desc:=.struct #[dH 9 0,dH 75 1],size:=2,bytes:=40,zero:=[.string ⟨#[]⟩,.slice none 0 0],ig:=some (.pair .str (.pair (.sl (.pair (.int .i64) (.pair (.int .i64) (.pair (.int .i64) (.pair (.int .i64) (.pair (.int .i64) (.pair (.int .i64) (.pair (.int .i64) (.pair (.int .i64) .unit))))))))) .unit)) }
theorem acu:aJ Tryz.prog 77 ahk:=aJ.of_eq (by kernel_rfl) (by kernel_rfl) rfl rfl (aH (i:=ahk) (s0:=(.pair .str (.pair (.sl (.pair (.int .i64) (.pair (.int .i64) (.pair (.int .i64) (.pair (.int .i64) (.pair (.int .i64) (.pair (.int .i64) (.pair (.int .i64) (.pair (.int .i64) .unit))))))))) .unit))) rfl rfl rfl rfl)
abbrev ahl:TI:={ desc:=.struct #[dH 3 0,dH 3 1],size:=2,bytes:=16,zero:=[.int .i64 0,.int .i64 0],ig:=some (.pair (.int .i64) (.pair (.int .i64) .unit)),y5:=[.i,.i] }
theorem acv:aJ Tryz.prog 81 ahl:=aJ.of_eq (by kernel_rfl) (by kernel_rfl) rfl rfl (aH (i:=ahl) (s0:=(.pair (.int .i64) (.pair (.int .i64) .unit))) rfl rfl rfl rfl) (λ_=>by kernel_rfl)
abbrev ahm:TI:={ desc:=.struct #[dH 3 0,dH 3 1],size:=2,bytes:=16,zero:=[.int .i64 0,.int .i64 0],ig:=some (.pair (.int .i64) (.pair (.int .i64) .unit)),y5:=[.i,.i] }
theorem acw:aJ Tryz.prog 82 ahm:=aJ.of_eq (by kernel_rfl) (by kernel_rfl) rfl rfl (aH (i:=ahm) (s0:=(.pair (.int .i64) (.pair (.int .i64) .unit))) rfl rfl rfl rfl) (λ_=>by kernel_rfl)
abbrev ahn:TI:={ desc:=.int .i64,size:=1,bytes:=8,zero:=[.int .i64 0],ig:=some (.int .i64) }
theorem acy:aJ Tryz.prog 88 ahn:=aJ.of_eq (by kernel_rfl) (by kernel_rfl) rfl rfl (aH (i:=ahn) (s0:=(.int .i64)) rfl rfl rfl rfl)
abbrev aho:TI:={ desc:=.int .i64,size:=1,bytes:=8,zero:=[.int .i64 0],ig:=some (.int .i64) }
theorem acz:aJ Tryz.prog 89 aho:=aJ.of_eq (by kernel_rfl) (by kernel_rfl) rfl rfl (aH (i:=aho) (s0:=(.int .i64)) rfl rfl rfl rfl)
abbrev ahp:TI:={ desc:=.struct #[dH 88 0,dH 3 1,dH 3 2,dH 3 3,dH 3 4,dH 3 5,dH 89 6,dH 47 7],size:=8,bytes:=64,zero:=[.int .i64 0,.int .i64 0,.int .i64 0,.int .i64 0,.int .i64 0,.int .i64 0,.int .i64 0,.int .i64 0],ig:=some (.pair (.int .i64) (.pair (.int .i64) (.pair (.int .i64) (.pair (.int .i64) (.pair (.int .i64) (.pair (.int .i64) (.pair (.int .i64) (.pair (.int .i64) .unit)))))))),y5:=[.i,.i,.i,.i,.i,.i,.i,.i] }
theorem acA:aJ Tryz.prog 90 ahp:=aJ.of_eq (by kernel_rfl) (by kernel_rfl) rfl rfl (aH (i:=ahp) (s0:=(.pair (.int .i64) (.pair (.int .i64) (.pair (.int .i64) (.pair (.int .i64) (.pair (.int .i64) (.pair (.int .i64) (.pair (.int .i64) (.pair (.int .i64) .unit))))))))) rfl rfl rfl rfl) (λ_=>by kernel_rfl)
abbrev ahq:TI:={ desc:=.struct #[dH 88 0,dH 3 1,dH 3 2,dH 3 3,dH 3 4,dH 3 5,dH 89 6,dH 47 7],size:=8,bytes:=64,zero:=[.int .i64 0,.int .i64 0,.int .i64 0,.int .i64 0,.int .i64 0,.int .i64 0,.int .i64 0,.int .i64 0],ig:=some (.pair (.int .i64) (.pair (.int .i64) (.pair (.int .i64) (.pair (.int .i64) (.pair (.int .i64) (.pair (.int .i64) (.pair (.int .i64) (.pair (.int .i64) .unit)))))))),y5:=[.i,.i,.i,.i,.i,.i,.i,.i] }
theorem acB:aJ Tryz.prog 91 ahq:=aJ.of_eq (by kernel_rfl) (by kernel_rfl) rfl rfl (aH (i:=ahq) (s0:=(.pair (.int .i64) (.pair (.int .i64) (.pair (.int .i64) (.pair (.int .i64) (.pair (.int .i64) (.pair (.int .i64) (.pair (.int .i64) (.pair (.int .i64) .unit))))))))) rfl rfl rfl rfl) (λ_=>by kernel_rfl)
abbrev Xg:TI:={ desc:=.struct #[dH 9 0,dH 3 1],size:=2,bytes:=24,zero:=[.string ⟨#[]⟩,.int .i64 0],ig:=some (.pair .str (.pair (.int .i64) .unit)),y5:=[.s,.i] }
theorem Xh:aJ Tryz.prog 117 Xg:=aJ.of_eq (by kernel_rfl) (by kernel_rfl) rfl rfl (aH (i:=Xg) (s0:=(.pair .str (.pair (.int .i64) .unit))) rfl rfl rfl rfl) (λ_=>by kernel_rfl)
abbrev Xi:TI:={ desc:=.struct #[dH 9 0,dH 3 1],size:=2,bytes:=24,zero:=[.string ⟨#[]⟩,.int .i64 0],ig:=some (.pair .str (.pair (.int .i64) .unit)),y5:=[.s,.i] }
theorem Xj:aJ Tryz.prog 118 Xi:=aJ.of_eq (by kernel_rfl) (by kernel_rfl) rfl rfl (aH (i:=Xi) (s0:=(.pair .str (.pair (.int .i64) .unit))) rfl rfl rfl rfl) (λ_=>by kernel_rfl)
abbrev Xk:TI:={ desc:=.int .i64,size:=1,bytes:=8,zero:=[.int .i64 0],ig:=some (.int .i64) }
theorem Xl:aJ Tryz.prog 151 Xk:=aJ.of_eq (by kernel_rfl) (by kernel_rfl) rfl rfl (aH (i:=Xk) (s0:=(.int .i64)) rfl rfl rfl rfl)
abbrev Xm:TI:={ desc:=.struct #[dH 3 0,dH 4 1,dH 3 2,dH 3 3,dH 4 4,dH 3 5,dH 151 6,dH 4 7],size:=8,bytes:=64,zero:=[.int .i64 0,.bool false,.int .i64 0,.int .i64 0,.bool false,.int .i64 0,.int .i64 0,.bool false],ig:=some (.pair (.int .i64) (.pair .bool (.pair (.int .i64) (.pair (.int .i64) (.pair .bool (.pair (.int .i64) (.pair (.int .i64) (.pair .bool .unit)))))))),y5:=[.i,.b,.i,.i,.b,.i,.i,.b] }
theorem Xn:aJ Tryz.prog 152 Xm:=aJ.of_eq (by kernel_rfl) (by kernel_rfl) rfl rfl (aH (i:=Xm) (s0:=(.pair (.int .i64) (.pair .bool (.pair (.int .i64) (.pair (.int .i64) (.pair .bool (.pair (.int .i64) (.pair (.int .i64) (.pair .bool .unit))))))))) rfl rfl rfl rfl) (λ_=>by kernel_rfl)
abbrev Xo:TI:={ desc:=.struct #[dH 3 0,dH 4 1,dH 3 2,dH 3 3,dH 4 4,dH 3 5,dH 151 6,dH 4 7],size:=8,bytes:=64,zero:=[.int .i64 0,.bool false,.int .i64 0,.int .i64 0,.bool false,.int .i64 0,.int .i64 0,.bool false],ig:=some (.pair (.int .i64) (.pair .bool (.pair (.int .i64) (.pair (.int .i64) (.pair .bool (.pair (.int .i64) (.pair (.int .i64) (.pair .bool .unit)))))))),y5:=[.i,.b,.i,.i,.b,.i,.i,.b] }
theorem Xp:aJ Tryz.prog 153 Xo:=aJ.of_eq (by kernel_rfl) (by kernel_rfl) rfl rfl (aH (i:=Xo) (s0:=(.pair (.int .i64) (.pair .bool (.pair (.int .i64) (.pair (.int .i64) (.pair .bool (.pair (.int .i64) (.pair (.int .i64) (.pair .bool .unit))))))))) rfl rfl rfl rfl) (λ_=>by kernel_rfl)
abbrev Xq:TI:={ desc:=.array 17 153,size:=136,bytes:=1088,zero:=[.int .i64 0,.bool false,.int .i64 0,.int .i64 0,.bool false,.int .i64 0,.int .i64 0,.bool false,.int .i64 0,.bool false,.int .i64 0,.int .i64 0,.bool false,.int .i64 0,.int .i64 0,.bool false,.int .i64 0,.bool false,.int .i64 0,.int .i64 0,.bool false,.int .i64 0,.int .i64 0,.bool false,.int .i64 0,.bool false,.int .i64 0,.int .i64 0,.bool false,.int .i64 0,.int .i64 0,.bool false,.int .i64 0,.bool false,.int .i64 0,.int .i64 0,.bool false,.int .i64 0,.int .i64 0,.bool false,.int .i64 0,.bool false,.int .i64 0,.int .i64 0,.bool false,.int .i64 0,.int .i64 0,.bool false,.int .i64 0,.bool false,.int .i64 0,.int .i64 0,.bool false,.int .i64 0,.int .i64 0,.bool false,.int .i64 0,.bool false,.int .i64 0,.int .i64 0,.bool false,.int .i64 0,.int .i64 0,.bool false,.int .i64 0,.bool false,.int .i64 0,.int .i64 0,.bool false,.int .i64 0,.int .i64 0,.bool false,.int .i64 0,.bool false,.int .i64 0,.int .i64 0,.bool false,.int .i64 0,.int .i64 0,.bool false,.int .i64 0,.bool false,.int .i64 0,.int .i64 0,.bool false,.int .i64 0,.int .i64 0,.bool false,.int .i64 0,.bool false,.int .i64 0,.int .i64 0,.bool false,.int .i64 0,.int .i64 0,.bool false,.int .i64 0,.bool false,.int .i64 0,.int .i64 0,.bool false,.int .i64 0,.int .i64 0,.bool false,.int .i64 0,.bool false,.int .i64 0,.int .i64 0,.bool false,.int .i64 0,.int .i64 0,.bool false,.int .i64 0,.bool false,.int .i64 0,.int .i64 0,.bool false,.int .i64 0,.int .i64 0,.bool false,.int .i64 0,.bool false,.int .i64 0,.int .i64 0,.bool false,.int .i64 0,.int .i64 0,.bool false,.int .i64 0,.bool false,.int .i64 0,.int .i64 0,.bool false,.int .i64 0,.int .i64 0,.bool false],ig:=some (.arr 17 (.pair (.int .i64) (.pair .bool (.pair (.int .i64) (.pair (.int .i64) (.pair .bool (.pair (.int .i64) (.pair (.int .i64) (.pair .bool .unit))))))))) }
theorem Xr:aJ Tryz.prog 154 Xq:=aJ.of_eq (by kernel_rfl) (by kernel_rfl) rfl rfl (aH (i:=Xq) (s0:=(.arr 17 (.pair (.int .i64) (.pair .bool (.pair (.int .i64) (.pair (.int .i64) (.pair .bool (.pair (.int .i64) (.pair (.int .i64) (.pair .bool .unit)))))))))) rfl rfl rfl rfl)
abbrev Xt:TI:={ desc:=.slice 158,size:=1,bytes:=24,zero:=[.slice none 0 0],ig:=some (.sl (.pair (.int .i64) (.pair (.int .i64) (.pair (.int .i64) (.pair .bool .unit))))) }
theorem Xu:aJ Tryz.prog 155 Xt:=aJ.of_eq (by kernel_rfl) (by kernel_rfl) rfl rfl (aH (i:=Xt) (s0:=(.sl (.pair (.int .i64) (.pair (.int .i64) (.pair (.int .i64) (.pair .bool .unit)))))) rfl rfl rfl rfl)
abbrev Xv:TI:={ desc:=.struct #[dH 151 0,dH 3 1,dH 3 2,dH 4 3],size:=4,bytes:=32,zero:=[.int .i64 0,.int .i64 0,.int .i64 0,.bool false],ig:=some (.pair (.int .i64) (.pair (.int .i64) (.pair (.int .i64) (.pair .bool .unit)))),y5:=[.i,.i,.i,.b] }
theorem Xw:aJ Tryz.prog 157 Xv:=aJ.of_eq (by kernel_rfl) (by kernel_rfl) rfl rfl (aH (i:=Xv) (s0:=(.pair (.int .i64) (.pair (.int .i64) (.pair (.int .i64) (.pair .bool .unit))))) rfl rfl rfl rfl) (λ_=>by kernel_rfl)
abbrev Xx:TI:={ desc:=.struct #[dH 151 0,dH 3 1,dH 3 2,dH 4 3],size:=4,bytes:=32,zero:=[.int .i64 0,.int .i64 0,.int .i64 0,.bool false],ig:=some (.pair (.int .i64) (.pair (.int .i64) (.pair (.int .i64) (.pair .bool .unit)))),y5:=[.i,.i,.i,.b] }
theorem Xy:aJ Tryz.prog 158 Xx:=aJ.of_eq (by kernel_rfl) (by kernel_rfl) rfl rfl (aH (i:=Xx) (s0:=(.pair (.int .i64) (.pair (.int .i64) (.pair (.int .i64) (.pair .bool .unit))))) rfl rfl rfl rfl) (λ_=>by kernel_rfl)
abbrev Xz:TI:={ desc:=.slice 4,size:=1,bytes:=24,zero:=[.slice none 0 0],ig:=some (.sl .bool) }
theorem XA:aJ Tryz.prog 159 Xz:=aJ.of_eq (by kernel_rfl) (by kernel_rfl) rfl rfl (aH (i:=Xz) (s0:=(.sl .bool)) rfl rfl rfl rfl)
abbrev XB:TI:={ desc:=.struct #[dH 3 0,dH 3 1],size:=2,bytes:=16,zero:=[.int .i64 0,.int .i64 0],ig:=some (.pair (.int .i64) (.pair (.int .i64) .unit)),y5:=[.i,.i] }
theorem XC:aJ Tryz.prog 161 XB:=aJ.of_eq (by kernel_rfl) (by kernel_rfl) rfl rfl (aH (i:=XB) (s0:=(.pair (.int .i64) (.pair (.int .i64) .unit))) rfl rfl rfl rfl) (λ_=>by kernel_rfl)
abbrev XD:TI:={ desc:=.struct #[dH 3 0,dH 3 1],size:=2,bytes:=16,zero:=[.int .i64 0,.int .i64 0],ig:=some (.pair (.int .i64) (.pair (.int .i64) .unit)),y5:=[.i,.i] }
theorem XE:aJ Tryz.prog 162 XD:=aJ.of_eq (by kernel_rfl) (by kernel_rfl) rfl rfl (aH (i:=XD) (s0:=(.pair (.int .i64) (.pair (.int .i64) .unit))) rfl rfl rfl rfl) (λ_=>by kernel_rfl)
abbrev XF:TI:={ desc:=.int .u32,size:=1,bytes:=4,zero:=[.int .u32 0],ig:=some (.int .u32) }
theorem XG:aJ Tryz.prog 167 XF:=aJ.of_eq (by kernel_rfl) (by kernel_rfl) rfl rfl (aH (i:=XF) (s0:=(.int .u32)) rfl rfl rfl rfl)
abbrev XH:TI:={ desc:=.array 7 4,size:=7,bytes:=7,zero:=[.bool false,.bool false,.bool false,.bool false,.bool false,.bool false,.bool false],ig:=some (.arr 7 .bool) }
theorem XI:aJ Tryz.prog 180 XH:=aJ.of_eq (by kernel_rfl) (by kernel_rfl) rfl rfl (aH (i:=XH) (s0:=(.arr 7 .bool)) rfl rfl rfl rfl)
abbrev XJ:TI:={ desc:=.struct #[dH 9 0,dH 180 1],size:=8,bytes:=24,zero:=[.string ⟨#[]⟩,.bool false,.bool false,.bool false,.bool false,.bool false,.bool false,.bool false],ig:=some (.pair .str (.pair (.arr 7 .bool) .unit)) }
theorem XK:aJ Tryz.prog 181 XJ:=aJ.of_eq (by kernel_rfl) (by kernel_rfl) rfl rfl (aH (i:=XJ) (s0:=(.pair .str (.pair (.arr 7 .bool) .unit))) rfl rfl rfl rfl)
abbrev XL:TI:={ desc:=.struct #[dH 9 0,dH 180 1],size:=8,bytes:=24,zero:=[.string ⟨#[]⟩,.bool false,.bool false,.bool false,.bool false,.bool false,.bool false,.bool false],ig:=some (.pair .str (.pair (.arr 7 .bool) .unit)) }
theorem XM:aJ Tryz.prog 182 XL:=aJ.of_eq (by kernel_rfl) (by kernel_rfl) rfl rfl (aH (i:=XL) (s0:=(.pair .str (.pair (.arr 7 .bool) .unit))) rfl rfl rfl rfl)
abbrev XN:TI:={ desc:=.array 22 182,size:=176,bytes:=528,zero:=[.string ⟨#[]⟩,.bool false,.bool false,.bool false,.bool false,.bool false,.bool false,.bool false,.string ⟨#[]⟩,.bool false,.bool false,.bool false,.bool false,.bool false,.bool false,.bool false,.string ⟨#[]⟩,.bool false,.bool false,.bool false,.bool false,.bool false,.bool false,.bool false,.string ⟨#[]⟩,.bool false,.bool false,.bool false,.bool false,.bool false,.bool false,.bool false,.string ⟨#[]⟩,.bool false,.bool false,.bool false,.bool false,.bool false,.bool false,.bool false,.string ⟨#[]⟩,.bool false,.bool false,.bool false,.bool false,.bool false,.bool false,.bool false,.string ⟨#[]⟩,.bool false,.bool false,.bool false,.bool false,.bool false,.bool false,.bool false,.string ⟨#[]⟩,.bool false,.bool false,.bool false,.bool false,.bool false,.bool false,.bool false,.string ⟨#[]⟩,.bool false,.bool false,.bool false,.bool false,.bool false,.bool false,.bool false,.string ⟨#[]⟩,.bool false,.bool false,.bool false,.bool false,.bool false,.bool false,.bool false,.string ⟨#[]⟩,.bool false,.bool false,.bool false,.bool false,.bool false,.bool false,.bool false,.string ⟨#[]⟩,.bool false,.bool false,.bool false,.bool false,.bool false,.bool false,.bool false,.string ⟨#[]⟩,.bool false,.bool false,.bool false,.bool false,.bool false,.bool false,.bool false,.string ⟨#[]⟩,.bool false,.bool false,.bool false,.bool false,.bool false,.bool false,.bool false,.string ⟨#[]⟩,.bool false,.bool false,.bool false,.bool false,.bool false,.bool false,.bool false,.string ⟨#[]⟩,.bool false,.bool false,.bool false,.bool false,.bool false,.bool false,.bool false,.string ⟨#[]⟩,.bool false,.bool false,.bool false,.bool false,.bool false,.bool false,.bool false,.string ⟨#[]⟩,.bool false,.bool false,.bool false,.bool false,.bool false,.bool false,.bool false,.string ⟨#[]⟩,.bool false,.bool false,.bool false,.bool false,.bool false,.bool false,.bool false,.string ⟨#[]⟩,.bool false,.bool false,.bool false,.bool false,.bool false,.bool false,.bool false,.string ⟨#[]⟩,.bool false,.bool false,.bool false,.bool false,.bool false,.bool false,.bool false,.string ⟨#[]⟩,.bool false,.bool false,.bool false,.bool false,.bool false,.bool false,.bool false],ig:=some (.arr 22 (.pair .str (.pair (.arr 7 .bool) .unit))) }
theorem XO:aJ Tryz.prog 183 XN:=aJ.of_eq (by kernel_rfl) (by kernel_rfl) rfl rfl (aH (i:=XN) (s0:=(.arr 22 (.pair .str (.pair (.arr 7 .bool) .unit)))) rfl rfl rfl rfl)
abbrev XP:TI:={ desc:=.slice 23,size:=1,bytes:=24,zero:=[.slice none 0 0],ig:=some (.sl (.sl .str)) }
theorem XQ:aJ Tryz.prog 194 XP:=aJ.of_eq (by kernel_rfl) (by kernel_rfl) rfl rfl (aH (i:=XP) (s0:=(.sl (.sl .str))) rfl rfl rfl rfl)
abbrev XR:TI:={ desc:=.array 4 3,size:=4,bytes:=32,zero:=[.int .i64 0,.int .i64 0,.int .i64 0,.int .i64 0],ig:=some (.arr 4 (.int .i64)),y5:=[.i] }
theorem XT:aJ Tryz.prog 203 XR:=aJ.of_eq (by kernel_rfl) (by kernel_rfl) rfl rfl (aH (i:=XR) (s0:=(.arr 4 (.int .i64))) rfl rfl rfl rfl) (λ_=>by kernel_rfl)
abbrev XU:TI:={ desc:=.array 7 3,size:=7,bytes:=56,zero:=[.int .i64 0,.int .i64 0,.int .i64 0,.int .i64 0,.int .i64 0,.int .i64 0,.int .i64 0],ig:=some (.arr 7 (.int .i64)),y5:=[.i] }
theorem XV:aJ Tryz.prog 204 XU:=aJ.of_eq (by kernel_rfl) (by kernel_rfl) rfl rfl (aH (i:=XU) (s0:=(.arr 7 (.int .i64))) rfl rfl rfl rfl) (λ_=>by kernel_rfl)
abbrev XW:TI:={ desc:=.array 3 3,size:=3,bytes:=24,zero:=[.int .i64 0,.int .i64 0,.int .i64 0],ig:=some (.arr 3 (.int .i64)),y5:=[.i] }
theorem XY:aJ Tryz.prog 206 XW:=aJ.of_eq (by kernel_rfl) (by kernel_rfl) rfl rfl (aH (i:=XW) (s0:=(.arr 3 (.int .i64))) rfl rfl rfl rfl) (λ_=>by kernel_rfl)
abbrev XZ:TI:={ desc:=.array 10 9,size:=10,bytes:=160,zero:=[.string ⟨#[]⟩,.string ⟨#[]⟩,.string ⟨#[]⟩,.string ⟨#[]⟩,.string ⟨#[]⟩,.string ⟨#[]⟩,.string ⟨#[]⟩,.string ⟨#[]⟩,.string ⟨#[]⟩,.string ⟨#[]⟩],ig:=some (.arr 10 .str) }
theorem X0:aJ Tryz.prog 214 XZ:=aJ.of_eq (by kernel_rfl) (by kernel_rfl) rfl rfl (aH (i:=XZ) (s0:=(.arr 10 .str)) rfl rfl rfl rfl)
abbrev X3:TI:={ desc:=.int .u64,size:=1,bytes:=8,zero:=[.int .u64 0],ig:=some (.int .u64) }
theorem X4:aJ Tryz.prog 217 X3:=aJ.of_eq (by kernel_rfl) (by kernel_rfl) rfl rfl (aH (i:=X3) (s0:=(.int .u64)) rfl rfl rfl rfl)
abbrev X5:TI:={ desc:=.int .u64,size:=1,bytes:=8,zero:=[.int .u64 0],ig:=some (.int .u64) }
theorem X6:aJ Tryz.prog 230 X5:=aJ.of_eq (by kernel_rfl) (by kernel_rfl) rfl rfl (aH (i:=X5) (s0:=(.int .u64)) rfl rfl rfl rfl)
abbrev tis:List (Nat×TI):=[(3,ti3),(4,ti4),(5,ti5),(9,ti9),(21,agK),(22,agL),(23,agN),(24,agO),(25,agP),(26,agQ),(27,agR),(30,agS),(31,agT),(32,agU),(33,agV),(34,agW),(35,agX),(36,agY),(37,ag0),(38,ag1),(43,ag2),(44,ag3),(46,ag4),(47,ag5),(48,ag6),(49,ag7),(52,ag8),(53,ag9),(54,aha),(55,ahb),(56,ahc),(63,ahd),(64,ahe),(65,ahf),(66,ahg),(67,ahh),(75,ahi),(76,ahj),(77,ahk),(81,ahl),(82,ahm),(88,ahn),(89,aho),(90,ahp),(91,ahq),(117,Xg),(118,Xi),(151,Xk),(152,Xm),(153,Xo),(154,Xq),(155,Xt),(157,Xv),(158,Xx),(159,Xz),(161,XB),(162,XD),(167,XF),(180,XH),(181,XJ),(182,XL),(183,XN),(194,XP),(203,XR),(204,XU),(206,XW),(214,XZ),(217,X3),(230,X5)]
theorem aB:bJ Tryz.prog tis:=⟨agF,agG,agH,agJ,abN,abO,abP,abQ,abR,abS,abT,abU,abV,abW,abX,abY,abZ,ab1,ab2,ab3,ab4,ab5,ab6,ab7,ab8,ab9,acd,ace,acf,acg,ach,aci,acj,acn,aco,acp,acr,acs,acu,acv,acw,acy,acz,acA,acB,Xh,Xj,Xl,Xn,Xp,Xr,Xu,Xw,Xy,XA,XC,XE,XG,XI,XK,XM,XO,XQ,XT,XV,XY,X0,X4,X6,trivial⟩
abbrev I6:Sh:=.int .i64
abbrev iR(n:Int):Prop:=InR IntKind.i64 n
abbrev iN:SC:=SC.v (Value.slice none 0 0)
abbrev v6(n:Int):SC:=.v (.int .i64 n)
abbrev cI(n:Int):SV:=.c (.v (.int .i64 n))
abbrev cB(b:Bool):SV:=.c (.v (.bool b))
abbrev g0(r:ak):Go.lH.Gd×ak:=([],r)
abbrev rE(a b:bF):Prop:=([]:List ak)=[]/\a=b
abbrev rT(a b:List SV):Prop:=([]:List ak)=[]/\bF.iO a=bF.iO b
abbrev qI(a b:Int):Prop:=([]:List ak)=[]/\bF.one (.c (.v (.int .i64 a)))=bF.one (.c (.v (.int .i64 b)))
abbrev qB(a b:Bool):Prop:=([]:List ak)=[]/\bF.one (.c (.v (.bool a)))=bF.one (.c (.v (.bool b)))
abbrev sm{α:Type} (a:α):Prop:=a=a
def aku:List (List Bool):=[[true,false,false,false,true,false,false],[true,true,false,false,false,false,false],[true,true,true,false,false,true,false],[false,false,false,false,true,false,false],[false,true,false,false,true,false,false],[false,true,false,false,false,false,false],[false,false,false,false,false,false,false],[true,false,false,true,false,false,true],[false,true,false,true,false,false,true],[true,true,false,true,false,false,true],[true,true,false,true,false,false,true],[true,true,true,true,false,false,true],[false,false,false,false,false,false,false],[true,true,false,true,false,true,true],[false,false,false,true,false,false,false],[false,false,false,true,false,false,false],[true,false,false,true,false,false,false],[false,false,false,true,true,false,false],[false,false,false,true,false,false,false],[false,false,false,true,false,false,false],[true,true,false,true,false,false,false],[false,true,false,false,false,false,false]]
def Iw:List ByteArray:=[⟨#[97,100,100]⟩,⟨#[115,117,98]⟩,⟨#[109,117,108]⟩,⟨#[97,110,100]⟩,⟨#[111,114]⟩,⟨#[120,111,114]⟩,⟨#[101,113]⟩,⟨#[110,101]⟩,⟨#[108,116]⟩,⟨#[108,101]⟩]
def Kz:List (ByteArray×List Bool×Unit):=[(⟨#[99,111,110,115,116]⟩,[true,false,false,false,true,false,false],()),(⟨#[99,111,112,121]⟩,[true,true,false,false,false,false,false],()),(⟨#[99,97,108,99]⟩,[true,true,true,false,false,true,false],()),(⟨#[106,117,109,112]⟩,[false,false,false,false,true,false,false],()),(⟨#[98,114,97,110,99,104]⟩,[false,true,false,false,true,false,false],()),(⟨#[97,115,115,101,114,116]⟩,[false,true,false,false,false,false,false],()),(⟨#[115,116,111,112]⟩,[false,false,false,false,false,false,false],()),(⟨#[108,111,97,100]⟩,[true,false,false,true,false,false,true],()),(⟨#[115,116,111,114,101]⟩,[false,true,false,true,false,false,true],()),(⟨#[115,119,97,112]⟩,[true,true,false,true,false,false,true],()),(⟨#[102,101,116,99,104,97,100,100]⟩,[true,true,false,true,false,false,true],()),(⟨#[99,97,115]⟩,[true,true,true,true,false,false,true],()),(⟨#[102,101,110,99,101]⟩,[false,false,false,false,false,false,false],()),(⟨#[97,119,97,105,116]⟩,[true,true,false,true,false,true,true],()),(⟨#[108,111,99,107]⟩,[false,false,false,true,false,false,false],()),(⟨#[117,110,108,111,99,107]⟩,[false,false,false,true,false,false,false],()),(⟨#[116,114,121,108,111,99,107]⟩,[true,false,false,true,false,false,false],()),(⟨#[119,97,105,116]⟩,[false,false,false,true,true,false,false],()),(⟨#[115,105,103,110,97,108]⟩,[false,false,false,true,false,false,false],()),(⟨#[98,114,111,97,100,99,97,115,116]⟩,[false,false,false,true,false,false,false],()),(⟨#[115,112,97,119,110]⟩,[true,true,false,true,false,false,false],()),(⟨#[106,111,105,110]⟩,[false,true,false,false,false,false,false],())]
abbrev gd0:Nat->Option (Sigma Sh.den):=λg=>match g with
 | 1=>some ⟨.arr 22 (.pair .str (.pair (.arr 7 .bool) .unit)),Kz⟩
 | 2=>some ⟨.arr 10 .str,Iw⟩
 | _=>none
abbrev aV:Cx:={ ti:=tis,gd:=gd0 }
abbrev oV:Sh:=.pair (.int .i64) (.pair (.int .i64) (.pair (.int .i64) (.pair (.int .i64) (.pair (.int .i64) (.pair (.int .i64) (.pair (.int .i64) (.pair (.int .i64) .unit)))))))
def use(op:Int) (k:Nat):Bool:=decide (1<=op) && decide (op<=22) && (aku.getD (op - 1).toNat []).getD k false
def uf(op:Int):Bool:=decide (1<=op) && decide (op<=22)
def F7(f:Int):ByteArray:=if 1<=f/\f<=10 then Iw.getD (f - 1).toNat ByteArray.empty else ByteArray.empty
abbrev akv:CT:={ ps:=[.int .i64],pre:=λd=>True,res:=λd=>([],vB (uf d.1)) }
theorem acC(op:Int):
 qB (uf op) (decide (1<=op) && decide (op<=22)):=by
 delta qB;exact⟨rfl,rfl⟩
theorem X7:aY aV.gd 197 akv:=
 pz (cx:=aV) (n:=9) (cl:=[]) aB trivial Tryz.func197 λd hd=>by
  obtain⟨op,⟨⟩⟩:=d;exact⟨λ_=>none,cast (by kernel_rfl) (acC op)⟩
abbrev akw:CT:={ ps:=[oV],pre:=λd=>True,res:=λd=>([],.one (.dat (.arr 7 (.int .i64)) [d.1.2.1,d.1.2.2.1,d.1.2.2.2.1,d.1.2.2.2.2.1,d.1.2.2.2.2.2.1,d.1.2.2.2.2.2.2.1,d.1.2.2.2.2.2.2.2.1])) }
theorem acD(op a b c obj n fn ord:Int):
 let z1:=[a,b,c,obj,n,fn,ord];rE (bF.one (SV.dat (Sh.arr 7 I6) z1)) (bF.one (SV.dat (Sh.arr 7 I6) z1)):=by
 conv=>zeta
 delta rE I6;exact⟨rfl,rfl⟩
theorem X8:aY aV.gd 198 akw:=
 pz (cx:=aV) (n:=18) (cl:=[]) aB trivial Tryz.func198 λd hd=>by
  obtain⟨⟨op,a,b,c,obj,n,fn,ord,⟨⟩⟩,⟨⟩⟩:=d;exact⟨λ_=>none,cast (by kernel_rfl) (acD op a b c obj n fn ord)⟩
abbrev akx:CT:={ ps:=[.int .i64],pre:=λd=>True,res:=λd=>([],.one (.c (.v (.string (F7 d.1))))) }
theorem acE(f:Int):
 let z1:=bF.one (SV.c (SC.v (Value.string (F7 f))));br (decide (f < 1) || decide (10 < f)) (rE z1 (bF.one (SV.c (SC.v (Value.string { data:=#[]:ByteArray }))))) (iR (f - 1)/\(0<=f - 1/\f - 1 < (10:Int))/\∀(d:ByteArray),Iw[(f - 1).toNat]?=some d->rE z1 (bF.one (SV.c (SC.v (Value.string d))))):=by
 conv=>zeta
 delta rE iR;refine ah.2 ⟨λh=>?_,λh=>?_⟩
 .simp only[Fb,eH]at h;rw[show F7 f=ByteArray.empty from if_neg (by omega)]
  exact⟨rfl,rfl⟩
 .simp only[rM,iH]at h;refine⟨aC.2 (by omega),by omega,λd hd=>⟨rfl,?_⟩⟩
  rw[show F7 f=Iw.getD (f - 1).toNat ByteArray.empty from if_pos (by omega),List.getD,hd];rfl
theorem X9:aY aV.gd 199 akx:=
 pz (cx:=aV) (n:=13) (cl:=[]) aB trivial Tryz.func199 λd hd=>by
  obtain⟨f,⟨⟩⟩:=d;exact⟨λ_=>none,cast (by kernel_rfl) (acE f)⟩
def Ya(r:Int):Bool:=decide (0<=r) && decide (r < 8)
def wU(op a b c obj n fn ord:Int):Int:=
 if uf op=false then 8 else
 if(!use op 0 && a != 0 || !use op 1 && b != 0 || !use op 2 && c != 0 || !use op 3 && obj != 0 || !use op 4 && n != 0 || !use op 5 && fn != 0 || !use op 6 && ord != 0)=true then 9 else
 if(!Ya a || !Ya b || !Ya c)=true then 10 else
 if(decide (ord < 0) || decide (2 < ord))=true then 13 else
 if(use op 5 && decide (F7 fn=(⟨#[]⟩:ByteArray)))=true then 8 else
 if(decide (op=1) && (decide (n < -2147483648) || decide (2147483647 < n)))=true then 2 else 0
theorem KA{op:Int}{nm:ByteArray}{us:List Bool}{u:Unit} (hb:1<=op/\op<=22) (hd:Kz[(op - 1).toNat]?=some (nm,us,u)):
 us=[use op 0,use op 1,use op 2,use op 3,use op 4,use op 5,use op 6]:=by
 have key:∀k:Fin 22,(Kz[k.1]?).map (λr=>r.2.1)=some ([0,1,2,3,4,5,6].map λj=>(aku.getD k.1 []).getD j false):=by decide
 have h1:=key ⟨(op - 1).toNat,by omega⟩
 simp only at h1;rw[hd]at h1;simp only[Us,A97]at h1;rw[h1];simp[use,hb.1,hb.2]
abbrev ahr:CT:={ ps:=[oV],pre:=λd=>True,res:=λd=>([],.one (.c (.v (.int .i64 (wU d.1.1 d.1.2.1 d.1.2.2.1 d.1.2.2.2.1 d.1.2.2.2.2.1 d.1.2.2.2.2.2.1 d.1.2.2.2.2.2.2.1 d.1.2.2.2.2.2.2.2.1))))) }
abbrev ahs(op a b c obj n fn ord:Int):Nat->Option (St->kD):=λk=>match k with
 | 5=>some λ_=>.Dk 8
 | 11=>some λ_=>.Dk 4
 | _=>none
theorem acF(op a b c obj n fn ord:Int):
 let z11:=wU op a b c obj n fn ord;let z8:=qI z11 (8:Int);let z12:=[a,b,c,obj,n,fn,ord];let z2:=(0:Int)<=(0:Int)/\(0:Int) < (7:Int);let z10:=λ(F8:Bool) (dR:Int)=>!F8 && !decide (dR=(0:Int));let z9:=qI z11 (9:Int);let z3:=(0:Int)<=(1:Int)/\(1:Int) < (7:Int);let z4:=(0:Int)<=(2:Int)/\(2:Int) < (7:Int);let z5:=(0:Int)<=(5:Int)/\(5:Int) < (7:Int);let z6:=(0:Int)<=(6:Int)/\(6:Int) < (7:Int);let z1:=λ(acG:Bool) (Yb:Int)=>acG && (decide (Yb < (0:Int)) || decide (8<=Yb));let z7:=qI z11 (10:Int);True/\br (!uf op) z8 (iR (op - 1)/\(0<=op - 1/\op - 1 < (22:Int))/\∀(d:ByteArray×((Sh.arr 7 Sh.bool).pair Sh.unit).den),Kz[(op - 1).toNat]?=some d->True/\((0:Int)<=(0:Int)/\0 < (z12.length:Int))/\∀(dR:Int),z12[0]?=some dR->z2/\0 < 7/\∀(F8:Bool),(d.snd.fst)[0]?=some F8->br (z10 F8 dR) z9 (iR (1:Int)/\((0:Int)<=(1:Int)/\1 < (z12.length:Int))/\∀(d_3:Int),z12[1]?=some d_3->z3/\1 < 7/\∀(d_4:Bool),(d.snd.fst)[1]?=some d_4->br (z10 d_4 d_3) z9 (iR (2:Int)/\((0:Int)<=(2:Int)/\2 < (z12.length:Int))/\∀(d_5:Int),z12[2]?=some d_5->z4/\2 < 7/\∀(d_6:Bool),(d.snd.fst)[2]?=some d_6->br (z10 d_6 d_5) z9 (iR (3:Int)/\((0:Int)<=(3:Int)/\3 < (z12.length:Int))/\∀(d_7:Int),z12[3]?=some d_7->((0:Int)<=(3:Int)/\(3:Int) < (7:Int))/\3 < 7/\∀(d_8:Bool),(d.snd.fst)[3]?=some d_8->br (z10 d_8 d_7) z9 (iR (4:Int)/\((0:Int)<=(4:Int)/\4 < (z12.length:Int))/\∀(d_9:Int),z12[4]?=some d_9->((0:Int)<=(4:Int)/\(4:Int) < (7:Int))/\4 < 7/\∀(aky:Bool),(d.snd.fst)[4]?=some aky->br (z10 aky d_9) z9 (iR (5:Int)/\((0:Int)<=(5:Int)/\5 < (z12.length:Int))/\∀(akz:Int),z12[5]?=some akz->z5/\5 < 7/\∀(akA:Bool),(d.snd.fst)[5]?=some akA->br (z10 akA akz) z9 (iR (6:Int)/\((0:Int)<=(6:Int)/\6 < (z12.length:Int))/\∀(akB:Int),z12[6]?=some akB->z6/\6 < 7/\∀(akC:Bool),(d.snd.fst)[6]?=some akC->br (z10 akC akB) z9 (iR (7:Int)/\((0:Int)<=(0:Int)/\0 < (↑[a,b,c].length:Int))/\∀(Yb:Int),[a,b,c][0]?=some Yb->z2/\0 < 7/\∀(acG:Bool),(d.snd.fst)[0]?=some acG->br (z1 acG Yb) z7 (iR (1:Int)/\((0:Int)<=(1:Int)/\1 < (↑[a,b,c].length:Int))/\∀(akD:Int),[a,b,c][1]?=some akD->z3/\1 < 7/\∀(akE:Bool),(d.snd.fst)[1]?=some akE->br (z1 akE akD) z7 (iR (2:Int)/\((0:Int)<=(2:Int)/\2 < (↑[a,b,c].length:Int))/\∀(akF:Int),[a,b,c][2]?=some akF->z4/\2 < 7/\∀(akG:Bool),(d.snd.fst)[2]?=some akG->br (z1 akG akF) z7 (iR (3:Int)/\z6/\6 < 7/\∀(akH:Bool),(d.snd.fst)[6]?=some akH->br (akH && (decide (ord < 0) || decide (2 < ord))) (qI z11 (13:Int)) (z5/\5 < 7/\∀(aht:Bool),(d.snd.fst)[5]?=some aht->(aht=true->True)/\br (aht && decide (F7 fn={ data:=#[]:ByteArray })) z8 (br (decide (op=1) && (decide (n < (-2147483648)) || decide (2147483647 < n))) (qI z11 (2:Int)) (qI z11 (0:Int))))))))))))))):=by
 conv=>zeta
 delta qI iR;refine⟨trivial,ah.2 ⟨λh=>?_,λh=>?_⟩⟩
 .have hk:uf op=false:=by simpa using h
  rw[show wU op a b c obj n fn ord=8 by simp[wU,hk]]
  exact⟨rfl,rfl⟩
 .have hk:uf op=true:=by simpa using h
  have hb:1<=op/\op<=22:=by simpa[uf]using hk
  refine⟨aC.2 (by omega),by omega,λd hd=>?_⟩
  obtain⟨nm,us,⟨⟩⟩:=d;have hu:=KA hb hd;subst hu;clear hd;simp only[A96,aaH,A97,forall_eq',ah,aC,y9,LP,true_and,bF.one.injEq,SV.c.injEq,SC.v.injEq,Value.int.injEq,wU,hk,Ya];generalize use op 0=u0;generalize use op 1=u1;generalize use op 2=u2;generalize use op 3=u3;generalize use op 4=u4;generalize use op 5=u5;generalize use op 6=u6
  repeat' (first | apply And.intro | intro _)
  all_goals first | omega | decide | skip
  all_goals simp_all
  all_goals grind
theorem KC:aY aV.gd 168 ahr:=
 pz (cx:=aV) (n:=89) (cl:=[(197,akv),(198,akw),(199,akx)]) aB ⟨X7,X8,X9,trivial⟩ Tryz.func168 λd hd=>by
  obtain⟨⟨op,a,b,c,obj,n,fn,ord,⟨⟩⟩,⟨⟩⟩:=d;exact⟨ahs op a b c obj n fn ord,cast (by kernel_rfl) (acF op a b c obj n fn ord)⟩
def gQ(l:List Int) (x:Int):Bool:=l.any λy=>decide (y=x)
def Oc(l:List Int) (x:Int):Nat:=(l.takeWhile λy=>decide (y < x)).length
def zK(l:List Int) (x:Int):List Int:=l.take (Oc l x)++[x]++l.drop (Oc l x)
def bY(l:List Int):List Int:=l.foldl (λo x=>if gQ o x then o else zK o x) []
theorem KD(l:List Int) (x:Int):(zK l x).length=l.length+1:=by
 simp only[zK,jR,jY,xw,y9,LP];omega
theorem TT(l:List Int):(bY l).length<=l.length:=by
 have:∀(l o:List Int),(l.foldl (λo x=>if gQ o x then o else zK o x) o).length<=o.length+l.length:=by
  intro l
  induction l with
  | nil=>intro o;simp
  | cons x l ih=>
    intro o;simp only[Ji,y9];refine pI (ih _) ?_;split
    .omega
    .rw[KD];omega
 have h:=this l [];rw[LP,Eu]at h;exact h
def SS(l:List Int):Prop:=l.Pairwise (· < ·)
theorem Oe:∀{l m:List Int},SS l->SS m->(∀x,x∈l↔x∈m)->l=m
 | [],[],_,_,_=>rfl
 | [],y :: m,_,_,h=>by have:=(h y).2 (by simp);simp at this
 | x :: l,[],_,_,h=>by have:=(h x).1 (by simp);simp at this
 | x :: l,y :: m,hl,hm,h=>by
   obtain⟨h1,h2⟩:=A85.1 hl;obtain⟨h3,h4⟩:=A85.1 hm;have hxy:x=y:=by
    have a:=(h x).1 (by simp)
    have b:=(h y).2 (by simp)
    rcases mF.1 a with a | a
    .exact a
    .rcases mF.1 b with b | b
     .exact b.symm
     .have:=h3 x a;have:=h1 y b;omega
   subst hxy
   congr 1
   refine Oe h2 h4 λz=>?_
   have hz:=h z;simp only[mF]at hz;constructor
   .intro hh;rcases hz.1 (.inr hh) with rfl | h5
    .have:=h1 z hh;omega
    .exact h5
   .intro hh;rcases hz.2 (.inr hh) with rfl | h5
    .have:=h3 z hh;omega
    .exact h5
theorem ug{x:Int}:gQ l x=true↔x∈l:=by
 unfold gQ;rw[List.any_eq_true];constructor
 .rintro⟨y,h1,h2⟩;simp only[eH]at h2;subst h2;exact h1
 .intro h;exact⟨x,h,by simp⟩
theorem nU{x:Int}:gQ l x=false↔x∉l:=by
 rw[<-ug];simp
theorem ahu(l:List Int) (x:Int):l.take (Oc l x)=l.takeWhile λy=>decide (y < x):=by
 unfold Oc
 induction l with
 | nil=>rfl
 | cons a l ih=>
   simp only[aaM];split
   .simp[ih]
   .simp
theorem ahv(l:List Int) (x:Int):l.drop (Oc l x)=l.dropWhile λy=>decide (y < x):=by
 unfold Oc
 induction l with
 | nil=>rfl
 | cons a l ih=>
   simp only[aaM,List.dropWhile_cons];split
   .simp[ih]
   .simp
theorem Qj:∀{l:List Int}{x:Int},SS l->∀y∈l.dropWhile (λy=>decide (y < x)),x<=y
 | [],_,_,y,h=>by simp at h
 | a :: l,x,hl,y,h=>by
   obtain⟨h1,h2⟩:=A85.1 hl;simp only[List.dropWhile_cons]at h;split at h
   .exact Qj h2 y h
   .rename_i hn;simp only[eH]at hn;rcases mF.1 h with rfl | h
    .omega
    .have:=h1 y h;omega
theorem afc:∀{l:List Int}{x:Int},∀y∈l.takeWhile (λy=>decide (y < x)),y < x
 | [],_,y,h=>by simp at h
 | a :: l,x,y,h=>by
   simp only[aaM]at h;split at h
   .rename_i hn;simp only[eH]at hn;rcases mF.1 h with rfl | h
    .exact hn
    .exact afc y h
   .simp at h
theorem ahw{x:Int} (hl:SS l) (hx:x∉l):SS (zK l x):=by
 unfold zK SS;rw[ahu,ahv];have hp:SS (l.takeWhile (λy=>decide (y < x))++l.dropWhile (λy=>decide (y < x))):=by rw[A89];exact hl
 obtain⟨p1,p2,p3⟩:=Ru.1 hp;rw[zY,Ru];refine⟨p1,?_,?_⟩
 .rw[afx,A85];refine⟨λy hy=>?_,p2⟩
  have h1:=Qj hl y hy;have h2:y≠x:=λe=>hx (by rw[<-e];rw[<-A89 (p:=λy=>decide (y < x)) (l:=l)];exact afy _ hy)
  omega
 .intro a ha b hb;rw[afx]at hb;rcases mF.1 hb with rfl | hb
  .exact afc a ha
  .exact p3 a ha b hb
theorem acH{x y:Int}:y∈zK l x↔y=x\/y∈l:=by
 unfold zK;rw[Et,Et,A76]
 conv=>rhs;rw[<-Ur (Oc l x) l,Et]
 constructor
 .rintro((h | h) | h)
  .exact .inr (.inl h)
  .exact .inl h
  .exact .inr (.inr h)
 .rintro(h | h | h)
  .exact .inl (.inr h)
  .exact .inl (.inl h)
  .exact .inr h
theorem Bq:∀(l o:List Int),SS o->SS (l.foldl (λo x=>if gQ o x then o else zK o x) o)/\∀y,y∈l.foldl (λo x=>if gQ o x then o else zK o x) o↔y∈o\/y∈l
 | [],o,h=>⟨h,λy=>by simp⟩
 | x :: l,o,h=>by
   simp only[Ji];cases hx:gQ o x with
   | true=>
     simp only[if_true];obtain⟨h1,h2⟩:=Bq l o h;refine⟨h1,λy=>?_⟩
     rw[h2,mF];have:=ug.1 hx;constructor
     .rintro(h | h)
      .exact .inl h
      .exact .inr (.inr h)
     .rintro(h | rfl | h)
      .exact .inl h
      .exact .inl this
      .exact .inr h
   | false=>
     simp only[aaN,MC];obtain⟨h1,h2⟩:=Bq l (zK o x) (ahw h (nU.1 hx));refine⟨h1,λy=>?_⟩
     rw[h2,mF,acH];constructor
     .rintro((h | h) | h)
      .exact .inr (.inl h)
      .exact .inl h
      .exact .inr (.inr h)
     .rintro(h | h | h)
      .exact .inl (.inr h)
      .exact .inl (.inl h)
      .exact .inr h
theorem yL(l:List Int):SS (bY l):=(Bq l [] List.Pairwise.nil).1
theorem yM{x:Int}:x∈bY l↔x∈l:=by
 have:=(Bq l [] List.Pairwise.nil).2 x;simpa[bY]using this
theorem KE{d:Array Int} (hs:∀i j,i < j->j < d.size->d[i]!<=d[j]!):∀m,m<=d.size ->
 SS (Lib.compactUpTo d m)/\(∀x,x∈Lib.compactUpTo d m↔∃j < m,d[j]! = x)
 | 0,_=>⟨by simp[Lib.compactUpTo,SS],λx=>by simp[Lib.compactUpTo]⟩
 | m+1,hm=>by
   obtain⟨h1,h2⟩:=KE hs m (by omega)
   rw[Lib.compactUpTo_succ];have le:∀x∈Lib.compactUpTo d m,∃j < m,d[j]! = x:=λx hx=>(h2 x).1 hx
   cases hk:Lib.keeps d m with
   | true=>
     simp only[if_true];constructor
     .refine Ru.2 ⟨h1,by simp,λa ha b hb=>?_⟩
      simp only[A76]at hb;subst hb;obtain⟨j,hj,rfl⟩:=le a ha;have h3:m≠0:=by omega
      simp only[Lib.keeps,eH,h3,false_or]at hk;have h4:=hs (m - 1) m (by omega) (by omega)
      by_cases hj2:j=m - 1
      .subst hj2;omega
      .have:=hs j (m - 1) (by omega) (by omega);omega
     .intro x;rw[Et,h2,A76];constructor
      .rintro(⟨j,hj,e⟩ | e)
       .exact⟨j,by omega,e⟩
       .exact⟨m,by omega,e.symm⟩
      .rintro⟨j,hj,e⟩
       by_cases hj2:j=m
       .subst hj2;exact .inr e.symm
       .exact .inl ⟨j,by omega,e⟩
   | false=>
     simp only[aaN,MC,Mc];refine⟨h1,λx=>?_⟩
     rw[h2];have h3:m≠0/\d[m]! = d[m - 1]!:=by simpa[Lib.keeps]using hk
     constructor
     .rintro⟨j,hj,e⟩;exact⟨j,by omega,e⟩
     .rintro⟨j,hj,e⟩
      by_cases hj2:j=m
      .subst hj2;exact⟨j - 1,by omega,by rw[<-h3.2];exact e⟩
      .exact⟨j,by omega,e⟩
theorem KF(l:List Int):(je l).Pairwise (·<=·):=by
 have h:(je l).Pairwise (λx y=>decide (x<=y)=true):=List.pairwise_mergeSort (λa b c h1 h2=>by simp at *;omega) (λa b=>by simp;omega) l
 exact h.imp λh=>by simpa using h
theorem Yc{x:Int}:x∈je l↔x∈l:=(List.mergeSort_perm l _).mem_iff
theorem KG(l:List Int):SS (Lib.compact (je l))/\∀x,x∈Lib.compact (je l)↔x∈l:=by
 have hs:∀i j,i < j->j < (je l).toArray.size->(je l).toArray[i]!<=(je l).toArray[j]!:=by
  intro i j hij hj;have hj':j < (je l).length:=by simpa using hj
  have:=afv.1 (KF l) i j (by omega) hj' hij
  rw[getElem!_pos _ i (by simp;omega),getElem!_pos _ j (by simpa using hj)]
  simpa using this
 obtain⟨h1,h2⟩:=KE hs (je l).length (by simp)
 refine⟨h1,λx=>?_⟩
 show x∈Lib.compactUpTo (je l).toArray (je l).length↔_;rw[h2,<-Yc,List.mem_iff_getElem];constructor
 .rintro⟨j,hj,e⟩;exact⟨j,hj,by rw[getElem!_pos _ j (by simpa using hj)]at e;simpa using e⟩
 .rintro⟨j,hj,e⟩;exact⟨j,hj,by rw[getElem!_pos _ j (by simpa using hj)];simpa using e⟩
theorem acI(l:List Int):Lib.compact (je l)=bY l:=
 Oe (KG l).1 (yL l) λx=>by rw[(KG l).2,yM]
end Go.Proofs.YtjhenjhcbcalpaaGreatDoor
namespace Go.Proofs
open Go.Shelf
def Tryz.lays189_ren:Go.Shelf.Ren:=⟨fun | 189=>200 | 125=>213 | 257=>212 | 128=>225 | 129=>226 | 294=>216 | 295=>217 | 296=>218 | 297=>219 | 298=>220 | 299=>221 | 216=>222 | 300=>223 | 301=>224 | 328=>227 | 329=>228 | 330=>229 | 331=>230 | 332=>231 | 215=>232 | 343=>233 | n=>n,fun | 28=>31 | 3=>3 | 46=>217 | 0=>0 | 51=>167 | 53=>230 | 4=>4 | 183=>222 | 182=>221 | 131=>95 | 5=>5 | 9=>9 | 218=>231 | 222=>235 | 228=>237 | 229=>165 | n=>n,fun | n=>n⟩
theorem Tryz.lays189:Go.Proofs.Lays.n189 Tryz.prog Tryz.lays189_ren:={
 mixed:=by kernel_rfl
 f125:=Tryz.func213.trans (oh some (by kernel_rfl))
 f128:=Tryz.func225.trans (oh some (by kernel_rfl))
 f129:=Tryz.func226.trans (oh some (by kernel_rfl))
 f189:=Tryz.func200.trans (oh some (by kernel_rfl))
 f215:=Tryz.func232.trans (oh some (by kernel_rfl))
 f216:=Tryz.func222.trans (oh some (by kernel_rfl))
 f257:=Tryz.func212.trans (oh some (by kernel_rfl))
 f294:=Tryz.func216.trans (oh some (by kernel_rfl))
 f295:=Tryz.func217.trans (oh some (by kernel_rfl))
 f296:=Tryz.func218.trans (oh some (by kernel_rfl))
 f297:=Tryz.func219.trans (oh some (by kernel_rfl))
 f298:=Tryz.func220.trans (oh some (by kernel_rfl))
 f299:=Tryz.func221.trans (oh some (by kernel_rfl))
 f300:=Tryz.func223.trans (oh some (by kernel_rfl))
 f301:=Tryz.func224.trans (oh some (by kernel_rfl))
 f328:=Tryz.func227.trans (oh some (by kernel_rfl))
 f329:=Tryz.func228.trans (oh some (by kernel_rfl))
 f330:=Tryz.func229.trans (oh some (by kernel_rfl))
 f331:=Tryz.func230.trans (oh some (by kernel_rfl))
 f332:=Tryz.func231.trans (oh some (by kernel_rfl))
 f343:=Tryz.func233.trans (oh some (by kernel_rfl))
 t0:=Tryz.underlying0
 a0:=Tryz.isAgg0
 z0:=Tryz.sizeOf0
 v0:=Tryz.zeroValue0
 t3:=Tryz.underlying3
 a3:=Tryz.isAgg3
 z3:=Tryz.sizeOf3
 v3:=Tryz.zeroValue3
 t4:=Tryz.underlying4
 a4:=Tryz.isAgg4
 z4:=Tryz.sizeOf4
 v4:=Tryz.zeroValue4
 t5:=Tryz.underlying5
 a5:=Tryz.isAgg5
 z5:=Tryz.sizeOf5
 v5:=Tryz.zeroValue5
 t9:=Tryz.underlying9
 a9:=Tryz.isAgg9
 z9:=Tryz.sizeOf9
 v9:=Tryz.zeroValue9
 t28:=Tryz.underlying31
 a28:=Tryz.isAgg31
 z28:=Tryz.sizeOf31
 v28:=Tryz.zeroValue31
 t46:=Tryz.underlying217
 a46:=Tryz.isAgg217
 z46:=Tryz.sizeOf217
 v46:=Tryz.zeroValue217
 t51:=Tryz.underlying167
 a51:=Tryz.isAgg167
 z51:=Tryz.sizeOf167
 v51:=Tryz.zeroValue167
 t53:=Tryz.underlying230
 a53:=Tryz.isAgg230
 z53:=Tryz.sizeOf230
 v53:=Tryz.zeroValue230
 t131:=Tryz.underlying95
 a131:=Tryz.isAgg95
 z131:=Tryz.sizeOf95
 v131:=Tryz.zeroValue95
 t182:=Tryz.underlying221
 a182:=Tryz.isAgg221
 z182:=Tryz.sizeOf221
 v182:=Tryz.zeroValue221
 t183:=Tryz.underlying222
 a183:=Tryz.isAgg222
 z183:=Tryz.sizeOf222
 v183:=Tryz.zeroValue222
 t218:=Tryz.underlying231
 a218:=Tryz.isAgg231
 z218:=Tryz.sizeOf231
 v218:=Tryz.zeroValue231
 t222:=Tryz.underlying235
 a222:=Tryz.isAgg235
 z222:=Tryz.sizeOf235
 v222:=Tryz.zeroValue235
 t228:=Tryz.underlying237
 a228:=Tryz.isAgg237
 z228:=Tryz.sizeOf237
 v228:=Tryz.zeroValue237
 t229:=Tryz.underlying165
 a229:=Tryz.isAgg165
 z229:=Tryz.sizeOf165
 v229:=Tryz.zeroValue165 }
open Go.Sort Go.RowKit in
theorem Tryz.slices_Sort_int(blk off cap:Nat) (zs:List Int) (w:World) (hH:Holds (Value.int .i64) w blk off zs.toArray) (hblk:blk < w.heap.size) (hsz:zs.length < 4611686018427387904):
 Calls Tryz.prog 200 #[.slice (some ⟨blk,off,none⟩) zs.length cap] w λe w'=>
  e=.returned (.tuple #[])/\∃n os,w'=grow (putRow (Value.int .i64) (Sort.ahead w n) blk off (zs.mergeSort λx y=>decide (x<=y)).toArray) os:=Any.slices_Sort_int Tryz.lays189 blk off cap zs w hH hblk hsz
def Tryz.laysNm220_ren:Go.Shelf.Ren:=⟨fun | 20=>201 | n=>n,fun | 22=>31 | 3=>3 | 4=>4 | 0=>0 | n=>n,fun | n=>n⟩
theorem Tryz.laysNm220:Go.Proofs.Lays2.n20 Tryz.prog Tryz.laysNm220_ren:={
 mixed:=by kernel_rfl
 f20:=Tryz.func201.trans (oh some (by kernel_rfl))
 t0:=Tryz.underlying0
 a0:=Tryz.isAgg0
 z0:=Tryz.sizeOf0
 v0:=Tryz.zeroValue0
 t3:=Tryz.underlying3
 a3:=Tryz.isAgg3
 z3:=Tryz.sizeOf3
 v3:=Tryz.zeroValue3
 t4:=Tryz.underlying4
 a4:=Tryz.isAgg4
 z4:=Tryz.sizeOf4
 v4:=Tryz.zeroValue4
 t22:=Tryz.underlying31
 a22:=Tryz.isAgg31
 z22:=Tryz.sizeOf31
 v22:=Tryz.zeroValue31
 i3:=by kernel_rfl }
open Go.RowKit Go.Lib Go.Sort in
theorem Tryz.slices_Compact_int(blk off cap:Nat) (zs:List Int) (w:World) (hH:Holds (Value.int .i64) w blk off zs.toArray) (hsz:zs.length<=9223372036854775807) (hcap:zs.length<=cap):
 Calls Tryz.prog 201 #[.slice (some ⟨blk,off,none⟩) zs.length cap] w λe w'=>e=.returned (.slice (some ⟨blk,off,none⟩) (Lib.compact zs).length cap)/\∃q,w'=putRow (Value.int .i64) (Sort.ahead w q) blk off (Lib.compact zs++List.replicate (zs.length - (Lib.compact zs).length) 0).toArray:=Any.slices_Compact_int Tryz.laysNm220 blk off cap zs w hH hsz hcap
open Go.RowKit Go.Lib Go.Sort in
theorem Tryz.slices_Compact_int_empty(a:Option Addr) (cap:Nat) (w:World):
 Calls Tryz.prog 201 #[.slice a 0 cap] w λe w'=>e=.returned (.slice a 0 cap)/\w'=w:=Any.slices_Compact_int_empty Tryz.laysNm220 a cap w
end Go.Proofs
namespace Go.Proofs.YtjhenjhcbcalpaaGreatDoor
open Go Go.lH
variable {k:Nat}
def Mt(l:List Int):Prop:=l=[]
theorem Mt.nil:Mt []:=rfl
abbrev afd:CT:={ ps:=[.int .u64],pre:=λd=>d.1=0,res:=λd=>([],.one (.c (.v (.int .i64 0)))) }
abbrev ahx  : Nat->Option (St->kD):=λ_=>none
theorem acJ :
 let z1:=[(8:UInt8),(8:UInt8),(8:UInt8),(8:UInt8),(8:UInt8),(8:UInt8),(8:UInt8),(8:UInt8),(8:UInt8),(8:UInt8),(8:UInt8),(8:UInt8),(8:UInt8),(8:UInt8),(8:UInt8),(8:UInt8),(8:UInt8),(8:UInt8),(8:UInt8),(8:UInt8),(8:UInt8),(8:UInt8),(8:UInt8),(8:UInt8),(8:UInt8),(8:UInt8),(8:UInt8),(8:UInt8),(8:UInt8),(8:UInt8),(8:UInt8),(8:UInt8),(8:UInt8),(8:UInt8),(8:UInt8),(8:UInt8),(8:UInt8),(8:UInt8),(8:UInt8),(8:UInt8),(8:UInt8),(8:UInt8),(8:UInt8),(8:UInt8),(8:UInt8),(8:UInt8),(8:UInt8),(8:UInt8),(8:UInt8),(8:UInt8),(8:UInt8),(8:UInt8),(8:UInt8),(8:UInt8),(8:UInt8),(8:UInt8),(8:UInt8),(8:UInt8),(8:UInt8),(8:UInt8),(8:UInt8),(8:UInt8),(8:UInt8),(8:UInt8)];((0:Int)<=(0:Int)/\(0:Int) < (256:Int))/\∀(u:UInt8),{ data:=(([(0:UInt8),(1:UInt8),(2:UInt8),(2:UInt8),(3:UInt8),(3:UInt8),(3:UInt8),(3:UInt8),(4:UInt8),(4:UInt8),(4:UInt8),(4:UInt8),(4:UInt8),(4:UInt8),(4:UInt8),(4:UInt8),(5:UInt8),(5:UInt8),(5:UInt8),(5:UInt8),(5:UInt8),(5:UInt8),(5:UInt8),(5:UInt8),(5:UInt8),(5:UInt8),(5:UInt8),(5:UInt8),(5:UInt8),(5:UInt8),(5:UInt8),(5:UInt8),(6:UInt8),(6:UInt8),(6:UInt8),(6:UInt8),(6:UInt8),(6:UInt8),(6:UInt8),(6:UInt8),(6:UInt8),(6:UInt8),(6:UInt8),(6:UInt8),(6:UInt8),(6:UInt8),(6:UInt8),(6:UInt8),(6:UInt8),(6:UInt8),(6:UInt8),(6:UInt8),(6:UInt8),(6:UInt8),(6:UInt8),(6:UInt8),(6:UInt8),(6:UInt8),(6:UInt8),(6:UInt8),(6:UInt8),(6:UInt8),(6:UInt8),(6:UInt8)].append [(7:UInt8),(7:UInt8),(7:UInt8),(7:UInt8),(7:UInt8),(7:UInt8),(7:UInt8),(7:UInt8),(7:UInt8),(7:UInt8),(7:UInt8),(7:UInt8),(7:UInt8),(7:UInt8),(7:UInt8),(7:UInt8),(7:UInt8),(7:UInt8),(7:UInt8),(7:UInt8),(7:UInt8),(7:UInt8),(7:UInt8),(7:UInt8),(7:UInt8),(7:UInt8),(7:UInt8),(7:UInt8),(7:UInt8),(7:UInt8),(7:UInt8),(7:UInt8),(7:UInt8),(7:UInt8),(7:UInt8),(7:UInt8),(7:UInt8),(7:UInt8),(7:UInt8),(7:UInt8),(7:UInt8),(7:UInt8),(7:UInt8),(7:UInt8),(7:UInt8),(7:UInt8),(7:UInt8),(7:UInt8),(7:UInt8),(7:UInt8),(7:UInt8),(7:UInt8),(7:UInt8),(7:UInt8),(7:UInt8),(7:UInt8),(7:UInt8),(7:UInt8),(7:UInt8),(7:UInt8),(7:UInt8),(7:UInt8),(7:UInt8),(7:UInt8)]).append (z1.append z1)).toArray:ByteArray }[0]?=some u->iR (u.toNat:Int)/\iR (0+(u.toNat:Int))/\qI 0 (0+(u.toNat:Int)):=by
 conv=>zeta
 delta qI iR;refine⟨by omega,λu hu=>?_⟩
 have hu:some (0:UInt8)=some u:=hu;cases hu;exact⟨aC.2 (by decide),aC.2 (by decide),rfl,rfl⟩
theorem Yd:aY aV.gd 226 afd:=
 pz (cx:=aV) (n:=25) (cl:=[]) aB trivial Tryz.func226 λd hd=>by
  obtain⟨x,⟨⟩⟩:=d;simp only at hd;subst hd;exact⟨ahx ,cast (by kernel_rfl) (acJ )⟩
abbrev afe:CT:={ ps:=[.int .u64],pre:=λd=>d.1=0,res:=λd=>([],.one (.c (.v (.int .i64 0)))) }
abbrev ahy  : Nat->Option (St->kD):=λ_=>none
theorem acK :
 (0:(Sh.int IntKind.u64).den)=(0:(Sh.int IntKind.u64).den)/\qI 0 (0:Int):=by
 delta qI;exact⟨rfl,rfl,rfl⟩
theorem Ye:aY aV.gd 213 afe:=
 pz (cx:=aV) (n:=8) (cl:=[(226,afd)]) aB ⟨Yd,trivial⟩ Tryz.func213 λd hd=>by
  obtain⟨x,⟨⟩⟩:=d;simp only at hd;subst hd;exact⟨ahy ,cast (by kernel_rfl) (acK )⟩
abbrev aff:CT:={ ps:=[.sl (.int .i64),.int .i64,.int .i64],pre:=λd=>Mt d.1/\d.2.1=0/\d.2.2.1=0,res:=λd=>([],.iO []) }
abbrev ahz  : Nat->Option (St->kD):=λ_=>some λ_=>.Dk 1
theorem acL :
 iR (1:Int)/\rT [] []:=by
 delta rT iR;exact⟨aC.2 (by omega),rfl,rfl⟩
theorem Yf:aY aV.gd 216 aff:=
 pz (cx:=aV) (n:=49) (cl:=[]) aB trivial Tryz.func216 λd hd=>by
  obtain⟨l,a,b,⟨⟩⟩:=d;obtain⟨h1,h2,h3⟩:=hd;simp only at h1 h2 h3;have h1:l=[]:=h1;subst h1;subst h2;subst h3;exact⟨ahz ,cast (by kernel_rfl) (acL )⟩
abbrev afg:CT:={ ps:=[.sl (.int .i64),.int .i64,.int .i64,.int .i64],pre:=λd=>Mt d.1/\d.2.1=0/\d.2.2.1=0,res:=λd=>([],.iO []) }
abbrev ahA(m:Int):Nat->Option (St->kD):=λ_=>some λ_=>.Dk 1
theorem acM(m:Int):
 iR (0:Int)/\(Mt []/\(0:Int)=(0:Int)/\(0:Int)=(0:Int))/\rT [] []:=by
 delta rT iR;exact⟨aC.2 (by omega),⟨rfl,rfl,rfl⟩,rfl,rfl⟩
theorem Yg:aY aV.gd 212 afg:=
 pz (cx:=aV) (n:=134) (cl:=[(216,aff)]) aB ⟨Yf,trivial⟩ Tryz.func212 λd hd=>by
  obtain⟨l,a,b,m,⟨⟩⟩:=d;obtain⟨h1,h2,h3⟩:=hd;simp only at h1 h2 h3;have h1:l=[]:=h1;subst h1;subst h2;subst h3;exact⟨ahA m,cast (by kernel_rfl) (acM m)⟩
abbrev akI:CT:={ ps:=[.sl (.int .i64)],pre:=λd=>Mt d.1,res:=λd=>([],.iO []) }
abbrev ahB  : Nat->Option (St->kD):=λ_=>none
theorem acN :
 (0:Int)=(0:(Sh.int IntKind.u64).den)/\(Mt []/\(0:Int)=(0:Int)/\(0:Int)=(0:Int))/\rT [] []:=by
 delta rT;exact⟨rfl,⟨rfl,rfl,rfl⟩,rfl,rfl⟩
theorem KH:aY aV.gd 200 akI:=
 pz (cx:=aV) (n:=11) (cl:=[(212,afg),(213,afe)]) aB ⟨Yg,Ye,trivial⟩ Tryz.func200 λd hd=>by
  obtain⟨l,⟨⟩⟩:=d;have hd:l=[]:=hd;subst hd;exact⟨ahB ,cast (by kernel_rfl) (acN )⟩
abbrev rC:CT:={ ps:=[.sl (.int .i64)],pre:=λd=>d.1.length<=1000000,res:=λd=>([.row 3 (.int .i64) (d.1)],.one (.c (.row 0))) }
abbrev Yh:List (Nat×IP):=[]
abbrev uh:=Sh.int IntKind.i64
abbrev qC:=SV.c (SC.row (0:Nat))
theorem ahC(l:List Int) (aF:rC.pre (l,())):
 let z1:=[ak.row (3:TypeId) uh l];∀(b:Bool),(b=true->l=[])->br b (z1=[ak.row (3:TypeId) uh []]/\bF.one qC=bF.one qC) (mY ((0:Nat)+List.length (l)) (8:Nat)/\z1=[ak.row (3:TypeId) uh ([]++l)]/\bF.one qC=bF.one qC):=by
 conv=>zeta
 delta uh qC;have hp:l.length<=1000000:=aF;intro b hb;refine ah.2 ⟨λh=>by rw[hb h];exact⟨rfl,rfl⟩,λh=>⟨?_,by simp,rfl⟩⟩
 rw[dJ];omega
theorem yN:aY aV.gd 58 rC:=
 NZ (il:=Yh) (rc:=[.row 3 (.int .i64)]) (cx:=aV) (n:=8) (cl:=[]) (by kernel_rfl) aB trivial trivial Tryz.func58 (by kernel_rfl) (by kernel_rfl) rfl (by kernel_rfl) (by kernel_rfl) λd hd=>by
  obtain⟨l,⟨⟩⟩:=d;exact⟨λ_=>none,cast (by kernel_rfl) (ahC l hd)⟩
def ES(l:List Int) (x:Int):Int:=match l.findIdx? (λy=>decide (y=x)) with | some k=>(k:Int) | none=>-1
theorem Og{l:List Int}{x:Int} (hd:l[k]?=some x) (hn:∀j < k,∀y,l[j]?=some y->y≠x):ES l x=k:=by
 have iV:k < l.length:=(fH.1 hd).1;have:l.findIdx? (λy=>decide (y=x))=some k:=by
  rw[A84];refine⟨iV,by have:=(fH.1 hd).2;simp[this],λj hj=>?_⟩
  have:=hn j hj l[j] (lY (by omega))
  simpa using this
 simp[ES,this]
theorem TU{l:List Int}{x:Int} (hn:∀(j:Nat) y,l[j]?=some y->y≠x):ES l x = -1:=by
 have:l.findIdx? (λy=>decide (y=x))=none:=by
  rw[A92];intro y hy;obtain⟨j,hj⟩:=LK hy;simpa using hn j y hj
 simp[ES,this]
abbrev Yi:CT:={ ps:=[.sl (.int .i64),.int .i64],pre:=λd=>d.1.length<=4611686018427387904,res:=λd=>([],.one (.c (.v (.int .i64 (ES d.1 d.2.1))))) }
abbrev ahD(l:List Int) (x:Int):Nat->Option (St->kD):=λ_=>some λ_=>.inv { α:=Nat,slots:=λk=>[(8,.c (.v (.int .i64 k)))],res:=λ_=>[],inv:=λk=>k<=l.length/\∀j < k,∀y,l[j]?=some y->y≠x,meas:=λk=>l.length - k }
abbrev fV:=Go.lH.Gd×Go.lH.ak
theorem acO(l:List Int) (x:Int) (aF:Yi.pre (l,x,())):
 let z1:=λ(x_1:Nat)=>(x_1<=l.length/\∀(j:Nat),j < x_1->∀(y:Int),l[j]?=some y->y≠x);(∃x_1,(z1 x_1)/\(cI 0=cI (x_1:Int)/\True)/\([]:List fV)=[])/\∀(x_1:Nat),(z1 x_1)->br (decide ((x_1:Int) < (l.length:Int))) ((0<=(x_1:Int)/\(x_1:Int) < (l.length:Int))/\∀(d:Int),l[(x_1:Int).toNat]?=some d->br (decide (x=d)) (qI (ES l x) (x_1:Int)) (iR ((x_1:Int)+(1:Int))/\∃x',(x'<=l.length/\∀(j:Nat),j < x'->∀(y:Int),l[j]?=some y->y≠x)/\(cI ((x_1:Int)+(1:Int))=cI (x':Int)/\True)/\([]:List fV)=[]/\l.length - x' < l.length - x_1)) (qI (ES l x) (-1:Int)):=by
 conv=>zeta
 delta fV cI qI iR;refine⟨⟨0,⟨by omega,λj hj=>by omega⟩,⟨rfl,trivial⟩,rfl⟩,λk hk=>ah.2 ⟨λh=>?_,λh=>?_⟩⟩
 .simp only[eH]at h;have hp:l.length<=4611686018427387904:=aF;refine⟨by omega,λd hd=>?_⟩
  have hd:l[k]?=some d:=by simpa using hd
  refine ah.2 ⟨λhe=>?_,λhe=>⟨aC.2 (by omega),k+1,⟨by omega,λj hj y hy=>?_⟩,⟨rfl,trivial⟩,rfl,by omega⟩⟩
  .have he:x=d:=by simpa using he
   rw[Og (by rw[hd,he]) hk.2];exact⟨rfl,rfl⟩
  .by_cases jh:j=k
   .subst jh;rw[hd]at hy;cases hy;intro hh;simp[hh]at he
   .exact hk.2 j (by omega) y hy
 .simp only[iH]at h;rw[TU (λj y hy=>hk.2 j (by have:=(fH.1 hy).1;omega) y hy)];exact⟨rfl,rfl⟩
theorem Yj:aY aV.gd 162 Yi:=
 pz (cx:=aV) (n:=19) (cl:=[]) aB trivial Tryz.func162 λd hd=>by
  obtain⟨l,x,⟨⟩⟩:=d;exact⟨ahD l x,cast (by kernel_rfl) (acO l x hd)⟩
theorem Yk(l:List Int) (x:Int):gQ l x=decide (0<=ES l x):=by
 have h:=List.findIdx?_isSome (xs:=l) (p:=λy=>decide (y=x))
 unfold gQ ES;rw[<-h];cases l.findIdx? (λy=>decide (y=x)) with
 | none=>rfl
 | some k=>simp
abbrev DR:CT:={ ps:=[.sl (.int .i64),.int .i64],pre:=λd=>d.1.length<=4611686018427387904,res:=λd=>([],vB (gQ d.1 d.2.1)) }
theorem ahE(l:List Int) (x:Int) (aF:DR.pre (l,x,())):
 l.length<=4611686018427387904/\qB (gQ l x) (decide (0<=ES l x)):=by
 delta qB;refine⟨aF,rfl,?_⟩;rw[Yk]
theorem yO:aY aV.gd 98 DR:=
 pz (cx:=aV) (n:=9) (cl:=[(162,Yi)]) aB ⟨Yj,trivial⟩ Tryz.func98 λd hd=>by
  obtain⟨l,x,⟨⟩⟩:=d;exact⟨λ_=>none,cast (by kernel_rfl) (ahE l x hd)⟩
theorem TV(l:List Int):(je l).length=l.length:=by simp[je]
theorem Ym(l:List Int):(bY l).length<=l.length:=TT l
theorem acP:Qg Tryz.prog aV.gd 200 DL:=⟨TP KH.1 rfl (λblk cap zs w hH hb hz=>Tryz.slices_Sort_int blk 0 cap zs w hH hb hz),KH.2⟩
theorem acQ:Qg Tryz.prog aV.gd 201 zJ:=⟨Iu (λa cap w=>Tryz.slices_Compact_int_empty a cap w) (λblk cap zs w hH h1 h2=>Tryz.slices_Compact_int blk 0 cap zs w hH h1 h2),⟨_,Tryz.func201,rfl,by kernel_rfl⟩⟩
abbrev yP:CT:={ ps:=[.sl (.int .i64)],pre:=λd=>d.1.length<=1000000,res:=λd=>([.row 3 (.int .i64) (bY d.1)],.one (.c (.row 0))) }
abbrev akJ:List (Nat×IP):=[(200,DL),(201,zJ)]
theorem acR(l:List Int) (aF:yP.pre (l,())):
 l.length<=(1000000:Nat)/\List.length (l) < (4611686018427387904:Nat)/\List.length (je (l)) < (4611686018427387904:Nat)/\[ak.row (3:TypeId) uh (bY l)]=[ak.row (3:TypeId) uh (Lib.compact (je (l)))]/\bF.one qC=bF.one qC:=by
 delta uh qC;have hp:l.length<=1000000:=aF;exact⟨hp,by omega,by rw[TV];omega,by rw[acI],rfl⟩
theorem KI:aY aV.gd 169 yP:=
 NZ (il:=akJ) (rc:=[]) (cx:=aV) (n:=10) (cl:=[(58,rC)]) (by kernel_rfl) aB ⟨yN,trivial⟩ ⟨acP,acQ,trivial⟩ Tryz.func169 (by kernel_rfl) (by kernel_rfl) rfl (by kernel_rfl) (by kernel_rfl) λd hd=>by
  obtain⟨l,⟨⟩⟩:=d;exact⟨λ_=>none,cast (by kernel_rfl) (acR l hd)⟩
abbrev F9:CT:={ ps:=[.sl (.int .i64),.int .i64],pre:=λd=>d.1.length<=1000000,res:=λd=>([],vB (gQ d.1 d.2.1)) }
theorem acS(l:List Int) (x:Int) (aF:F9.pre (l,x,())):
 l.length<=4611686018427387904/\qB (gQ l x) (gQ l x):=by
 delta qB;have hp:l.length<=1000000:=aF;exact⟨by omega,rfl,rfl⟩
theorem yQ:aY aV.gd 165 F9:=
 pz (cx:=aV) (n:=8) (cl:=[(98,DR)]) aB ⟨yO,trivial⟩ Tryz.func165 λd hd=>by
  obtain⟨l,x,⟨⟩⟩:=d;exact⟨λ_=>none,cast (by kernel_rfl) (acS l x hd)⟩
abbrev KJ:CT:={ ps:=[.sl (.int .i64),.int .i64],pre:=λd=>d.1.length<=999999,res:=λd=>([.row 3 (.int .i64) (bY (d.1++[d.2.1]))],.one (.c (.row 0))) }
theorem acT(l:List Int) (x:Int) (aF:KJ.pre (l,x,())):
 let z1:=[ak.row (3:TypeId) uh (bY (l++[x]))];l.length<=(1000000:Nat)/\mY (List.length (l)+List.length ([x])) (8:Nat)/\List.length (l++[x])<=(1000000:Nat)/\z1=z1/\bF.one qC=bF.one qC:=by
 conv=>zeta
 delta uh qC;have hp:l.length<=999999:=aF;refine⟨by omega,?_,?_,rfl,rfl⟩
 .rw[dJ];simp;omega
 .simp;omega
theorem DU:aY aV.gd 111 KJ:=
 pz (cx:=aV) (n:=11) (cl:=[(58,rC),(169,yP)]) aB ⟨yN,KI,trivial⟩ Tryz.func111 λd hd=>by
  obtain⟨l,x,⟨⟩⟩:=d;exact⟨λ_=>none,cast (by kernel_rfl) (acT l x hd)⟩
abbrev Qk:Sh:=.pair .str (.pair (.int .i64) .unit)
abbrev LU:Sh:=.pair .str (.pair (.sl oV) .unit)
abbrev ji:Sh:=.pair (.int .i64) (.pair (.int .i64) .unit)
abbrev vF:Sh:=.pair (.sl Qk) (.pair (.sl .str) (.pair (.sl .str) (.pair (.sl LU) (.pair (.sl ji) .unit))))
abbrev ID:=Int×Int×Int×Int×Int×Int×Int×Int×Unit
abbrev VD:=ByteArray×Int×Unit
abbrev FD:=ByteArray×List ID×Unit
abbrev SD:=Int×Int×Unit
abbrev PD:=List VD×List ByteArray×List ByteArray×List FD×List SD×Unit
def vV(f:Nat) (x:FD):List (bK [ji,oV]):=x.2.1.zipIdx.map λp=>(((f:Int),(p.2:Int),()),p.1,())
def lg:Nat->List FD->List (bK [ji,oV])
 | _,[]=>[]
 | n,x :: l=>vV n x++lg (n+1) l
def dL(fs:List FD):List (bK [ji,oV]):=lg 0 fs
theorem Gg(f:Nat) (x:FD):(vV f x).length=x.2.1.length:=by simp[vV]
theorem TW{f:Nat}{x:FD}{j:Nat}{e:ID} (h:x.2.1[j]?=some e):(vV f x)[j]?=some (((f:Int),(j:Int),()),e,()):=by
 unfold vV;rw[Es,afz,h];simp
theorem rD:∀(l m:List FD) (n:Nat),lg n (l++m)=lg n l++lg (n+l.length) m
 | [],m,n=>by simp[lg]
 | x :: l,m,n=>by
   simp only[List.cons_append,lg,rD l m,zY,y9];rw[show n+1+l.length=n+(l.length+1) by omega]
theorem TY{fs:List FD}{d:FD} (h:fs[k]?=some d):dL fs=dL (fs.take k)++(vV k d++lg (k+1) (fs.drop (k+1))):=by
 have hk:k < fs.length:=(fH.1 h).1;have e:fs=fs.take k++(d :: fs.drop (k+1)):=by
  have h2:=List.drop_eq_getElem_cons hk;rw[(fH.1 h).2]at h2;rw[<-h2,Ur]
 unfold dL
 conv=>lhs;rw[e]
 rw[rD];rw[show 0+(fs.take k).length=k by simp;omega]
 rfl
theorem Oh{fs:List FD}{d:FD} (h:fs[k]?=some d):dL (fs.take (k+1))=dL (fs.take k)++vV k d:=by
 have hk:k < fs.length:=(fH.1 h).1;rw[OW,h];unfold dL;rw[rD];rw[show 0+(fs.take k).length=k by simp;omega]
 simp[lg]
theorem Ua{fs:List FD}{j:Nat}{d:FD}{e:ID} (h:fs[k]?=some d) (h2:d.2.1[j]?=some e):(dL fs)[(dL (fs.take k)).length+j]?=some (((k:Int),(j:Int),()),e,()):=by
 have hj:j < d.2.1.length:=(fH.1 h2).1;rw[TY h,L6 (by omega),Uo (by rw[Gg];omega)]
 rw[show(dL (fs.take k)).length+j - (dL (fs.take k)).length=j by omega]
 exact TW h2
noncomputable abbrev ahF:MK:={ ss:=[vF],f:=λd=>.seq Tryz.prog [ji,oV] (dL d.1.2.2.2.1),pre:=λd=>d.1.2.2.2.1.length<=1000000/\∀x∈d.1.2.2.2.1,x.2.1.length<=1000000 }
abbrev akK:List (Nat×CT):=[]
abbrev ahG(vs:List VD) (ms cs:List ByteArray) (fs:List FD) (ts:List SD):Nat->Option (St->kD):=λk=>match k with
 | 1=>some λ_=>.gen { α:=Nat,slots:=λk=>[(10,.c (.v (.int .i64 k)))],res:=λ_=>[],inv:=λk=>k<=fs.length,meas:=λk=>fs.length - k } λk=>(dL (fs.take k)).length
 | 4=>some λs=>.gen { α:=Nat,slots:=λk=>[(18,.c (.v (.int .i64 k)))],res:=λ_=>[],inv:=λk=>k<=(slotL oV s 16).length,meas:=λk=>(slotL oV s 16).length - k } λk=>(dL (fs.take (akb s 10).toNat)).length+k
 | _=>none
abbrev hlN:List (Nat×Nat×CT):=[]
abbrev mlN:List (Nat×MK):=[]
theorem acV(vs:List VD) (ms cs:List ByteArray) (fs:List FD) (ts:List SD) (l:Nat) (aF:ahF.pre ((vs,ms,cs,fs,ts,()),())):
 let z2:=λ(x:Nat)=>dL (List.take x fs);let z1:=λ(x:Nat)=>dL (List.take (x:Int).toNat fs);let z3:=λ(x_1:Nat)=>(x_1:Int)+(1:Int);(∃x,x<=fs.length/\(z2 x).length=0/\(cI 0=cI (x:Int)/\True)/\([]:List fV)=[])/\∀(x:Nat),x<=fs.length->br (decide ((x:Int) < (fs.length:Int))) ((0<=(x:Int)/\(x:Int) < (fs.length:Int))/\∀(d:ByteArray×(oV.sl.pair Sh.unit).den),fs[(x:Int).toNat]?=some d->(∃x_1,x_1<=List.length (d.snd.fst)/\(z1 x).length+x_1=(z2 x).length/\(cI 0=cI (x_1:Int)/\True)/\sm [g0 (ak.blk 77 [SC.v (Value.string d.fst),SC.sl oV d.snd.fst])])/\∀(x_1:Nat),x_1<=List.length (d.snd.fst)->br (decide ((x_1:Int) < ((List.length d.snd.fst):Int))) ((0<=(x_1:Int)/\(x_1:Int) < ((List.length d.snd.fst):Int))/\∀(dR:ID),d.snd.fst[(x_1:Int).toNat]?=some dR->l=l/\(dL fs)[(z1 x).length+x_1]?=some (((x:Int),(x_1:Int),()),dR,())/\(iR (z3 x_1)/\∃x',x'<=List.length (d.snd.fst)/\(z1 x).length+x'=(z1 x).length+x_1+1/\(cI (z3 x_1)=cI (x':Int)/\True)/\sm [g0 (ak.blk 77 [SC.v (Value.string d.fst),SC.sl oV d.snd.fst])]/\List.length (d.snd.fst) - x' < List.length (d.snd.fst) - x_1)/\True) (iR (z3 x)/\∃x',x'<=fs.length/\(z2 x').length=(z1 x).length+x_1/\(cI (z3 x)=cI (x':Int)/\True)/\([]:List fV)=[]/\fs.length - x' < fs.length - x)) ((z2 x).length=aN (dL fs)):=by
 conv=>zeta
 delta fV cI g0 sm I6 iR;have hp1:fs.length<=1000000:=aF.1;have hp2:∀x∈fs,x.2.1.length<=1000000:=aF.2;refine⟨⟨0,by omega,by simp[dL,lg],⟨rfl,trivial⟩,rfl⟩,λx hx=>ah.2 ⟨λh=>?_,λh=>?_⟩⟩
 .simp only[eH]at h;have hN:(x:Int).toNat=x:=by omega
  rw[hN];refine⟨by omega,λd hd=>?_⟩
  have hd:fs[x]?=some d:=by simpa using hd
  have hst:=Oh hd;refine⟨⟨0,Ja _,by omega,⟨rfl,trivial⟩,rfl⟩,λy hy=>ah.2 ⟨λh2=>?_,λh2=>?_⟩⟩
  .simp only[eH]at h2;refine⟨by omega,λe he=>?_⟩
   have he:d.2.1[y]?=some e:=by simpa using he
   refine⟨rfl,Ua hd he,⟨?_,y+1,?_,?_,⟨rfl,trivial⟩,rfl,?_⟩,trivial⟩
   .have:=hp2 d (iJ hd);exact aC.2 (by omega)
   .omega
   .omega
   .omega
  .simp only[iH]at h2;refine⟨aC.2 (by omega),x+1,by omega,?_,⟨rfl,trivial⟩,rfl,by omega⟩
   have hq:=hp2 d (iJ hd);have hy:y=d.2.1.length:=by omega
   rw[hst,jR,Gg,hy]
 .simp only[iH]at h;rw[wo (by omega),aZ]
theorem acW:W9 Tryz.prog aV.gd 210 ahF:=by
 intro d h lb hd hg cap;obtain⟨⟨vs,ms,cs,fs,ts,⟨⟩⟩,⟨⟩⟩:=d;exact Xe (E:=Xa Tryz.prog aV 32 akK Yh hlN mlN [] [] λ_=>none) (Qh (by kernel_rfl) aB trivial trivial trivial trivial) rfl Tryz.func210 (body:=jr Tryz.f210) (by kernel_rfl) (by kernel_rfl) rfl rfl rfl rfl ⟨ahG vs ms cs fs ts,λl=>cast (by kernel_rfl) (acV vs ms cs fs ts l hd)⟩ hg cap
noncomputable abbrev Iy:CT:={ ps:=[vF],pre:=λd=>d.1.2.2.2.1.length<=1000000/\∀x∈d.1.2.2.2.1,x.2.1.length<=1000000,res:=λd=>([],.one (.c (.abs (.seq Tryz.prog [ji,oV] (dL d.1.2.2.2.1))))) }
noncomputable abbrev akL:List (Nat×MK):=[(210,ahF)]
theorem acX(vs:List VD) (ms cs:List ByteArray) (fs:List FD) (ts:List SD) (aF:Iy.pre ((vs,ms,cs,fs,ts,()),())):
 let z1:=bF.one (SV.c (SC.abs (Ew.seq Tryz.prog [I6.pair (I6.pair Sh.unit),I6.pair (I6.pair (I6.pair (I6.pair (I6.pair (I6.pair ji)))))] (dL fs))));(fs.length<=1000000/\∀(x:ByteArray×(oV.sl.pair Sh.unit).den),x∈fs->List.length x.snd.fst<=1000000)/\rE z1 z1:=by
 conv=>zeta
 delta rE I6;exact⟨aF,rfl,rfl⟩
theorem Yn:aY aV.gd 189 Iy:=
 (ng (cx:=aV) (n:=4) (cl:=[]) (il:=Yh) (hl:=hlN) (ml:=akL) (rc:=[]) (lits:=[]) (suf:=[]) (by kernel_rfl) aB trivial trivial trivial ⟨acW,trivial⟩ Tryz.func189 (by kernel_rfl) (by kernel_rfl) rfl (by kernel_rfl) (by kernel_rfl) (by simp) λd hd=>by
  obtain⟨⟨vs,ms,cs,fs,ts,⟨⟩⟩,⟨⟩⟩:=d;exact⟨λ_=>none,cast (by kernel_rfl) (acX vs ms cs fs ts hd)⟩).met
def zL(c:Int):Bool:=decide (97<=c/\c<=122\/65<=c/\c<=90)
abbrev afh:CT:={ ps:=[.int .u8],pre:=λd=>True,res:=λd=>([],vB (zL d.1)) }
theorem acY(c:Int):
 qB (zL c) (decide (97<=c) && decide (c<=122) || decide (65<=c) && decide (c<=90)):=by
 delta qB;refine⟨rfl,?_⟩;rw[show zL c=(decide (97<=c) && decide (c<=122) || decide (65<=c) && decide (c<=90)) by unfold zL;rw[OX];simp]
theorem Yo:aY aV.gd 214 afh:=
 pz (cx:=aV) (n:=17) (cl:=[]) aB trivial Tryz.func214 λd hd=>by
  obtain⟨c,⟨⟩⟩:=d;exact⟨λ_=>none,cast (by kernel_rfl) (acY c)⟩
def dK(n:Int):Bool:=decide (-2147483648<=n/\n<=2147483647)
abbrev Yp:CT:={ ps:=[.int .i64],pre:=λd=>True,res:=λd=>([],vB (dK d.1)) }
theorem acZ(n:Int):
 qB (dK n) (decide ((-2147483648)<=n) && decide (n<=2147483647)):=by
 delta qB;refine⟨rfl,?_⟩;rw[show dK n=(decide (-2147483648<=n) && decide (n<=2147483647)) by unfold dK;rw[OX];simp]
theorem KL:aY aV.gd 186 Yp:=
 pz (cx:=aV) (n:=9) (cl:=[]) aB trivial Tryz.func186 λd hd=>by
  obtain⟨n,⟨⟩⟩:=d;exact⟨λ_=>none,cast (by kernel_rfl) (acZ n)⟩
def sG(vs:List VD) (ms cs:List ByteArray) (fs:List FD) (op:Int):Int:=
 if op=8\/op=9\/op=10\/op=11\/op=12\/op=14 then vs.length else if op=15\/op=16\/op=17 then ms.length else if op=18\/op=19\/op=20 then cs.length else if op=21 then fs.length else -1
abbrev afi:CT:={ ps:=[vF,.int .i64],pre:=λd=>True,res:=λd=>([],.one (.c (.v (.int .i64 (sG d.1.1 d.1.2.1 d.1.2.2.1 d.1.2.2.2.1 d.2.1))))) }
theorem ac0(vs:List VD) (ms cs:List ByteArray) (fs:List FD) (ts:List SD) (op:Int):
 let z7:=sG vs ms cs fs op;let z4:=qI z7 (vs.length:Int);let z5:=qI z7 (ms.length:Int);let z6:=qI z7 (cs.length:Int);let z3:=br (decide (op=21)) (qI z7 (fs.length:Int)) (qI z7 (-1:Int));let z2:=br (decide (op=18)) (br (decide (op=18)) z6 z3) (br (decide (op=19)) (br (decide (op=19)) z6 z3) (br (decide (op=20)) z6 z3));let z1:=br (decide (op=15)) (br (decide (op=15)) z5 z2) (br (decide (op=16)) (br (decide (op=16)) z5 z2) (br (decide (op=17)) z5 z2));br (decide (op=8)) (br (decide (op=8)) z4 z1) (br (decide (op=9)) (br (decide (op=9)) z4 z1) (br (decide (op=10)) (br (decide (op=10)) z4 z1) (br (decide (op=11)) (br (decide (op=11)) z4 z1) (br (decide (op=12)) (br (decide (op=12)) z4 z1) (br (decide (op=14)) z4 z1))))):=by
 conv=>zeta
 delta qI;unfold sG;simp only[ah]
 repeat' (first | (refine And.intro ?_ ?_) | (intro _))
 all_goals first | rfl | (simp_all;done) | (simp_all;omega) | grind
theorem Yq:aY aV.gd 211 afi:=
 pz (cx:=aV) (n:=35) (cl:=[]) aB trivial Tryz.func211 λd hd=>by
  obtain⟨⟨vs,ms,cs,fs,ts,⟨⟩⟩,op,⟨⟩⟩:=d;exact⟨λ_=>none,cast (by kernel_rfl) (ac0 vs ms cs fs ts op)⟩
def kW(vs:List VD):List ByteArray:=vs.map λv=>v.1
def qF(fs:List FD):List ByteArray:=fs.map λf=>f.1
abbrev Oi:CT:={ ps:=[vF],pre:=λd=>d.1.1.length<=1000000,res:=λd=>([.row 9 .str (kW d.1.1)],.one (.c (.row 0))) }
abbrev ahH(vs:List VD) (ms cs:List ByteArray) (fs:List FD) (ts:List SD):Nat->Option (St->kD):=λk=>match k with
 | 3=>some λ_=>.inv { α:=Nat,slots:=λk=>[(9,.c (.v (.int .i64 k))),(3,.c (.row 1))],res:=λk=>[(1,.row 9 .str (kW (vs.take k)))],inv:=λk=>k<=(vs).length,meas:=λk=>(vs).length - k,nil:=[(3,9,.str)] }
 | _=>none
theorem ac1(vs:List VD) (ms cs:List ByteArray) (fs:List FD) (ts:List SD) (aF:Oi.pre ((vs,ms,cs,fs,ts,()),())):
 let z2:=[SC.sl Qk vs,SC.sl Sh.str ms,SC.sl Sh.str cs,SC.sl LU fs,SC.sl ji ts];let z1:=λ(x:Nat)=>[g0 (ak.blk 27 z2),g0 (ak.row 9 Sh.str (kW (List.take x vs)))];(∃x,x<=vs.length/\(cI 0=cI (x:Int)/\SV.c (SC.row (Nat.succ 0))=SV.c (SC.row 1)/\True)/\[g0 (ak.blk 27 z2),g0 (ak.row 9 Sh.str [])]=(z1 x))/\∀(x:Nat),x<=vs.length->br (decide ((x:Int) < (vs.length:Int))) ((0<=(x:Int)/\(x:Int) < (vs.length:Int))/\∀(d:ByteArray×(I6.pair Sh.unit).den),vs[(x:Int).toNat]?=some d->mY (List.length (kW (List.take x vs))+List.length ([d.fst])) 16/\iR ((x:Int)+(1:Int))/\∃x',x'<=vs.length/\(cI ((x:Int)+(1:Int))=cI (x':Int)/\SV.c (SC.row 1)=SV.c (SC.row 1)/\True)/\[g0 (ak.blk 27 z2),g0 (ak.row 9 Sh.str (kW (List.take x vs)++[d.fst]))]=(z1 x')/\vs.length - x' < vs.length - x) ([ak.row 9 Sh.str (kW vs)]=[ak.row 9 Sh.str (kW (List.take x vs))]/\bF.one (SV.c (SC.row 0))=bF.one (SV.c (SC.row 0))):=by
 conv=>zeta
 delta cI g0 I6 iR;have hp:(vs).length<=1000000:=aF;refine⟨⟨0,by omega,⟨rfl,rfl,trivial⟩,rfl⟩,λk hk=>ah.2 ⟨λh=>?_,λh=>?_⟩⟩
 .simp only[eH]at h;refine⟨by omega,λd hd=>?_⟩
  have hd:(vs)[k]?=some d:=by simpa using hd
  have e:kW ((vs).take (k+1))=kW ((vs).take k)++[d.1]:=by
   unfold kW;rw[OW,hd];simp
  refine⟨?_,aC.2 (by omega),k+1,by omega,⟨rfl,rfl,trivial⟩,?_,by omega⟩
  .have:(kW ((vs).take k)).length<=1000000:=by simp[kW];omega
   exact dJ.2 (by simp only[y9,LP];omega)
  .rw[e]
 .simp only[iH]at h;rw[wo (by omega)];exact⟨rfl,rfl⟩
theorem Yr:aY aV.gd 183 Oi:=
 pz (cx:=aV) (n:=20) (cl:=[]) aB trivial Tryz.func183 λd hd=>by
  obtain⟨⟨vs,ms,cs,fs,ts,⟨⟩⟩,⟨⟩⟩:=d;exact⟨ahH vs ms cs fs ts,cast (by kernel_rfl) (ac1 vs ms cs fs ts hd)⟩
abbrev Oj:CT:={ ps:=[vF],pre:=λd=>d.1.2.2.2.1.length<=1000000,res:=λd=>([.row 9 .str (qF d.1.2.2.2.1)],.one (.c (.row 0))) }
abbrev ahI(vs:List VD) (ms cs:List ByteArray) (fs:List FD) (ts:List SD):Nat->Option (St->kD):=λk=>match k with
 | 3=>some λ_=>.inv { α:=Nat,slots:=λk=>[(9,.c (.v (.int .i64 k))),(3,.c (.row 1))],res:=λk=>[(1,.row 9 .str (qF (fs.take k)))],inv:=λk=>k<=(fs).length,meas:=λk=>(fs).length - k,nil:=[(3,9,.str)] }
 | _=>none
theorem ac2(vs:List VD) (ms cs:List ByteArray) (fs:List FD) (ts:List SD) (aF:Oj.pre ((vs,ms,cs,fs,ts,()),())):
 let z2:=[SC.sl Qk vs,SC.sl Sh.str ms,SC.sl Sh.str cs,SC.sl LU fs,SC.sl ji ts];let z1:=λ(x:Nat)=>[g0 (ak.blk 27 z2),g0 (ak.row 9 Sh.str (qF (List.take x fs)))];(∃x,x<=fs.length/\(cI 0=cI (x:Int)/\SV.c (SC.row (Nat.succ 0))=SV.c (SC.row 1)/\True)/\[g0 (ak.blk 27 z2),g0 (ak.row 9 Sh.str [])]=(z1 x))/\∀(x:Nat),x<=fs.length->br (decide ((x:Int) < (fs.length:Int))) ((0<=(x:Int)/\(x:Int) < (fs.length:Int))/\∀(d:ByteArray×(oV.sl.pair Sh.unit).den),fs[(x:Int).toNat]?=some d->mY (List.length (qF (List.take x fs))+List.length ([d.fst])) 16/\iR ((x:Int)+(1:Int))/\∃x',x'<=fs.length/\(cI ((x:Int)+(1:Int))=cI (x':Int)/\SV.c (SC.row 1)=SV.c (SC.row 1)/\True)/\[g0 (ak.blk 27 z2),g0 (ak.row 9 Sh.str (qF (List.take x fs)++[d.fst]))]=(z1 x')/\fs.length - x' < fs.length - x) ([ak.row 9 Sh.str (qF fs)]=[ak.row 9 Sh.str (qF (List.take x fs))]/\bF.one (SV.c (SC.row 0))=bF.one (SV.c (SC.row 0))):=by
 conv=>zeta
 delta cI g0 I6 iR;have hp:(fs).length<=1000000:=aF;refine⟨⟨0,by omega,⟨rfl,rfl,trivial⟩,rfl⟩,λk hk=>ah.2 ⟨λh=>?_,λh=>?_⟩⟩
 .simp only[eH]at h;refine⟨by omega,λd hd=>?_⟩
  have hd:(fs)[k]?=some d:=by simpa using hd
  have e:qF ((fs).take (k+1))=qF ((fs).take k)++[d.1]:=by
   unfold qF;rw[OW,hd];simp
  refine⟨?_,aC.2 (by omega),k+1,by omega,⟨rfl,rfl,trivial⟩,?_,by omega⟩
  .have:(qF ((fs).take k)).length<=1000000:=by simp[qF];omega
   exact dJ.2 (by simp only[y9,LP];omega)
  .rw[e]
 .simp only[iH]at h;rw[wo (by omega)];exact⟨rfl,rfl⟩
theorem Yt:aY aV.gd 185 Oj:=
 pz (cx:=aV) (n:=20) (cl:=[]) aB trivial Tryz.func185 λd hd=>by
  obtain⟨⟨vs,ms,cs,fs,ts,⟨⟩⟩,⟨⟩⟩:=d;exact⟨ahI vs ms cs fs ts,cast (by kernel_rfl) (ac2 vs ms cs fs ts hd)⟩
def ET(l:List ByteArray) (x:ByteArray):Int:=match l.findIdx? (λy=>decide (y=x)) with | some k=>(k:Int) | none=>-1
theorem Ol{l:List ByteArray}{x:ByteArray} (hd:l[k]?=some x) (hn:∀j < k,∀y,l[j]?=some y->y≠x):ET l x=k:=by
 have iV:k < l.length:=(fH.1 hd).1;have:l.findIdx? (λy=>decide (y=x))=some k:=by
  rw[A84];refine⟨iV,by have:=(fH.1 hd).2;simp[this],λj hj=>?_⟩
  have:=hn j hj l[j] (lY (by omega))
  simpa using this
 simp[ET,this]
theorem Ub{l:List ByteArray}{x:ByteArray} (hn:∀(j:Nat) y,l[j]?=some y->y≠x):ET l x = -1:=by
 have:l.findIdx? (λy=>decide (y=x))=none:=by
  rw[A92];intro y hy;obtain⟨j,hj⟩:=LK hy;simpa using hn j y hj
 simp[ET,this]
abbrev Om:CT:={ ps:=[.sl .str,.str],pre:=λd=>d.1.length<=1000000,res:=λd=>([],.one (.c (.v (.int .i64 (ET d.1 d.2.1))))) }
abbrev ahJ(l:List ByteArray) (x:ByteArray):Nat->Option (St->kD):=λk=>match k with
 | 2=>some λ_=>.inv { α:=Nat,slots:=λk=>[(8,.c (.v (.int .i64 k)))],res:=λk=>[],inv:=λk=>k<=(l).length/\∀j < k,∀y,l[j]?=some y->y≠x,meas:=λk=>(l).length - k }
 | _=>none
theorem ac3(l:List ByteArray) (x:ByteArray) (aF:Om.pre (l,x,())):
 let z1:=λ(x_1:Nat)=>(x_1<=l.length/\∀(j:Nat),j < x_1->∀(y:ByteArray),l[j]?=some y->y≠x);(∃x_1,(z1 x_1)/\(cI 0=cI (x_1:Int)/\True)/\([]:List fV)=[])/\∀(x_1:Nat),(z1 x_1)->br (decide ((x_1:Int) < (l.length:Int))) ((0<=(x_1:Int)/\(x_1:Int) < (l.length:Int))/\∀(d:ByteArray),l[(x_1:Int).toNat]?=some d->br (decide (x=d)) (qI (ET l x) (x_1:Int)) (iR ((x_1:Int)+(1:Int))/\∃x',(x'<=l.length/\∀(j:Nat),j < x'->∀(y:ByteArray),l[j]?=some y->y≠x)/\(cI ((x_1:Int)+(1:Int))=cI (x':Int)/\True)/\([]:List fV)=[]/\l.length - x' < l.length - x_1)) (qI (ET l x) (-1:Int)):=by
 conv=>zeta
 delta fV cI qI iR;refine⟨⟨0,⟨by omega,λj hj=>by omega⟩,⟨rfl,trivial⟩,rfl⟩,λk hk=>ah.2 ⟨λh=>?_,λh=>?_⟩⟩
 .simp only[eH]at h;have hp:l.length<=1000000:=aF;refine⟨by omega,λd hd=>?_⟩
  have hd:l[k]?=some d:=by simpa using hd
  refine ah.2 ⟨λhe=>?_,λhe=>⟨aC.2 (by omega),k+1,⟨by omega,λj hj y hy=>?_⟩,⟨rfl,trivial⟩,rfl,by omega⟩⟩
  .have he:x=d:=by simpa using he
   rw[Ol (by rw[hd,he]) hk.2];exact⟨rfl,rfl⟩
  .by_cases jh:j=k
   .subst jh;rw[hd]at hy;cases hy;intro hh;simp[hh]at he
   .exact hk.2 j (by omega) y hy
 .simp only[iH]at h;rw[Ub (λj y hy=>hk.2 j (by have:=(fH.1 hy).1;omega) y hy)];exact⟨rfl,rfl⟩
theorem Yu:aY aV.gd 215 Om:=
 pz (cx:=aV) (n:=19) (cl:=[]) aB trivial Tryz.func215 λd hd=>by
  obtain⟨l,x,⟨⟩⟩:=d;exact⟨ahJ l x,cast (by kernel_rfl) (ac3 l x hd)⟩
def yR(l:List ByteArray) (x:ByteArray):Bool:=l.any λy=>decide (y=x)
theorem Yv(l:List ByteArray) (x:ByteArray):yR l x=decide (0<=ET l x):=by
 have h:=List.findIdx?_isSome (xs:=l) (p:=λy=>decide (y=x))
 unfold yR ET;rw[<-h];cases l.findIdx? (λy=>decide (y=x)) with
 | none=>rfl
 | some k=>simp
abbrev Oo:CT:={ ps:=[.sl .str,.str],pre:=λd=>d.1.length<=1000000,res:=λd=>([],vB (yR d.1 d.2.1)) }
theorem ac4(l:List ByteArray) (x:ByteArray) (aF:Oo.pre (l,x,())):
 l.length<=1000000/\qB (yR l x) (decide (0<=ET l x)):=by
 delta qB;refine⟨aF,rfl,?_⟩;rw[Yv]
theorem Yw:aY aV.gd 209 Oo:=
 pz (cx:=aV) (n:=9) (cl:=[(215,Om)]) aB ⟨Yu,trivial⟩ Tryz.func209 λd hd=>by
  obtain⟨l,x,⟨⟩⟩:=d;exact⟨λ_=>none,cast (by kernel_rfl) (ac4 l x hd)⟩
end Go.Proofs.YtjhenjhcbcalpaaGreatDoor
