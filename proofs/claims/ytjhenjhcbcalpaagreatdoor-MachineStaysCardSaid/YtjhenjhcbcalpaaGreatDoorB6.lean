/- Part 6 of the proof. Conditions: the rows'. -/
import Derived.Test.YtjhenjhcbcalpaaGreatDoorB5
import Derived.Test.YtjhenjhcbcalpaaGreatDoorProg
import Derived.Shelf.Small.Bits
import Derived.Shelf.Strconv.Itoa0
import Derived.Shelf.Sort.Plain
import Derived.Shelf.Slices.Turned
import Derived.Shelf.Slices.Equal
import Derived.Ground.Names2Prog
import Derived.Shelf.Slices.Clone
import Derived.Shelf.Slices.CompactI
import Derived.Shelf.Slices.SearchI
import Derived.Shelf.Slices.Cells
import Derived.Shelf.Slices.In.SortNone
import Derived.Shelf.Slices.Empties2
import Derived.Ground.SlgnProg
import Derived.Shelf.SlicesE.Clone
set_option linter.unusedSimpArgs false
set_option linter.unusedVariables false
set_option maxRecDepth 1000000
set_option maxHeartbeats 8000000
namespace Go.Proofs.YtjhenjhcbcalpaaGreatDoor
open Go Go.ni
abbrev aW:=Go.ni.Met Tryz.prog
variable {l:List Int}
abbrev ti3:TI:={ desc:=.int .i64,size:=1,bytes:=8,zero:=[.int .i64 0],iQ:=some (.int .i64) }
theorem ajX:aK Tryz.prog 3 ti3:=aK.of_eq (by kernel_rfl) (by kernel_rfl) rfl rfl (aI (i:=ti3) (s0:=(.int .i64)) rfl rfl rfl rfl)
abbrev ti4:TI:={ desc:=.bool,size:=1,bytes:=1,zero:=[.bool false],iQ:=some .bool }
theorem ajY:aK Tryz.prog 4 ti4:=aK.of_eq (by kernel_rfl) (by kernel_rfl) rfl rfl (aI (i:=ti4) (s0:=.bool) rfl rfl rfl rfl)
abbrev ti5:TI:={ desc:=.int .u8,size:=1,bytes:=1,zero:=[.int .u8 0],iQ:=some (.int .u8) }
theorem ajZ:aK Tryz.prog 5 ti5:=aK.of_eq (by kernel_rfl) (by kernel_rfl) rfl rfl (aI (i:=ti5) (s0:=(.int .u8)) rfl rfl rfl rfl)
abbrev ti9:TI:={ desc:=.string,size:=1,bytes:=16,zero:=[.string ⟨#[]⟩],iQ:=some .str }
theorem aj0:aK Tryz.prog 9 ti9:=aK.of_eq (by kernel_rfl) (by kernel_rfl) rfl rfl (aI (i:=ti9) (s0:=.str) rfl rfl rfl rfl)
abbrev aj1:TI:={ desc:=.int .i32,size:=1,bytes:=4,zero:=[.int .i32 0],iQ:=some (.int .i32) }
theorem aeF:aK Tryz.prog 21 aj1:=aK.of_eq (by kernel_rfl) (by kernel_rfl) rfl rfl (aI (i:=aj1) (s0:=(.int .i32)) rfl rfl rfl rfl)
abbrev aj2:TI:={ desc:=.slice 118,size:=1,bytes:=24,zero:=[.slice none 0 0],iQ:=some (.sl (.pair .str (.pair (.int .i64) .unit))) }
theorem aeG:aK Tryz.prog 22 aj2:=aK.of_eq (by kernel_rfl) (by kernel_rfl) rfl rfl (aI (i:=aj2) (s0:=(.sl (.pair .str (.pair (.int .i64) .unit)))) rfl rfl rfl rfl)
abbrev aj3:TI:={ desc:=.slice 9,size:=1,bytes:=24,zero:=[.slice none 0 0],iQ:=some (.sl .str) }
theorem aeH:aK Tryz.prog 23 aj3:=aK.of_eq (by kernel_rfl) (by kernel_rfl) rfl rfl (aI (i:=aj3) (s0:=(.sl .str)) rfl rfl rfl rfl)
abbrev aj6:TI:={ desc:=.slice 77,size:=1,bytes:=24,zero:=[.slice none 0 0],iQ:=some (.sl (.pair .str (.pair (.sl (.pair (.int .i64) (.pair (.int .i64) (.pair (.int .i64) (.pair (.int .i64) (.pair (.int .i64) (.pair (.int .i64) (.pair (.int .i64) (.pair (.int .i64) .unit))))))))) .unit))) }
theorem aeI:aK Tryz.prog 24 aj6:=aK.of_eq (by kernel_rfl) (by kernel_rfl) rfl rfl (aI (i:=aj6) (s0:=(.sl (.pair .str (.pair (.sl (.pair (.int .i64) (.pair (.int .i64) (.pair (.int .i64) (.pair (.int .i64) (.pair (.int .i64) (.pair (.int .i64) (.pair (.int .i64) (.pair (.int .i64) .unit))))))))) .unit)))) rfl rfl rfl rfl)
abbrev aj7:TI:={ desc:=.slice 82,size:=1,bytes:=24,zero:=[.slice none 0 0],iQ:=some (.sl (.pair (.int .i64) (.pair (.int .i64) .unit))) }
theorem aeJ:aK Tryz.prog 25 aj7:=aK.of_eq (by kernel_rfl) (by kernel_rfl) rfl rfl (aI (i:=aj7) (s0:=(.sl (.pair (.int .i64) (.pair (.int .i64) .unit)))) rfl rfl rfl rfl)
abbrev aj8:TI:={ desc:=.struct #[dN 22 0,dN 23 1,dN 23 2,dN 24 3,dN 25 4],size:=5,bytes:=120,zero:=[.slice none 0 0,.slice none 0 0,.slice none 0 0,.slice none 0 0,.slice none 0 0],iQ:=some (.pair (.sl (.pair .str (.pair (.int .i64) .unit))) (.pair (.sl .str) (.pair (.sl .str) (.pair (.sl (.pair .str (.pair (.sl (.pair (.int .i64) (.pair (.int .i64) (.pair (.int .i64) (.pair (.int .i64) (.pair (.int .i64) (.pair (.int .i64) (.pair (.int .i64) (.pair (.int .i64) .unit))))))))) .unit))) (.pair (.sl (.pair (.int .i64) (.pair (.int .i64) .unit))) .unit))))) }
theorem aeK:aK Tryz.prog 26 aj8:=aK.of_eq (by kernel_rfl) (by kernel_rfl) rfl rfl (aI (i:=aj8) (s0:=(.pair (.sl (.pair .str (.pair (.int .i64) .unit))) (.pair (.sl .str) (.pair (.sl .str) (.pair (.sl (.pair .str (.pair (.sl (.pair (.int .i64) (.pair (.int .i64) (.pair (.int .i64) (.pair (.int .i64) (.pair (.int .i64) (.pair (.int .i64) (.pair (.int .i64) (.pair (.int .i64) .unit))))))))) .unit))) (.pair (.sl (.pair (.int .i64) (.pair (.int .i64) .unit))) .unit)))))) rfl rfl rfl rfl)
abbrev aj9:TI:={ desc:=.struct #[dN 22 0,dN 23 1,dN 23 2,dN 24 3,dN 25 4],size:=5,bytes:=120,zero:=[.slice none 0 0,.slice none 0 0,.slice none 0 0,.slice none 0 0,.slice none 0 0],iQ:=some (.pair (.sl (.pair .str (.pair (.int .i64) .unit))) (.pair (.sl .str) (.pair (.sl .str) (.pair (.sl (.pair .str (.pair (.sl (.pair (.int .i64) (.pair (.int .i64) (.pair (.int .i64) (.pair (.int .i64) (.pair (.int .i64) (.pair (.int .i64) (.pair (.int .i64) (.pair (.int .i64) .unit))))))))) .unit))) (.pair (.sl (.pair (.int .i64) (.pair (.int .i64) .unit))) .unit))))) }
theorem aeL:aK Tryz.prog 27 aj9:=aK.of_eq (by kernel_rfl) (by kernel_rfl) rfl rfl (aI (i:=aj9) (s0:=(.pair (.sl (.pair .str (.pair (.int .i64) .unit))) (.pair (.sl .str) (.pair (.sl .str) (.pair (.sl (.pair .str (.pair (.sl (.pair (.int .i64) (.pair (.int .i64) (.pair (.int .i64) (.pair (.int .i64) (.pair (.int .i64) (.pair (.int .i64) (.pair (.int .i64) (.pair (.int .i64) .unit))))))))) .unit))) (.pair (.sl (.pair (.int .i64) (.pair (.int .i64) .unit))) .unit)))))) rfl rfl rfl rfl)
abbrev akb:TI:={ desc:=.slice 56,size:=1,bytes:=24,zero:=[.slice none 0 0],iQ:=some (.sl (.pair (.int .i64) (.pair (.int .i64) (.pair (.int .i64) (.pair (.arr 8 (.int .i64)) (.pair (.int .i64) (.pair (.int .i64) (.pair (.int .i64) (.pair (.int .i64) (.pair (.int .i64) (.pair (.sl (.int .i64)) .unit))))))))))) }
theorem aeM:aK Tryz.prog 30 akb:=aK.of_eq (by kernel_rfl) (by kernel_rfl) rfl rfl (aI (i:=akb) (s0:=(.sl (.pair (.int .i64) (.pair (.int .i64) (.pair (.int .i64) (.pair (.arr 8 (.int .i64)) (.pair (.int .i64) (.pair (.int .i64) (.pair (.int .i64) (.pair (.int .i64) (.pair (.int .i64) (.pair (.sl (.int .i64)) .unit)))))))))))) rfl rfl rfl rfl)
abbrev akc:TI:={ desc:=.slice 3,size:=1,bytes:=24,zero:=[.slice none 0 0],iQ:=some (.sl (.int .i64)) }
theorem aeN:aK Tryz.prog 31 akc:=aK.of_eq (by kernel_rfl) (by kernel_rfl) rfl rfl (aI (i:=akc) (s0:=(.sl (.int .i64))) rfl rfl rfl rfl)
abbrev akd:TI:={ desc:=.slice 31,size:=1,bytes:=24,zero:=[.slice none 0 0],iQ:=some (.sl (.sl (.int .i64))) }
theorem aeO:aK Tryz.prog 32 akd:=aK.of_eq (by kernel_rfl) (by kernel_rfl) rfl rfl (aI (i:=akd) (s0:=(.sl (.sl (.int .i64)))) rfl rfl rfl rfl)
abbrev ake:TI:={ desc:=.struct #[dN 31 0,dN 31 1,dN 32 2,dN 31 3],size:=4,bytes:=96,zero:=[.slice none 0 0,.slice none 0 0,.slice none 0 0,.slice none 0 0],iQ:=some (.pair (.sl (.int .i64)) (.pair (.sl (.int .i64)) (.pair (.sl (.sl (.int .i64))) (.pair (.sl (.int .i64)) .unit)))) }
theorem aeP:aK Tryz.prog 33 ake:=aK.of_eq (by kernel_rfl) (by kernel_rfl) rfl rfl (aI (i:=ake) (s0:=(.pair (.sl (.int .i64)) (.pair (.sl (.int .i64)) (.pair (.sl (.sl (.int .i64))) (.pair (.sl (.int .i64)) .unit))))) rfl rfl rfl rfl)
abbrev akf:TI:={ desc:=.struct #[dN 31 0,dN 31 1,dN 32 2,dN 31 3],size:=4,bytes:=96,zero:=[.slice none 0 0,.slice none 0 0,.slice none 0 0,.slice none 0 0],iQ:=some (.pair (.sl (.int .i64)) (.pair (.sl (.int .i64)) (.pair (.sl (.sl (.int .i64))) (.pair (.sl (.int .i64)) .unit)))) }
theorem aeQ:aK Tryz.prog 34 akf:=aK.of_eq (by kernel_rfl) (by kernel_rfl) rfl rfl (aI (i:=akf) (s0:=(.pair (.sl (.int .i64)) (.pair (.sl (.int .i64)) (.pair (.sl (.sl (.int .i64))) (.pair (.sl (.int .i64)) .unit))))) rfl rfl rfl rfl)
abbrev akg:TI:={ desc:=.slice 65,size:=1,bytes:=24,zero:=[.slice none 0 0],iQ:=some (.sl (.pair (.int .i64) (.pair (.int .i64) (.pair (.sl (.pair (.int .i64) (.pair (.int .i64) .unit))) .unit)))) }
theorem aeR:aK Tryz.prog 35 akg:=aK.of_eq (by kernel_rfl) (by kernel_rfl) rfl rfl (aI (i:=akg) (s0:=(.sl (.pair (.int .i64) (.pair (.int .i64) (.pair (.sl (.pair (.int .i64) (.pair (.int .i64) .unit))) .unit))))) rfl rfl rfl rfl)
abbrev akh:TI:={ desc:=.struct #[dN 30 0,dN 34 1,dN 35 5],size:=6,bytes:=144,zero:=[.slice none 0 0,.slice none 0 0,.slice none 0 0,.slice none 0 0,.slice none 0 0,.slice none 0 0],iQ:=some (.pair (.sl (.pair (.int .i64) (.pair (.int .i64) (.pair (.int .i64) (.pair (.arr 8 (.int .i64)) (.pair (.int .i64) (.pair (.int .i64) (.pair (.int .i64) (.pair (.int .i64) (.pair (.int .i64) (.pair (.sl (.int .i64)) .unit))))))))))) (.pair (.pair (.sl (.int .i64)) (.pair (.sl (.int .i64)) (.pair (.sl (.sl (.int .i64))) (.pair (.sl (.int .i64)) .unit)))) (.pair (.sl (.pair (.int .i64) (.pair (.int .i64) (.pair (.sl (.pair (.int .i64) (.pair (.int .i64) .unit))) .unit)))) .unit))) }
theorem aeS:aK Tryz.prog 36 akh:=aK.of_eq (by kernel_rfl) (by kernel_rfl) rfl rfl (aI (i:=akh) (s0:=(.pair (.sl (.pair (.int .i64) (.pair (.int .i64) (.pair (.int .i64) (.pair (.arr 8 (.int .i64)) (.pair (.int .i64) (.pair (.int .i64) (.pair (.int .i64) (.pair (.int .i64) (.pair (.int .i64) (.pair (.sl (.int .i64)) .unit))))))))))) (.pair (.pair (.sl (.int .i64)) (.pair (.sl (.int .i64)) (.pair (.sl (.sl (.int .i64))) (.pair (.sl (.int .i64)) .unit)))) (.pair (.sl (.pair (.int .i64) (.pair (.int .i64) (.pair (.sl (.pair (.int .i64) (.pair (.int .i64) .unit))) .unit)))) .unit)))) rfl rfl rfl rfl)
abbrev aki:TI:={ desc:=.struct #[dN 30 0,dN 34 1,dN 35 5],size:=6,bytes:=144,zero:=[.slice none 0 0,.slice none 0 0,.slice none 0 0,.slice none 0 0,.slice none 0 0,.slice none 0 0],iQ:=some (.pair (.sl (.pair (.int .i64) (.pair (.int .i64) (.pair (.int .i64) (.pair (.arr 8 (.int .i64)) (.pair (.int .i64) (.pair (.int .i64) (.pair (.int .i64) (.pair (.int .i64) (.pair (.int .i64) (.pair (.sl (.int .i64)) .unit))))))))))) (.pair (.pair (.sl (.int .i64)) (.pair (.sl (.int .i64)) (.pair (.sl (.sl (.int .i64))) (.pair (.sl (.int .i64)) .unit)))) (.pair (.sl (.pair (.int .i64) (.pair (.int .i64) (.pair (.sl (.pair (.int .i64) (.pair (.int .i64) .unit))) .unit)))) .unit))) }
theorem aeT:aK Tryz.prog 37 aki:=aK.of_eq (by kernel_rfl) (by kernel_rfl) rfl rfl (aI (i:=aki) (s0:=(.pair (.sl (.pair (.int .i64) (.pair (.int .i64) (.pair (.int .i64) (.pair (.arr 8 (.int .i64)) (.pair (.int .i64) (.pair (.int .i64) (.pair (.int .i64) (.pair (.int .i64) (.pair (.int .i64) (.pair (.sl (.int .i64)) .unit))))))))))) (.pair (.pair (.sl (.int .i64)) (.pair (.sl (.int .i64)) (.pair (.sl (.sl (.int .i64))) (.pair (.sl (.int .i64)) .unit)))) (.pair (.sl (.pair (.int .i64) (.pair (.int .i64) (.pair (.sl (.pair (.int .i64) (.pair (.int .i64) .unit))) .unit)))) .unit)))) rfl rfl rfl rfl)
abbrev akj:TI:={ desc:=.int .i64,size:=1,bytes:=8,zero:=[.int .i64 0],iQ:=some (.int .i64) }
theorem aeU:aK Tryz.prog 38 akj:=aK.of_eq (by kernel_rfl) (by kernel_rfl) rfl rfl (aI (i:=akj) (s0:=(.int .i64)) rfl rfl rfl rfl)
abbrev akk:TI:={ desc:=.struct #[dN 27 0,dN 3 5,dN 3 6,dN 37 7],size:=13,bytes:=280,zero:=[.slice none 0 0,.slice none 0 0,.slice none 0 0,.slice none 0 0,.slice none 0 0,.int .i64 0,.int .i64 0,.slice none 0 0,.slice none 0 0,.slice none 0 0,.slice none 0 0,.slice none 0 0,.slice none 0 0],iQ:=some (.pair (.pair (.sl (.pair .str (.pair (.int .i64) .unit))) (.pair (.sl .str) (.pair (.sl .str) (.pair (.sl (.pair .str (.pair (.sl (.pair (.int .i64) (.pair (.int .i64) (.pair (.int .i64) (.pair (.int .i64) (.pair (.int .i64) (.pair (.int .i64) (.pair (.int .i64) (.pair (.int .i64) .unit))))))))) .unit))) (.pair (.sl (.pair (.int .i64) (.pair (.int .i64) .unit))) .unit))))) (.pair (.int .i64) (.pair (.int .i64) (.pair (.pair (.sl (.pair (.int .i64) (.pair (.int .i64) (.pair (.int .i64) (.pair (.arr 8 (.int .i64)) (.pair (.int .i64) (.pair (.int .i64) (.pair (.int .i64) (.pair (.int .i64) (.pair (.int .i64) (.pair (.sl (.int .i64)) .unit))))))))))) (.pair (.pair (.sl (.int .i64)) (.pair (.sl (.int .i64)) (.pair (.sl (.sl (.int .i64))) (.pair (.sl (.int .i64)) .unit)))) (.pair (.sl (.pair (.int .i64) (.pair (.int .i64) (.pair (.sl (.pair (.int .i64) (.pair (.int .i64) .unit))) .unit)))) .unit))) .unit)))) }
theorem aeV:aK Tryz.prog 43 akk:=aK.of_eq (by kernel_rfl) (by kernel_rfl) rfl rfl (aI (i:=akk) (s0:=(.pair (.pair (.sl (.pair .str (.pair (.int .i64) .unit))) (.pair (.sl .str) (.pair (.sl .str) (.pair (.sl (.pair .str (.pair (.sl (.pair (.int .i64) (.pair (.int .i64) (.pair (.int .i64) (.pair (.int .i64) (.pair (.int .i64) (.pair (.int .i64) (.pair (.int .i64) (.pair (.int .i64) .unit))))))))) .unit))) (.pair (.sl (.pair (.int .i64) (.pair (.int .i64) .unit))) .unit))))) (.pair (.int .i64) (.pair (.int .i64) (.pair (.pair (.sl (.pair (.int .i64) (.pair (.int .i64) (.pair (.int .i64) (.pair (.arr 8 (.int .i64)) (.pair (.int .i64) (.pair (.int .i64) (.pair (.int .i64) (.pair (.int .i64) (.pair (.int .i64) (.pair (.sl (.int .i64)) .unit))))))))))) (.pair (.pair (.sl (.int .i64)) (.pair (.sl (.int .i64)) (.pair (.sl (.sl (.int .i64))) (.pair (.sl (.int .i64)) .unit)))) (.pair (.sl (.pair (.int .i64) (.pair (.int .i64) (.pair (.sl (.pair (.int .i64) (.pair (.int .i64) .unit))) .unit)))) .unit))) .unit))))) rfl rfl rfl rfl)
abbrev akl:TI:={ desc:=.struct #[dN 27 0,dN 3 5,dN 3 6,dN 37 7],size:=13,bytes:=280,zero:=[.slice none 0 0,.slice none 0 0,.slice none 0 0,.slice none 0 0,.slice none 0 0,.int .i64 0,.int .i64 0,.slice none 0 0,.slice none 0 0,.slice none 0 0,.slice none 0 0,.slice none 0 0,.slice none 0 0],iQ:=some (.pair (.pair (.sl (.pair .str (.pair (.int .i64) .unit))) (.pair (.sl .str) (.pair (.sl .str) (.pair (.sl (.pair .str (.pair (.sl (.pair (.int .i64) (.pair (.int .i64) (.pair (.int .i64) (.pair (.int .i64) (.pair (.int .i64) (.pair (.int .i64) (.pair (.int .i64) (.pair (.int .i64) .unit))))))))) .unit))) (.pair (.sl (.pair (.int .i64) (.pair (.int .i64) .unit))) .unit))))) (.pair (.int .i64) (.pair (.int .i64) (.pair (.pair (.sl (.pair (.int .i64) (.pair (.int .i64) (.pair (.int .i64) (.pair (.arr 8 (.int .i64)) (.pair (.int .i64) (.pair (.int .i64) (.pair (.int .i64) (.pair (.int .i64) (.pair (.int .i64) (.pair (.sl (.int .i64)) .unit))))))))))) (.pair (.pair (.sl (.int .i64)) (.pair (.sl (.int .i64)) (.pair (.sl (.sl (.int .i64))) (.pair (.sl (.int .i64)) .unit)))) (.pair (.sl (.pair (.int .i64) (.pair (.int .i64) (.pair (.sl (.pair (.int .i64) (.pair (.int .i64) .unit))) .unit)))) .unit))) .unit)))) }
theorem aeW:aK Tryz.prog 44 akl:=aK.of_eq (by kernel_rfl) (by kernel_rfl) rfl rfl (aI (i:=akl) (s0:=(.pair (.pair (.sl (.pair .str (.pair (.int .i64) .unit))) (.pair (.sl .str) (.pair (.sl .str) (.pair (.sl (.pair .str (.pair (.sl (.pair (.int .i64) (.pair (.int .i64) (.pair (.int .i64) (.pair (.int .i64) (.pair (.int .i64) (.pair (.int .i64) (.pair (.int .i64) (.pair (.int .i64) .unit))))))))) .unit))) (.pair (.sl (.pair (.int .i64) (.pair (.int .i64) .unit))) .unit))))) (.pair (.int .i64) (.pair (.int .i64) (.pair (.pair (.sl (.pair (.int .i64) (.pair (.int .i64) (.pair (.int .i64) (.pair (.arr 8 (.int .i64)) (.pair (.int .i64) (.pair (.int .i64) (.pair (.int .i64) (.pair (.int .i64) (.pair (.int .i64) (.pair (.sl (.int .i64)) .unit))))))))))) (.pair (.pair (.sl (.int .i64)) (.pair (.sl (.int .i64)) (.pair (.sl (.sl (.int .i64))) (.pair (.sl (.int .i64)) .unit)))) (.pair (.sl (.pair (.int .i64) (.pair (.int .i64) (.pair (.sl (.pair (.int .i64) (.pair (.int .i64) .unit))) .unit)))) .unit))) .unit))))) rfl rfl rfl rfl)
abbrev akm:TI:={ desc:=.int .i64,size:=1,bytes:=8,zero:=[.int .i64 0],iQ:=some (.int .i64) }
theorem aeX:aK Tryz.prog 46 akm:=aK.of_eq (by kernel_rfl) (by kernel_rfl) rfl rfl (aI (i:=akm) (s0:=(.int .i64)) rfl rfl rfl rfl)
abbrev akn:TI:={ desc:=.int .i64,size:=1,bytes:=8,zero:=[.int .i64 0],iQ:=some (.int .i64) }
theorem aeY:aK Tryz.prog 47 akn:=aK.of_eq (by kernel_rfl) (by kernel_rfl) rfl rfl (aI (i:=akn) (s0:=(.int .i64)) rfl rfl rfl rfl)
abbrev ako:TI:={ desc:=.struct #[dN 3 0,dN 3 1,dN 46 2,dN 3 3,dN 3 4,dN 3 5,dN 47 6,dN 3 7,dN 3 8],size:=9,bytes:=72,zero:=[.int .i64 0,.int .i64 0,.int .i64 0,.int .i64 0,.int .i64 0,.int .i64 0,.int .i64 0,.int .i64 0,.int .i64 0],iQ:=some (.pair (.int .i64) (.pair (.int .i64) (.pair (.int .i64) (.pair (.int .i64) (.pair (.int .i64) (.pair (.int .i64) (.pair (.int .i64) (.pair (.int .i64) (.pair (.int .i64) .unit))))))))),Bz:=[.i,.i,.i,.i,.i,.i,.i,.i,.i] }
theorem aeZ:aK Tryz.prog 48 ako:=aK.of_eq (by kernel_rfl) (by kernel_rfl) rfl rfl (aI (i:=ako) (s0:=(.pair (.int .i64) (.pair (.int .i64) (.pair (.int .i64) (.pair (.int .i64) (.pair (.int .i64) (.pair (.int .i64) (.pair (.int .i64) (.pair (.int .i64) (.pair (.int .i64) .unit)))))))))) rfl rfl rfl rfl) (λ_=>by kernel_rfl)
abbrev akp:TI:={ desc:=.struct #[dN 3 0,dN 3 1,dN 46 2,dN 3 3,dN 3 4,dN 3 5,dN 47 6,dN 3 7,dN 3 8],size:=9,bytes:=72,zero:=[.int .i64 0,.int .i64 0,.int .i64 0,.int .i64 0,.int .i64 0,.int .i64 0,.int .i64 0,.int .i64 0,.int .i64 0],iQ:=some (.pair (.int .i64) (.pair (.int .i64) (.pair (.int .i64) (.pair (.int .i64) (.pair (.int .i64) (.pair (.int .i64) (.pair (.int .i64) (.pair (.int .i64) (.pair (.int .i64) .unit))))))))),Bz:=[.i,.i,.i,.i,.i,.i,.i,.i,.i] }
theorem ae0:aK Tryz.prog 49 akp:=aK.of_eq (by kernel_rfl) (by kernel_rfl) rfl rfl (aI (i:=akp) (s0:=(.pair (.int .i64) (.pair (.int .i64) (.pair (.int .i64) (.pair (.int .i64) (.pair (.int .i64) (.pair (.int .i64) (.pair (.int .i64) (.pair (.int .i64) (.pair (.int .i64) .unit)))))))))) rfl rfl rfl rfl) (λ_=>by kernel_rfl)
abbrev akq:TI:={ desc:=.array 8 3,size:=8,bytes:=64,zero:=[.int .i64 0,.int .i64 0,.int .i64 0,.int .i64 0,.int .i64 0,.int .i64 0,.int .i64 0,.int .i64 0],iQ:=some (.arr 8 (.int .i64)),Bz:=[.i] }
theorem ae1:aK Tryz.prog 52 akq:=aK.of_eq (by kernel_rfl) (by kernel_rfl) rfl rfl (aI (i:=akq) (s0:=(.arr 8 (.int .i64))) rfl rfl rfl rfl) (λ_=>by kernel_rfl)
abbrev akr:TI:={ desc:=.int .i64,size:=1,bytes:=8,zero:=[.int .i64 0],iQ:=some (.int .i64) }
theorem ae2:aK Tryz.prog 53 akr:=aK.of_eq (by kernel_rfl) (by kernel_rfl) rfl rfl (aI (i:=akr) (s0:=(.int .i64)) rfl rfl rfl rfl)
abbrev aks:TI:={ desc:=.int .i64,size:=1,bytes:=8,zero:=[.int .i64 0],iQ:=some (.int .i64) }
theorem ae3:aK Tryz.prog 54 aks:=aK.of_eq (by kernel_rfl) (by kernel_rfl) rfl rfl (aI (i:=aks) (s0:=(.int .i64)) rfl rfl rfl rfl)
abbrev akt:TI:={ desc:=.struct #[dN 3 0,dN 3 1,dN 3 2,dN 52 3,dN 3 11,dN 3 12,dN 53 13,dN 54 14,dN 38 15,dN 31 16],size:=17,bytes:=152,zero:=[.int .i64 0,.int .i64 0,.int .i64 0,.int .i64 0,.int .i64 0,.int .i64 0,.int .i64 0,.int .i64 0,.int .i64 0,.int .i64 0,.int .i64 0,.int .i64 0,.int .i64 0,.int .i64 0,.int .i64 0,.int .i64 0,.slice none 0 0],iQ:=some (.pair (.int .i64) (.pair (.int .i64) (.pair (.int .i64) (.pair (.arr 8 (.int .i64)) (.pair (.int .i64) (.pair (.int .i64) (.pair (.int .i64) (.pair (.int .i64) (.pair (.int .i64) (.pair (.sl (.int .i64)) .unit)))))))))) }
theorem ae4:aK Tryz.prog 55 akt:=aK.of_eq (by kernel_rfl) (by kernel_rfl) rfl rfl (aI (i:=akt) (s0:=(.pair (.int .i64) (.pair (.int .i64) (.pair (.int .i64) (.pair (.arr 8 (.int .i64)) (.pair (.int .i64) (.pair (.int .i64) (.pair (.int .i64) (.pair (.int .i64) (.pair (.int .i64) (.pair (.sl (.int .i64)) .unit))))))))))) rfl rfl rfl rfl)
abbrev aku:TI:={ desc:=.struct #[dN 3 0,dN 3 1,dN 3 2,dN 52 3,dN 3 11,dN 3 12,dN 53 13,dN 54 14,dN 38 15,dN 31 16],size:=17,bytes:=152,zero:=[.int .i64 0,.int .i64 0,.int .i64 0,.int .i64 0,.int .i64 0,.int .i64 0,.int .i64 0,.int .i64 0,.int .i64 0,.int .i64 0,.int .i64 0,.int .i64 0,.int .i64 0,.int .i64 0,.int .i64 0,.int .i64 0,.slice none 0 0],iQ:=some (.pair (.int .i64) (.pair (.int .i64) (.pair (.int .i64) (.pair (.arr 8 (.int .i64)) (.pair (.int .i64) (.pair (.int .i64) (.pair (.int .i64) (.pair (.int .i64) (.pair (.int .i64) (.pair (.sl (.int .i64)) .unit)))))))))) }
theorem ae5:aK Tryz.prog 56 aku:=aK.of_eq (by kernel_rfl) (by kernel_rfl) rfl rfl (aI (i:=aku) (s0:=(.pair (.int .i64) (.pair (.int .i64) (.pair (.int .i64) (.pair (.arr 8 (.int .i64)) (.pair (.int .i64) (.pair (.int .i64) (.pair (.int .i64) (.pair (.int .i64) (.pair (.int .i64) (.pair (.sl (.int .i64)) .unit))))))))))) rfl rfl rfl rfl)
abbrev akv:TI:={ desc:=.slice 67,size:=1,bytes:=24,zero:=[.slice none 0 0],iQ:=some (.sl (.pair (.int .i64) (.pair (.int .i64) .unit))) }
theorem ae6:aK Tryz.prog 63 akv:=aK.of_eq (by kernel_rfl) (by kernel_rfl) rfl rfl (aI (i:=akv) (s0:=(.sl (.pair (.int .i64) (.pair (.int .i64) .unit)))) rfl rfl rfl rfl)
abbrev akw:TI:={ desc:=.struct #[dN 3 0,dN 3 1,dN 63 2],size:=3,bytes:=40,zero:=[.int .i64 0,.int .i64 0,.slice none 0 0],iQ:=some (.pair (.int .i64) (.pair (.int .i64) (.pair (.sl (.pair (.int .i64) (.pair (.int .i64) .unit))) .unit))) }
theorem ae7:aK Tryz.prog 64 akw:=aK.of_eq (by kernel_rfl) (by kernel_rfl) rfl rfl (aI (i:=akw) (s0:=(.pair (.int .i64) (.pair (.int .i64) (.pair (.sl (.pair (.int .i64) (.pair (.int .i64) .unit))) .unit)))) rfl rfl rfl rfl)
abbrev akx:TI:={ desc:=.struct #[dN 3 0,dN 3 1,dN 63 2],size:=3,bytes:=40,zero:=[.int .i64 0,.int .i64 0,.slice none 0 0],iQ:=some (.pair (.int .i64) (.pair (.int .i64) (.pair (.sl (.pair (.int .i64) (.pair (.int .i64) .unit))) .unit))) }
theorem ae8:aK Tryz.prog 65 akx:=aK.of_eq (by kernel_rfl) (by kernel_rfl) rfl rfl (aI (i:=akx) (s0:=(.pair (.int .i64) (.pair (.int .i64) (.pair (.sl (.pair (.int .i64) (.pair (.int .i64) .unit))) .unit)))) rfl rfl rfl rfl)
abbrev aky:TI:={ desc:=.struct #[dN 3 0,dN 3 1],size:=2,bytes:=16,zero:=[.int .i64 0,.int .i64 0],iQ:=some (.pair (.int .i64) (.pair (.int .i64) .unit)),Bz:=[.i,.i] }
theorem ae9:aK Tryz.prog 66 aky:=aK.of_eq (by kernel_rfl) (by kernel_rfl) rfl rfl (aI (i:=aky) (s0:=(.pair (.int .i64) (.pair (.int .i64) .unit))) rfl rfl rfl rfl) (λ_=>by kernel_rfl)
abbrev akz:TI:={ desc:=.struct #[dN 3 0,dN 3 1],size:=2,bytes:=16,zero:=[.int .i64 0,.int .i64 0],iQ:=some (.pair (.int .i64) (.pair (.int .i64) .unit)),Bz:=[.i,.i] }
theorem afa:aK Tryz.prog 67 akz:=aK.of_eq (by kernel_rfl) (by kernel_rfl) rfl rfl (aI (i:=akz) (s0:=(.pair (.int .i64) (.pair (.int .i64) .unit))) rfl rfl rfl rfl) (λ_=>by kernel_rfl)
abbrev akA:TI:={ desc:=.slice 91,size:=1,bytes:=24,zero:=[.slice none 0 0],iQ:=some (.sl (.pair (.int .i64) (.pair (.int .i64) (.pair (.int .i64) (.pair (.int .i64) (.pair (.int .i64) (.pair (.int .i64) (.pair (.int .i64) (.pair (.int .i64) .unit))))))))) }
theorem afb:aK Tryz.prog 75 akA:=aK.of_eq (by kernel_rfl) (by kernel_rfl) rfl rfl (aI (i:=akA) (s0:=(.sl (.pair (.int .i64) (.pair (.int .i64) (.pair (.int .i64) (.pair (.int .i64) (.pair (.int .i64) (.pair (.int .i64) (.pair (.int .i64) (.pair (.int .i64) .unit)))))))))) rfl rfl rfl rfl)
abbrev akB:TI:={ desc:=.struct #[dN 9 0,dN 75 1],size:=2,bytes:=40,zero:=[.string ⟨#[]⟩,.slice none 0 0],iQ:=some (.pair .str (.pair (.sl (.pair (.int .i64) (.pair (.int .i64) (.pair (.int .i64) (.pair (.int .i64) (.pair (.int .i64) (.pair (.int .i64) (.pair (.int .i64) (.pair (.int .i64) .unit))))))))) .unit)) }
theorem afc:aK Tryz.prog 76 akB:=aK.of_eq (by kernel_rfl) (by kernel_rfl) rfl rfl (aI (i:=akB) (s0:=(.pair .str (.pair (.sl (.pair (.int .i64) (.pair (.int .i64) (.pair (.int .i64) (.pair (.int .i64) (.pair (.int .i64) (.pair (.int .i64) (.pair (.int .i64) (.pair (.int .i64) .unit))))))))) .unit))) rfl rfl rfl rfl)
abbrev akC:TI:={ desc:=.struct #[dN 9 0,dN 75 1],size:=2,bytes:=40,zero:=[.string ⟨#[]⟩,.slice none 0 0],iQ:=some (.pair .str (.pair (.sl (.pair (.int .i64) (.pair (.int .i64) (.pair (.int .i64) (.pair (.int .i64) (.pair (.int .i64) (.pair (.int .i64) (.pair (.int .i64) (.pair (.int .i64) .unit))))))))) .unit)) }
theorem afd:aK Tryz.prog 77 akC:=aK.of_eq (by kernel_rfl) (by kernel_rfl) rfl rfl (aI (i:=akC) (s0:=(.pair .str (.pair (.sl (.pair (.int .i64) (.pair (.int .i64) (.pair (.int .i64) (.pair (.int .i64) (.pair (.int .i64) (.pair (.int .i64) (.pair (.int .i64) (.pair (.int .i64) .unit))))))))) .unit))) rfl rfl rfl rfl)
abbrev akD:TI:={ desc:=.struct #[dN 3 0,dN 3 1],size:=2,bytes:=16,zero:=[.int .i64 0,.int .i64 0],iQ:=some (.pair (.int .i64) (.pair (.int .i64) .unit)),Bz:=[.i,.i] }
theorem afe:aK Tryz.prog 81 akD:=aK.of_eq (by kernel_rfl) (by kernel_rfl) rfl rfl (aI (i:=akD) (s0:=(.pair (.int .i64) (.pair (.int .i64) .unit))) rfl rfl rfl rfl) (λ_=>by kernel_rfl)
abbrev akE:TI:={ desc:=.struct #[dN 3 0,dN 3 1],size:=2,bytes:=16,zero:=[.int .i64 0,.int .i64 0],iQ:=some (.pair (.int .i64) (.pair (.int .i64) .unit)),Bz:=[.i,.i] }
theorem aff:aK Tryz.prog 82 akE:=aK.of_eq (by kernel_rfl) (by kernel_rfl) rfl rfl (aI (i:=akE) (s0:=(.pair (.int .i64) (.pair (.int .i64) .unit))) rfl rfl rfl rfl) (λ_=>by kernel_rfl)
abbrev akF:TI:={ desc:=.int .i64,size:=1,bytes:=8,zero:=[.int .i64 0],iQ:=some (.int .i64) }
theorem afg:aK Tryz.prog 88 akF:=aK.of_eq (by kernel_rfl) (by kernel_rfl) rfl rfl (aI (i:=akF) (s0:=(.int .i64)) rfl rfl rfl rfl)
abbrev akG:TI:={ desc:=.int .i64,size:=1,bytes:=8,zero:=[.int .i64 0],iQ:=some (.int .i64) }
theorem afh:aK Tryz.prog 89 akG:=aK.of_eq (by kernel_rfl) (by kernel_rfl) rfl rfl (aI (i:=akG) (s0:=(.int .i64)) rfl rfl rfl rfl)
abbrev akH:TI:={ desc:=.struct #[dN 88 0,dN 3 1,dN 3 2,dN 3 3,dN 3 4,dN 3 5,dN 89 6,dN 47 7],size:=8,bytes:=64,zero:=[.int .i64 0,.int .i64 0,.int .i64 0,.int .i64 0,.int .i64 0,.int .i64 0,.int .i64 0,.int .i64 0],iQ:=some (.pair (.int .i64) (.pair (.int .i64) (.pair (.int .i64) (.pair (.int .i64) (.pair (.int .i64) (.pair (.int .i64) (.pair (.int .i64) (.pair (.int .i64) .unit)))))))),Bz:=[.i,.i,.i,.i,.i,.i,.i,.i] }
theorem afi:aK Tryz.prog 90 akH:=aK.of_eq (by kernel_rfl) (by kernel_rfl) rfl rfl (aI (i:=akH) (s0:=(.pair (.int .i64) (.pair (.int .i64) (.pair (.int .i64) (.pair (.int .i64) (.pair (.int .i64) (.pair (.int .i64) (.pair (.int .i64) (.pair (.int .i64) .unit))))))))) rfl rfl rfl rfl) (λ_=>by kernel_rfl)
abbrev akI:TI:={ desc:=.struct #[dN 88 0,dN 3 1,dN 3 2,dN 3 3,dN 3 4,dN 3 5,dN 89 6,dN 47 7],size:=8,bytes:=64,zero:=[.int .i64 0,.int .i64 0,.int .i64 0,.int .i64 0,.int .i64 0,.int .i64 0,.int .i64 0,.int .i64 0],iQ:=some (.pair (.int .i64) (.pair (.int .i64) (.pair (.int .i64) (.pair (.int .i64) (.pair (.int .i64) (.pair (.int .i64) (.pair (.int .i64) (.pair (.int .i64) .unit)))))))),Bz:=[.i,.i,.i,.i,.i,.i,.i,.i] }
theorem afj:aK Tryz.prog 91 akI:=aK.of_eq (by kernel_rfl) (by kernel_rfl) rfl rfl (aI (i:=akI) (s0:=(.pair (.int .i64) (.pair (.int .i64) (.pair (.int .i64) (.pair (.int .i64) (.pair (.int .i64) (.pair (.int .i64) (.pair (.int .i64) (.pair (.int .i64) .unit))))))))) rfl rfl rfl rfl) (λ_=>by kernel_rfl)
abbrev Zp:TI:={ desc:=.struct #[dN 9 0,dN 3 1],size:=2,bytes:=24,zero:=[.string ⟨#[]⟩,.int .i64 0],iQ:=some (.pair .str (.pair (.int .i64) .unit)),Bz:=[.s,.i] }
theorem Zq:aK Tryz.prog 117 Zp:=aK.of_eq (by kernel_rfl) (by kernel_rfl) rfl rfl (aI (i:=Zp) (s0:=(.pair .str (.pair (.int .i64) .unit))) rfl rfl rfl rfl) (λ_=>by kernel_rfl)
abbrev Zr:TI:={ desc:=.struct #[dN 9 0,dN 3 1],size:=2,bytes:=24,zero:=[.string ⟨#[]⟩,.int .i64 0],iQ:=some (.pair .str (.pair (.int .i64) .unit)),Bz:=[.s,.i] }
theorem Zt:aK Tryz.prog 118 Zr:=aK.of_eq (by kernel_rfl) (by kernel_rfl) rfl rfl (aI (i:=Zr) (s0:=(.pair .str (.pair (.int .i64) .unit))) rfl rfl rfl rfl) (λ_=>by kernel_rfl)
abbrev Zu:TI:={ desc:=.int .i64,size:=1,bytes:=8,zero:=[.int .i64 0],iQ:=some (.int .i64) }
theorem Zv:aK Tryz.prog 151 Zu:=aK.of_eq (by kernel_rfl) (by kernel_rfl) rfl rfl (aI (i:=Zu) (s0:=(.int .i64)) rfl rfl rfl rfl)
abbrev Zw:TI:={ desc:=.struct #[dN 3 0,dN 4 1,dN 3 2,dN 3 3,dN 4 4,dN 3 5,dN 151 6,dN 4 7],size:=8,bytes:=64,zero:=[.int .i64 0,.bool false,.int .i64 0,.int .i64 0,.bool false,.int .i64 0,.int .i64 0,.bool false],iQ:=some (.pair (.int .i64) (.pair .bool (.pair (.int .i64) (.pair (.int .i64) (.pair .bool (.pair (.int .i64) (.pair (.int .i64) (.pair .bool .unit)))))))),Bz:=[.i,.b,.i,.i,.b,.i,.i,.b] }
theorem Zx:aK Tryz.prog 152 Zw:=aK.of_eq (by kernel_rfl) (by kernel_rfl) rfl rfl (aI (i:=Zw) (s0:=(.pair (.int .i64) (.pair .bool (.pair (.int .i64) (.pair (.int .i64) (.pair .bool (.pair (.int .i64) (.pair (.int .i64) (.pair .bool .unit))))))))) rfl rfl rfl rfl) (λ_=>by kernel_rfl)
abbrev Zy:TI:={ desc:=.struct #[dN 3 0,dN 4 1,dN 3 2,dN 3 3,dN 4 4,dN 3 5,dN 151 6,dN 4 7],size:=8,bytes:=64,zero:=[.int .i64 0,.bool false,.int .i64 0,.int .i64 0,.bool false,.int .i64 0,.int .i64 0,.bool false],iQ:=some (.pair (.int .i64) (.pair .bool (.pair (.int .i64) (.pair (.int .i64) (.pair .bool (.pair (.int .i64) (.pair (.int .i64) (.pair .bool .unit)))))))),Bz:=[.i,.b,.i,.i,.b,.i,.i,.b] }
theorem Zz:aK Tryz.prog 153 Zy:=aK.of_eq (by kernel_rfl) (by kernel_rfl) rfl rfl (aI (i:=Zy) (s0:=(.pair (.int .i64) (.pair .bool (.pair (.int .i64) (.pair (.int .i64) (.pair .bool (.pair (.int .i64) (.pair (.int .i64) (.pair .bool .unit))))))))) rfl rfl rfl rfl) (λ_=>by kernel_rfl)
abbrev ZA:TI:={ desc:=.array 17 153,size:=136,bytes:=1088,zero:=[.int .i64 0,.bool false,.int .i64 0,.int .i64 0,.bool false,.int .i64 0,.int .i64 0,.bool false,.int .i64 0,.bool false,.int .i64 0,.int .i64 0,.bool false,.int .i64 0,.int .i64 0,.bool false,.int .i64 0,.bool false,.int .i64 0,.int .i64 0,.bool false,.int .i64 0,.int .i64 0,.bool false,.int .i64 0,.bool false,.int .i64 0,.int .i64 0,.bool false,.int .i64 0,.int .i64 0,.bool false,.int .i64 0,.bool false,.int .i64 0,.int .i64 0,.bool false,.int .i64 0,.int .i64 0,.bool false,.int .i64 0,.bool false,.int .i64 0,.int .i64 0,.bool false,.int .i64 0,.int .i64 0,.bool false,.int .i64 0,.bool false,.int .i64 0,.int .i64 0,.bool false,.int .i64 0,.int .i64 0,.bool false,.int .i64 0,.bool false,.int .i64 0,.int .i64 0,.bool false,.int .i64 0,.int .i64 0,.bool false,.int .i64 0,.bool false,.int .i64 0,.int .i64 0,.bool false,.int .i64 0,.int .i64 0,.bool false,.int .i64 0,.bool false,.int .i64 0,.int .i64 0,.bool false,.int .i64 0,.int .i64 0,.bool false,.int .i64 0,.bool false,.int .i64 0,.int .i64 0,.bool false,.int .i64 0,.int .i64 0,.bool false,.int .i64 0,.bool false,.int .i64 0,.int .i64 0,.bool false,.int .i64 0,.int .i64 0,.bool false,.int .i64 0,.bool false,.int .i64 0,.int .i64 0,.bool false,.int .i64 0,.int .i64 0,.bool false,.int .i64 0,.bool false,.int .i64 0,.int .i64 0,.bool false,.int .i64 0,.int .i64 0,.bool false,.int .i64 0,.bool false,.int .i64 0,.int .i64 0,.bool false,.int .i64 0,.int .i64 0,.bool false,.int .i64 0,.bool false,.int .i64 0,.int .i64 0,.bool false,.int .i64 0,.int .i64 0,.bool false,.int .i64 0,.bool false,.int .i64 0,.int .i64 0,.bool false,.int .i64 0,.int .i64 0,.bool false],iQ:=some (.arr 17 (.pair (.int .i64) (.pair .bool (.pair (.int .i64) (.pair (.int .i64) (.pair .bool (.pair (.int .i64) (.pair (.int .i64) (.pair .bool .unit))))))))) }
theorem ZB:aK Tryz.prog 154 ZA:=aK.of_eq (by kernel_rfl) (by kernel_rfl) rfl rfl (aI (i:=ZA) (s0:=(.arr 17 (.pair (.int .i64) (.pair .bool (.pair (.int .i64) (.pair (.int .i64) (.pair .bool (.pair (.int .i64) (.pair (.int .i64) (.pair .bool .unit)))))))))) rfl rfl rfl rfl)
abbrev ZC:TI:={ desc:=.slice 158,size:=1,bytes:=24,zero:=[.slice none 0 0],iQ:=some (.sl (.pair (.int .i64) (.pair (.int .i64) (.pair (.int .i64) (.pair .bool .unit))))) }
theorem ZE:aK Tryz.prog 155 ZC:=aK.of_eq (by kernel_rfl) (by kernel_rfl) rfl rfl (aI (i:=ZC) (s0:=(.sl (.pair (.int .i64) (.pair (.int .i64) (.pair (.int .i64) (.pair .bool .unit)))))) rfl rfl rfl rfl)
abbrev ZF:TI:={ desc:=.struct #[dN 151 0,dN 3 1,dN 3 2,dN 4 3],size:=4,bytes:=32,zero:=[.int .i64 0,.int .i64 0,.int .i64 0,.bool false],iQ:=some (.pair (.int .i64) (.pair (.int .i64) (.pair (.int .i64) (.pair .bool .unit)))),Bz:=[.i,.i,.i,.b] }
theorem ZG:aK Tryz.prog 157 ZF:=aK.of_eq (by kernel_rfl) (by kernel_rfl) rfl rfl (aI (i:=ZF) (s0:=(.pair (.int .i64) (.pair (.int .i64) (.pair (.int .i64) (.pair .bool .unit))))) rfl rfl rfl rfl) (λ_=>by kernel_rfl)
abbrev ZH:TI:={ desc:=.struct #[dN 151 0,dN 3 1,dN 3 2,dN 4 3],size:=4,bytes:=32,zero:=[.int .i64 0,.int .i64 0,.int .i64 0,.bool false],iQ:=some (.pair (.int .i64) (.pair (.int .i64) (.pair (.int .i64) (.pair .bool .unit)))),Bz:=[.i,.i,.i,.b] }
theorem ZI:aK Tryz.prog 158 ZH:=aK.of_eq (by kernel_rfl) (by kernel_rfl) rfl rfl (aI (i:=ZH) (s0:=(.pair (.int .i64) (.pair (.int .i64) (.pair (.int .i64) (.pair .bool .unit))))) rfl rfl rfl rfl) (λ_=>by kernel_rfl)
abbrev ZJ:TI:={ desc:=.slice 4,size:=1,bytes:=24,zero:=[.slice none 0 0],iQ:=some (.sl .bool) }
theorem ZK:aK Tryz.prog 159 ZJ:=aK.of_eq (by kernel_rfl) (by kernel_rfl) rfl rfl (aI (i:=ZJ) (s0:=(.sl .bool)) rfl rfl rfl rfl)
abbrev ZL:TI:={ desc:=.struct #[dN 3 0,dN 3 1],size:=2,bytes:=16,zero:=[.int .i64 0,.int .i64 0],iQ:=some (.pair (.int .i64) (.pair (.int .i64) .unit)),Bz:=[.i,.i] }
theorem ZM:aK Tryz.prog 161 ZL:=aK.of_eq (by kernel_rfl) (by kernel_rfl) rfl rfl (aI (i:=ZL) (s0:=(.pair (.int .i64) (.pair (.int .i64) .unit))) rfl rfl rfl rfl) (λ_=>by kernel_rfl)
abbrev ZN:TI:={ desc:=.struct #[dN 3 0,dN 3 1],size:=2,bytes:=16,zero:=[.int .i64 0,.int .i64 0],iQ:=some (.pair (.int .i64) (.pair (.int .i64) .unit)),Bz:=[.i,.i] }
theorem ZO:aK Tryz.prog 162 ZN:=aK.of_eq (by kernel_rfl) (by kernel_rfl) rfl rfl (aI (i:=ZN) (s0:=(.pair (.int .i64) (.pair (.int .i64) .unit))) rfl rfl rfl rfl) (λ_=>by kernel_rfl)
abbrev ZP:TI:={ desc:=.int .u32,size:=1,bytes:=4,zero:=[.int .u32 0],iQ:=some (.int .u32) }
theorem ZQ:aK Tryz.prog 167 ZP:=aK.of_eq (by kernel_rfl) (by kernel_rfl) rfl rfl (aI (i:=ZP) (s0:=(.int .u32)) rfl rfl rfl rfl)
abbrev ZR:TI:={ desc:=.array 7 4,size:=7,bytes:=7,zero:=[.bool false,.bool false,.bool false,.bool false,.bool false,.bool false,.bool false],iQ:=some (.arr 7 .bool) }
theorem ZT:aK Tryz.prog 180 ZR:=aK.of_eq (by kernel_rfl) (by kernel_rfl) rfl rfl (aI (i:=ZR) (s0:=(.arr 7 .bool)) rfl rfl rfl rfl)
abbrev ZU:TI:={ desc:=.struct #[dN 9 0,dN 180 1],size:=8,bytes:=24,zero:=[.string ⟨#[]⟩,.bool false,.bool false,.bool false,.bool false,.bool false,.bool false,.bool false],iQ:=some (.pair .str (.pair (.arr 7 .bool) .unit)) }
theorem ZV:aK Tryz.prog 181 ZU:=aK.of_eq (by kernel_rfl) (by kernel_rfl) rfl rfl (aI (i:=ZU) (s0:=(.pair .str (.pair (.arr 7 .bool) .unit))) rfl rfl rfl rfl)
abbrev ZW:TI:={ desc:=.struct #[dN 9 0,dN 180 1],size:=8,bytes:=24,zero:=[.string ⟨#[]⟩,.bool false,.bool false,.bool false,.bool false,.bool false,.bool false,.bool false],iQ:=some (.pair .str (.pair (.arr 7 .bool) .unit)) }
theorem ZX:aK Tryz.prog 182 ZW:=aK.of_eq (by kernel_rfl) (by kernel_rfl) rfl rfl (aI (i:=ZW) (s0:=(.pair .str (.pair (.arr 7 .bool) .unit))) rfl rfl rfl rfl)
abbrev ZY:TI:={ desc:=.array 22 182,size:=176,bytes:=528,zero:=[.string ⟨#[]⟩,.bool false,.bool false,.bool false,.bool false,.bool false,.bool false,.bool false,.string ⟨#[]⟩,.bool false,.bool false,.bool false,.bool false,.bool false,.bool false,.bool false,.string ⟨#[]⟩,.bool false,.bool false,.bool false,.bool false,.bool false,.bool false,.bool false,.string ⟨#[]⟩,.bool false,.bool false,.bool false,.bool false,.bool false,.bool false,.bool false,.string ⟨#[]⟩,.bool false,.bool false,.bool false,.bool false,.bool false,.bool false,.bool false,.string ⟨#[]⟩,.bool false,.bool false,.bool false,.bool false,.bool false,.bool false,.bool false,.string ⟨#[]⟩,.bool false,.bool false,.bool false,.bool false,.bool false,.bool false,.bool false,.string ⟨#[]⟩,.bool false,.bool false,.bool false,.bool false,.bool false,.bool false,.bool false,.string ⟨#[]⟩,.bool false,.bool false,.bool false,.bool false,.bool false,.bool false,.bool false,.string ⟨#[]⟩,.bool false,.bool false,.bool false,.bool false,.bool false,.bool false,.bool false,.string ⟨#[]⟩,.bool false,.bool false,.bool false,.bool false,.bool false,.bool false,.bool false,.string ⟨#[]⟩,.bool false,.bool false,.bool false,.bool false,.bool false,.bool false,.bool false,.string ⟨#[]⟩,.bool false,.bool false,.bool false,.bool false,.bool false,.bool false,.bool false,.string ⟨#[]⟩,.bool false,.bool false,.bool false,.bool false,.bool false,.bool false,.bool false,.string ⟨#[]⟩,.bool false,.bool false,.bool false,.bool false,.bool false,.bool false,.bool false,.string ⟨#[]⟩,.bool false,.bool false,.bool false,.bool false,.bool false,.bool false,.bool false,.string ⟨#[]⟩,.bool false,.bool false,.bool false,.bool false,.bool false,.bool false,.bool false,.string ⟨#[]⟩,.bool false,.bool false,.bool false,.bool false,.bool false,.bool false,.bool false,.string ⟨#[]⟩,.bool false,.bool false,.bool false,.bool false,.bool false,.bool false,.bool false,.string ⟨#[]⟩,.bool false,.bool false,.bool false,.bool false,.bool false,.bool false,.bool false,.string ⟨#[]⟩,.bool false,.bool false,.bool false,.bool false,.bool false,.bool false,.bool false,.string ⟨#[]⟩,.bool false,.bool false,.bool false,.bool false,.bool false,.bool false,.bool false],iQ:=some (.arr 22 (.pair .str (.pair (.arr 7 .bool) .unit))) }
theorem Z4:aK Tryz.prog 183 ZY:=aK.of_eq (by kernel_rfl) (by kernel_rfl) rfl rfl (aI (i:=ZY) (s0:=(.arr 22 (.pair .str (.pair (.arr 7 .bool) .unit)))) rfl rfl rfl rfl)
abbrev Z5:TI:={ desc:=.slice 23,size:=1,bytes:=24,zero:=[.slice none 0 0],iQ:=some (.sl (.sl .str)) }
theorem Z7:aK Tryz.prog 194 Z5:=aK.of_eq (by kernel_rfl) (by kernel_rfl) rfl rfl (aI (i:=Z5) (s0:=(.sl (.sl .str))) rfl rfl rfl rfl)
abbrev Z8:TI:={ desc:=.array 4 3,size:=4,bytes:=32,zero:=[.int .i64 0,.int .i64 0,.int .i64 0,.int .i64 0],iQ:=some (.arr 4 (.int .i64)),Bz:=[.i] }
theorem Z9:aK Tryz.prog 203 Z8:=aK.of_eq (by kernel_rfl) (by kernel_rfl) rfl rfl (aI (i:=Z8) (s0:=(.arr 4 (.int .i64))) rfl rfl rfl rfl) (λ_=>by kernel_rfl)
abbrev aac:TI:={ desc:=.array 7 3,size:=7,bytes:=56,zero:=[.int .i64 0,.int .i64 0,.int .i64 0,.int .i64 0,.int .i64 0,.int .i64 0,.int .i64 0],iQ:=some (.arr 7 (.int .i64)),Bz:=[.i] }
theorem aad:aK Tryz.prog 204 aac:=aK.of_eq (by kernel_rfl) (by kernel_rfl) rfl rfl (aI (i:=aac) (s0:=(.arr 7 (.int .i64))) rfl rfl rfl rfl) (λ_=>by kernel_rfl)
abbrev aae:TI:={ desc:=.array 3 3,size:=3,bytes:=24,zero:=[.int .i64 0,.int .i64 0,.int .i64 0],iQ:=some (.arr 3 (.int .i64)),Bz:=[.i] }
theorem aaf:aK Tryz.prog 206 aae:=aK.of_eq (by kernel_rfl) (by kernel_rfl) rfl rfl (aI (i:=aae) (s0:=(.arr 3 (.int .i64))) rfl rfl rfl rfl) (λ_=>by kernel_rfl)
abbrev aag:TI:={ desc:=.array 10 9,size:=10,bytes:=160,zero:=[.string ⟨#[]⟩,.string ⟨#[]⟩,.string ⟨#[]⟩,.string ⟨#[]⟩,.string ⟨#[]⟩,.string ⟨#[]⟩,.string ⟨#[]⟩,.string ⟨#[]⟩,.string ⟨#[]⟩,.string ⟨#[]⟩],iQ:=some (.arr 10 .str) }
theorem aah:aK Tryz.prog 214 aag:=aK.of_eq (by kernel_rfl) (by kernel_rfl) rfl rfl (aI (i:=aag) (s0:=(.arr 10 .str)) rfl rfl rfl rfl)
abbrev aai:TI:={ desc:=.int .u64,size:=1,bytes:=8,zero:=[.int .u64 0],iQ:=some (.int .u64) }
theorem aaj:aK Tryz.prog 217 aai:=aK.of_eq (by kernel_rfl) (by kernel_rfl) rfl rfl (aI (i:=aai) (s0:=(.int .u64)) rfl rfl rfl rfl)
abbrev aak:TI:={ desc:=.int .u64,size:=1,bytes:=8,zero:=[.int .u64 0],iQ:=some (.int .u64) }
theorem aal:aK Tryz.prog 230 aak:=aK.of_eq (by kernel_rfl) (by kernel_rfl) rfl rfl (aI (i:=aak) (s0:=(.int .u64)) rfl rfl rfl rfl)
abbrev tis:List (Nat×TI):=[(3,ti3),(4,ti4),(5,ti5),(9,ti9),(21,aj1),(22,aj2),(23,aj3),(24,aj6),(25,aj7),(26,aj8),(27,aj9),(30,akb),(31,akc),(32,akd),(33,ake),(34,akf),(35,akg),(36,akh),(37,aki),(38,akj),(43,akk),(44,akl),(46,akm),(47,akn),(48,ako),(49,akp),(52,akq),(53,akr),(54,aks),(55,akt),(56,aku),(63,akv),(64,akw),(65,akx),(66,aky),(67,akz),(75,akA),(76,akB),(77,akC),(81,akD),(82,akE),(88,akF),(89,akG),(90,akH),(91,akI),(117,Zp),(118,Zr),(151,Zu),(152,Zw),(153,Zy),(154,ZA),(155,ZC),(157,ZF),(158,ZH),(159,ZJ),(161,ZL),(162,ZN),(167,ZP),(180,ZR),(181,ZU),(182,ZW),(183,ZY),(194,Z5),(203,Z8),(204,aac),(206,aae),(214,aag),(217,aai),(230,aak)]
theorem aB:bK Tryz.prog tis:=⟨ajX,ajY,ajZ,aj0,aeF,aeG,aeH,aeI,aeJ,aeK,aeL,aeM,aeN,aeO,aeP,aeQ,aeR,aeS,aeT,aeU,aeV,aeW,aeX,aeY,aeZ,ae0,ae1,ae2,ae3,ae4,ae5,ae6,ae7,ae8,ae9,afa,afb,afc,afd,afe,aff,afg,afh,afi,afj,Zq,Zt,Zv,Zx,Zz,ZB,ZE,ZG,ZI,ZK,ZM,ZO,ZQ,ZT,ZV,ZX,Z4,Z7,Z9,aad,aaf,aah,aaj,aal,trivial⟩
abbrev I6:Sh:=.int .i64
abbrev iR(n:Int):Prop:=InR IntKind.i64 n
abbrev iN:SC:=SC.v (Value.slice none 0 0)
abbrev v6(n:Int):SC:=.v (.int .i64 n)
abbrev vb(b:Bool):SC:=.v (.bool b)
abbrev cI(n:Int):SV:=.c (.v (.int .i64 n))
abbrev cB(b:Bool):SV:=.c (.v (.bool b))
abbrev g0(r:au):Go.ni.Gd×au:=([],r)
abbrev rE(a b:bg):Prop:=([]:List au)=[]/\a=b
abbrev rT(a b:List SV):Prop:=([]:List au)=[]/\bg.iO a=bg.iO b
abbrev qI(a b:Int):Prop:=([]:List au)=[]/\bg.one (.c (.v (.int .i64 a)))=bg.one (.c (.v (.int .i64 b)))
abbrev qB(a b:Bool):Prop:=([]:List au)=[]/\bg.one (.c (.v (.bool a)))=bg.one (.c (.v (.bool b)))
abbrev sm{α:Type} (a:α):Prop:=a=a
def afk:List (List Bool):=[[true,false,false,false,true,false,false],[true,true,false,false,false,false,false],[true,true,true,false,false,true,false],[false,false,false,false,true,false,false],[false,true,false,false,true,false,false],[false,true,false,false,false,false,false],[false,false,false,false,false,false,false],[true,false,false,true,false,false,true],[false,true,false,true,false,false,true],[true,true,false,true,false,false,true],[true,true,false,true,false,false,true],[true,true,true,true,false,false,true],[false,false,false,false,false,false,false],[true,true,false,true,false,true,true],[false,false,false,true,false,false,false],[false,false,false,true,false,false,false],[true,false,false,true,false,false,false],[false,false,false,true,true,false,false],[false,false,false,true,false,false,false],[false,false,false,true,false,false,false],[true,true,false,true,false,false,false],[false,true,false,false,false,false,false]]
def fieldsD:List ByteArray:=[⟨#[65,78]⟩,⟨#[65,66]⟩,⟨#[70,65,66,67]⟩,⟨#[78]⟩,⟨#[66,78]⟩,⟨#[66]⟩,⟨#[]⟩,⟨#[65,79,82]⟩,⟨#[79,66,82]⟩,⟨#[65,79,66,82]⟩,⟨#[65,79,66,82]⟩,⟨#[65,79,66,67,82]⟩,⟨#[]⟩,⟨#[65,79,70,66,82]⟩,⟨#[79]⟩,⟨#[79]⟩,⟨#[65,79]⟩,⟨#[79,78]⟩,⟨#[79]⟩,⟨#[79]⟩,⟨#[65,79,66]⟩,⟨#[66]⟩]
def KU:List ByteArray:=[⟨#[97,100,100]⟩,⟨#[115,117,98]⟩,⟨#[109,117,108]⟩,⟨#[97,110,100]⟩,⟨#[111,114]⟩,⟨#[120,111,114]⟩,⟨#[101,113]⟩,⟨#[110,101]⟩,⟨#[108,116]⟩,⟨#[108,101]⟩]
def NY:List (ByteArray×List Bool×Unit):=[(⟨#[99,111,110,115,116]⟩,[true,false,false,false,true,false,false],()),(⟨#[99,111,112,121]⟩,[true,true,false,false,false,false,false],()),(⟨#[99,97,108,99]⟩,[true,true,true,false,false,true,false],()),(⟨#[106,117,109,112]⟩,[false,false,false,false,true,false,false],()),(⟨#[98,114,97,110,99,104]⟩,[false,true,false,false,true,false,false],()),(⟨#[97,115,115,101,114,116]⟩,[false,true,false,false,false,false,false],()),(⟨#[115,116,111,112]⟩,[false,false,false,false,false,false,false],()),(⟨#[108,111,97,100]⟩,[true,false,false,true,false,false,true],()),(⟨#[115,116,111,114,101]⟩,[false,true,false,true,false,false,true],()),(⟨#[115,119,97,112]⟩,[true,true,false,true,false,false,true],()),(⟨#[102,101,116,99,104,97,100,100]⟩,[true,true,false,true,false,false,true],()),(⟨#[99,97,115]⟩,[true,true,true,true,false,false,true],()),(⟨#[102,101,110,99,101]⟩,[false,false,false,false,false,false,false],()),(⟨#[97,119,97,105,116]⟩,[true,true,false,true,false,true,true],()),(⟨#[108,111,99,107]⟩,[false,false,false,true,false,false,false],()),(⟨#[117,110,108,111,99,107]⟩,[false,false,false,true,false,false,false],()),(⟨#[116,114,121,108,111,99,107]⟩,[true,false,false,true,false,false,false],()),(⟨#[119,97,105,116]⟩,[false,false,false,true,true,false,false],()),(⟨#[115,105,103,110,97,108]⟩,[false,false,false,true,false,false,false],()),(⟨#[98,114,111,97,100,99,97,115,116]⟩,[false,false,false,true,false,false,false],()),(⟨#[115,112,97,119,110]⟩,[true,true,false,true,false,false,false],()),(⟨#[106,111,105,110]⟩,[false,true,false,false,false,false,false],())]
def Gp:List (Int×Bool×Int×Int×Bool×Int×Int×Bool×Unit):=[(7,true,-2147483648,2147483647,false,-1,1,false,()),(7,true,0,0,true,-2,1,true,()),(7,true,0,0,true,0,4,true,()),(7,false,0,0,true,0,1,true,()),(7,true,-2147483648,2147483647,true,-2,1,true,()),(7,true,-2147483648,2147483647,false,-2,1,false,()),(0,false,0,0,false,-2,0,false,()),(7,true,-2147483648,2147483647,false,-1,1,false,()),(3,false,0,0,false,-2,2,true,()),(3,false,0,0,false,-2,2,true,()),(3,false,0,1,false,-2,2,true,()),(3,false,0,0,false,-2,3,true,()),(3,false,0,0,false,-2,3,true,()),(3,false,0,1,false,-2,3,true,()),(3,false,0,-1,false,-2,3,true,()),(-1,false,0,0,false,-2,0,false,()),(-1,false,0,0,false,-2,0,false,())]
abbrev gd0:Nat->Option (Sigma Sh.den):=λg=>match g with
 | 0=>some ⟨.arr 17 (.pair (.int .i64) (.pair .bool (.pair (.int .i64) (.pair (.int .i64) (.pair .bool (.pair (.int .i64) (.pair (.int .i64) (.pair .bool .unit)))))))),Gp⟩
 | 1=>some ⟨.arr 22 (.pair .str (.pair (.arr 7 .bool) .unit)),NY⟩
 | 2=>some ⟨.arr 10 .str,KU⟩
 | _=>none
abbrev aT:Cx:={ ti:=tis,gd:=gd0 }
abbrev oP:Sh:=.pair (.int .i64) (.pair (.int .i64) (.pair (.int .i64) (.pair (.int .i64) (.pair (.int .i64) (.pair (.int .i64) (.pair (.int .i64) (.pair (.int .i64) .unit)))))))
def use(op:Int) (k:Nat):Bool:=decide (1<=op) && decide (op<=22) && (afk.getD (op - 1).toNat []).getD k false
def uG(op:Int):Bool:=decide (1<=op) && decide (op<=22)
def yA(f:Int):ByteArray:=if 1<=f/\f<=10 then KU.getD (f - 1).toNat ByteArray.empty else ByteArray.empty
abbrev aoh:CT:={ ps:=[],pre:=λd=>True,res:=λd=>([.row 9 .str fieldsD],.one (.c (.row 0))) }
abbrev akJ  : Nat->Option (St->kS):=λ_=>none
abbrev Jl:=SV.c (SC.row (0:Nat))
theorem afl :
 [au.row (9:TypeId) Sh.str fieldsD]=[au.row (9:TypeId) Sh.str [{ data:=#[(65:UInt8),78]:ByteArray },{ data:=#[(65:UInt8),66]:ByteArray },{ data:=#[(70:UInt8),65,66,67]:ByteArray },{ data:=#[(78:UInt8)]:ByteArray },{ data:=#[(66:UInt8),78]:ByteArray },{ data:=#[(66:UInt8)]:ByteArray },{ data:=#[]:ByteArray },{ data:=#[(65:UInt8),79,82]:ByteArray },{ data:=#[(79:UInt8),66,82]:ByteArray },{ data:=#[(65:UInt8),79,66,82]:ByteArray },{ data:=#[(65:UInt8),79,66,82]:ByteArray },{ data:=#[(65:UInt8),79,66,67,82]:ByteArray },{ data:=#[]:ByteArray },{ data:=#[(65:UInt8),79,70,66,82]:ByteArray },{ data:=#[(79:UInt8)]:ByteArray },{ data:=#[(79:UInt8)]:ByteArray },{ data:=#[(65:UInt8),79]:ByteArray },{ data:=#[(79:UInt8),78]:ByteArray },{ data:=#[(79:UInt8)]:ByteArray },{ data:=#[(79:UInt8)]:ByteArray },{ data:=#[(65:UInt8),79,66]:ByteArray },{ data:=#[(66:UInt8)]:ByteArray }]]/\bg.one Jl=bg.one Jl:=by
 delta Jl;exact⟨rfl,rfl⟩
theorem aam:aW aT.gd 206 aoh:=
 kD (cx:=aT) (n:=2) (cl:=[]) aB trivial Tryz.func206 λd hd=>by
  obtain⟨⟩:=d;exact⟨akJ ,cast (by kernel_rfl) (afl )⟩
abbrev aoi:CT:={ ps:=[.int .i64],pre:=λd=>True,res:=λd=>([],vB (uG d.1)) }
theorem afm(op:Int):
 qB (uG op) (decide (1<=op) && decide (op<=22)):=by
 delta qB;exact⟨rfl,rfl⟩
theorem aan:aW aT.gd 197 aoi:=
 kD (cx:=aT) (n:=9) (cl:=[]) aB trivial Tryz.func197 λd hd=>by
  obtain⟨op,⟨⟩⟩:=d;exact⟨λ_=>none,cast (by kernel_rfl) (afm op)⟩
abbrev aoj:CT:={ ps:=[.int .i64],pre:=λd=>True,res:=λd=>([],vB (decide (0<=d.1) && decide (d.1 < 8))) }
theorem afn(r:Int):
 let z1:=decide (0<=r) && decide (r < 8);qB z1 z1:=by
 conv=>zeta
 delta qB;exact⟨rfl,rfl⟩
theorem aao:aW aT.gd 204 aoj:=
 kD (cx:=aT) (n:=9) (cl:=[]) aB trivial Tryz.func204 λd hd=>by
  obtain⟨r,⟨⟩⟩:=d;exact⟨λ_=>none,cast (by kernel_rfl) (afn r)⟩
abbrev aok:CT:={ ps:=[oP],pre:=λd=>True,res:=λd=>([],.one (.dat (.arr 7 (.int .i64)) [d.1.2.1,d.1.2.2.1,d.1.2.2.2.1,d.1.2.2.2.2.1,d.1.2.2.2.2.2.1,d.1.2.2.2.2.2.2.1,d.1.2.2.2.2.2.2.2.1])) }
theorem afo(op a b c obj n fn ord:Int):
 let z1:=[a,b,c,obj,n,fn,ord];rE (bg.one (SV.dat (Sh.arr 7 I6) z1)) (bg.one (SV.dat (Sh.arr 7 I6) z1)):=by
 conv=>zeta
 delta rE I6;exact⟨rfl,rfl⟩
theorem aap:aW aT.gd 198 aok:=
 kD (cx:=aT) (n:=18) (cl:=[]) aB trivial Tryz.func198 λd hd=>by
  obtain⟨⟨op,a,b,c,obj,n,fn,ord,⟨⟩⟩,⟨⟩⟩:=d;exact⟨λ_=>none,cast (by kernel_rfl) (afo op a b c obj n fn ord)⟩
abbrev aol:CT:={ ps:=[.int .i64],pre:=λd=>True,res:=λd=>([],.one (.c (.v (.string (yA d.1))))) }
theorem afp(f:Int):
 let z1:=bg.one (SV.c (SC.v (Value.string (yA f))));br (decide (f < 1) || decide (10 < f)) (rE z1 (bg.one (SV.c (SC.v (Value.string { data:=#[]:ByteArray }))))) (iR (f - 1)/\(0<=f - 1/\f - 1 < (10:Int))/\∀(d:ByteArray),KU[(f - 1).toNat]?=some d->rE z1 (bg.one (SV.c (SC.v (Value.string d))))):=by
 conv=>zeta
 delta rE iR;refine ah.2 ⟨λh=>?_,λh=>?_⟩
 .simp only[DJ,dW]at h;rw[show yA f=ByteArray.empty from if_neg (by omega)]
  exact⟨rfl,rfl⟩
 .simp only[oV,gW]at h;refine⟨ay.2 (by omega),by omega,λd hd=>⟨rfl,?_⟩⟩
  rw[show yA f=KU.getD (f - 1).toNat ByteArray.empty from if_pos (by omega),List.getD,hd];rfl
theorem aaq:aW aT.gd 199 aol:=
 kD (cx:=aT) (n:=13) (cl:=[]) aB trivial Tryz.func199 λd hd=>by
  obtain⟨f,⟨⟩⟩:=d;exact⟨λ_=>none,cast (by kernel_rfl) (afp f)⟩
abbrev aom:CT:={ ps:=[.int .i64],pre:=λd=>True,res:=λd=>([],.one (.c (.v (.string (yA d.1))))) }
theorem afq(f:Int):
 let z1:=bg.one (SV.c (SC.v (Value.string (yA f))));br (decide (f=1)) (rE z1 (bg.one (SV.c (SC.v (Value.string { data:=#[(97:UInt8),100,100]:ByteArray }))))) (br (decide (f=2)) (rE z1 (bg.one (SV.c (SC.v (Value.string { data:=#[(115:UInt8),117,98]:ByteArray }))))) (br (decide (f=3)) (rE z1 (bg.one (SV.c (SC.v (Value.string { data:=#[(109:UInt8),117,108]:ByteArray }))))) (br (decide (f=4)) (rE z1 (bg.one (SV.c (SC.v (Value.string { data:=#[(97:UInt8),110,100]:ByteArray }))))) (br (decide (f=5)) (rE z1 (bg.one (SV.c (SC.v (Value.string { data:=#[(111:UInt8),114]:ByteArray }))))) (br (decide (f=6)) (rE z1 (bg.one (SV.c (SC.v (Value.string { data:=#[(120:UInt8),111,114]:ByteArray }))))) (br (decide (f=7)) (rE z1 (bg.one (SV.c (SC.v (Value.string { data:=#[(101:UInt8),113]:ByteArray }))))) (br (decide (f=8)) (rE z1 (bg.one (SV.c (SC.v (Value.string { data:=#[(110:UInt8),101]:ByteArray }))))) (br (decide (f=9)) (rE z1 (bg.one (SV.c (SC.v (Value.string { data:=#[(108:UInt8),116]:ByteArray }))))) (br (decide (f=10)) (rE z1 (bg.one (SV.c (SC.v (Value.string { data:=#[(108:UInt8),101]:ByteArray }))))) (rE z1 (bg.one (SV.c (SC.v (Value.string { data:=#[]:ByteArray })))))))))))))):=by
 conv=>zeta
 delta rE
 by_cases h:1<=f/\f<=10
 .have:f=1\/f=2\/f=3\/f=4\/f=5\/f=6\/f=7\/f=8\/f=9\/f=10:=by omega
  rcases this with rfl | rfl | rfl | rfl | rfl | rfl | rfl | rfl | rfl | rfl<;>exact⟨rfl,rfl⟩
 .have e:yA f=ByteArray.empty:=if_neg h;rw[e];rw[show decide (f=1)=false from Dk (by omega)]
  rw[show decide (f=2)=false from Dk (by omega)]
  rw[show decide (f=3)=false from Dk (by omega)]
  rw[show decide (f=4)=false from Dk (by omega)]
  rw[show decide (f=5)=false from Dk (by omega)]
  rw[show decide (f=6)=false from Dk (by omega)]
  rw[show decide (f=7)=false from Dk (by omega)]
  rw[show decide (f=8)=false from Dk (by omega)]
  rw[show decide (f=9)=false from Dk (by omega)]
  rw[show decide (f=10)=false from Dk (by omega)]
  exact⟨rfl,rfl⟩
theorem aar:aW aT.gd 205 aom:=
 kD (cx:=aT) (n:=24) (cl:=[]) aB trivial Tryz.func205 λd hd=>by
  obtain⟨f,⟨⟩⟩:=d;exact⟨λ_=>none,cast (by kernel_rfl) (afq f)⟩
def gX(op c:Int):Bool:=decide (1<=op) && decide (op<=22) && ((fieldsD.getD (op - 1).toNat ByteArray.empty).data.toList.any λb=>decide ((b.toNat:Int)=c))
abbrev aon:CT:={ ps:=[.int .i64,.int .u8],pre:=λd=>True,res:=λd=>([],vB (gX d.1 d.2.1)) }
abbrev akK(op c:Int):Nat->Option (St->kS):=λk=>match k with
 | 5=>some λs=>.inv { α:=Nat,slots:=λk=>[(6,.c (.v (.int .i64 k)))],res:=λ_=>[],inv:=λk=>k<=(Y3 s 5).size/\∀j,j < k->∀b,(Y3 s 5)[j]?=some b->¬((b.toNat:Int)=c),meas:=λk=>(Y3 s 5).size - k }
 | _=>none
theorem afr(op c:Int):
 let z1:=λ(x:Nat) (d:ByteArray)=>(x<=d.size/\∀(j:Nat),j < x->∀(b:UInt8),d[j]?=some b->¬(b.toNat:Int)=c);let z2:=[g0 (au.row 9 Sh.str fieldsD)];br (decide (op < 1) || decide (22 < op)) (qB (gX op c) false) (True/\iR (op - 1)/\(0<=op - 1/\op - 1 < (22:Int))/\(op - 1).toNat < 22/\∀(d:ByteArray),fieldsD[(op - 1).toNat]?=some d->(∃x,(z1 x d)/\(cI 0=cI (x:Int)/\True)/\sm z2)/\∀(x:Nat),(z1 x d)->br (decide ((x:Int) < (d.size:Int))) ((0<=(x:Int)/\(x:Int) < (d.size:Int))/\∀(u:UInt8),d[(x:Int).toNat]?=some u->br (decide ((u.toNat:Int)=c)) (qB (gX op c) true) (iR ((x:Int)+(1:Int))/\∃x',(z1 x' d)/\(cI ((x:Int)+(1:Int))=cI (x':Int)/\True)/\sm z2/\d.size - x' < d.size - x)) (qB (gX op c) false)):=by
 conv=>zeta
 delta cI g0 qB sm iR;refine ah.2 ⟨λh=>?_,λh=>?_⟩
 .simp only[DJ,dW]at h;have:gX op c=false:=by
   unfold gX
   by_cases h1:1<=op<;>by_cases h2:op<=22<;>simp[h1,h2]
   omega
  rw[this];exact⟨rfl,rfl⟩
 .simp only[oV,gW]at h;refine⟨trivial,ay.2 (by omega),by omega,by omega,λd hd=>⟨⟨0,⟨by omega,λj hj=>by omega⟩,⟨rfl,trivial⟩,rfl⟩,λx hx=>?_⟩⟩
  have e:gX op c=d.data.toList.any λb=>decide ((b.toNat:Int)=c):=by
   unfold gX;rw[List.getD,hd];simp[show 1<=op by omega,show op<=22 by omega]
  have hs:d.size<=9:=(show∀d∈fieldsD,d.size<=9 by decide) d (iM hd)
  have get:∀j:Nat,d[j]?=d.data.toList[j]?:=ajV d;refine ah.2 ⟨λgZ=>⟨by simp only[dW]at gZ;omega,λu hu=>ah.2 ⟨λhc=>?_,λhc=>?_⟩⟩,λhge=>?_⟩
  .simp only[dW]at hc;have hm:u∈d.data.toList:=iM (i:=x) (by rw[<-get];simpa using hu)
   rw[e,Xq.2 ⟨u,hm,by simpa using hc⟩]
   exact⟨rfl,rfl⟩
  .simp only[gW]at hc;simp only[dW]at gZ;refine⟨ay.2 (by omega),x+1,⟨by omega,λj hj b hb=>?_⟩,⟨by simp,trivial⟩,rfl,by omega⟩
   by_cases hjx:j=x
   .subst hjx;have:some u=some b:=by rw[<-hu,<-hb];simp
    cases this;exact hc
   .exact hx.2 j (by omega) b hb
  .simp only[gW]at hge;have:gX op c=false:=by
    rw[e,Vg];intro b hb;obtain⟨j,hj⟩:=Hu hb;have hj':j < d.data.toList.length:=(eG.1 hj).1;have hsz:d.data.toList.length=d.size:=by cases d;simp[ByteArray.size]
    simpa using hx.2 j (by omega) b (by rw[get];exact hj)
   rw[this];exact⟨rfl,rfl⟩
theorem aas:aW aT.gd 177 aon:=
 kD (cx:=aT) (n:=29) (cl:=[(206,aoh)]) aB ⟨aam,trivial⟩ Tryz.func177 λd hd=>by
  obtain⟨op,c,⟨⟩⟩:=d;exact⟨akK op c,cast (by kernel_rfl) (afr op c)⟩
def WI(r:Int):Bool:=decide (0<=r) && decide (r < 8)
def pK(op a b c obj n fn ord:Int):Int:=
 if uG op=false then 8 else
 if(!use op 0 && a != 0 || !use op 1 && b != 0 || !use op 2 && c != 0 || !use op 3 && obj != 0 || !use op 4 && n != 0 || !use op 5 && fn != 0 || !use op 6 && ord != 0)=true then 9 else
 if(!WI a || !WI b || !WI c)=true then 10 else
 if(decide (ord < 0) || decide (2 < ord))=true then 13 else
 if(use op 5 && decide (yA fn=(⟨#[]⟩:ByteArray)))=true then 8 else
 if(decide (op=1) && (decide (n < -2147483648) || decide (2147483647 < n)))=true then 2 else 0
theorem NZ{op:Int}{nm:ByteArray}{us:List Bool}{u:Unit} (hb:1<=op/\op<=22) (hd:NY[(op - 1).toNat]?=some (nm,us,u)):
 us=[use op 0,use op 1,use op 2,use op 3,use op 4,use op 5,use op 6]:=by
 have key:∀k:Fin 22,(NY[k.1]?).map (λr=>r.2.1)=some ([0,1,2,3,4,5,6].map λj=>(afk.getD k.1 []).getD j false):=by decide
 have h1:=key ⟨(op - 1).toNat,by omega⟩
 simp only at h1;rw[hd]at h1;simp only[Xh,Xp]at h1;rw[h1];simp[use,hb.1,hb.2]
abbrev akL:CT:={ ps:=[oP],pre:=λd=>True,res:=λd=>([],.one (.c (.v (.int .i64 (pK d.1.1 d.1.2.1 d.1.2.2.1 d.1.2.2.2.1 d.1.2.2.2.2.1 d.1.2.2.2.2.2.1 d.1.2.2.2.2.2.2.1 d.1.2.2.2.2.2.2.2.1))))) }
abbrev akM(op a b c obj n fn ord:Int):Nat->Option (St->kS):=λk=>match k with
 | 5=>some λ_=>.FT 8
 | 11=>some λ_=>.FT 4
 | _=>none
theorem afs(op a b c obj n fn ord:Int):
 let z11:=pK op a b c obj n fn ord;let z8:=qI z11 (8:Int);let z12:=[a,b,c,obj,n,fn,ord];let z2:=(0:Int)<=(0:Int)/\(0:Int) < (7:Int);let z10:=λ(Gq:Bool) (dL:Int)=>!Gq && !decide (dL=(0:Int));let z9:=qI z11 (9:Int);let z3:=(0:Int)<=(1:Int)/\(1:Int) < (7:Int);let z4:=(0:Int)<=(2:Int)/\(2:Int) < (7:Int);let z5:=(0:Int)<=(5:Int)/\(5:Int) < (7:Int);let z6:=(0:Int)<=(6:Int)/\(6:Int) < (7:Int);let z1:=λ(aft:Bool) (aat:Int)=>aft && (decide (aat < (0:Int)) || decide (8<=aat));let z7:=qI z11 (10:Int);True/\br (!uG op) z8 (iR (op - 1)/\(0<=op - 1/\op - 1 < (22:Int))/\∀(d:ByteArray×((Sh.arr 7 Sh.bool).pair Sh.unit).den),NY[(op - 1).toNat]?=some d->True/\((0:Int)<=(0:Int)/\0 < (z12.length:Int))/\∀(dL:Int),z12[0]?=some dL->z2/\0 < 7/\∀(Gq:Bool),(d.snd.fst)[0]?=some Gq->br (z10 Gq dL) z9 (iR (1:Int)/\((0:Int)<=(1:Int)/\1 < (z12.length:Int))/\∀(d_3:Int),z12[1]?=some d_3->z3/\1 < 7/\∀(d_4:Bool),(d.snd.fst)[1]?=some d_4->br (z10 d_4 d_3) z9 (iR (2:Int)/\((0:Int)<=(2:Int)/\2 < (z12.length:Int))/\∀(d_5:Int),z12[2]?=some d_5->z4/\2 < 7/\∀(d_6:Bool),(d.snd.fst)[2]?=some d_6->br (z10 d_6 d_5) z9 (iR (3:Int)/\((0:Int)<=(3:Int)/\3 < (z12.length:Int))/\∀(d_7:Int),z12[3]?=some d_7->((0:Int)<=(3:Int)/\(3:Int) < (7:Int))/\3 < 7/\∀(d_8:Bool),(d.snd.fst)[3]?=some d_8->br (z10 d_8 d_7) z9 (iR (4:Int)/\((0:Int)<=(4:Int)/\4 < (z12.length:Int))/\∀(d_9:Int),z12[4]?=some d_9->((0:Int)<=(4:Int)/\(4:Int) < (7:Int))/\4 < 7/\∀(aop:Bool),(d.snd.fst)[4]?=some aop->br (z10 aop d_9) z9 (iR (5:Int)/\((0:Int)<=(5:Int)/\5 < (z12.length:Int))/\∀(aoq:Int),z12[5]?=some aoq->z5/\5 < 7/\∀(aor:Bool),(d.snd.fst)[5]?=some aor->br (z10 aor aoq) z9 (iR (6:Int)/\((0:Int)<=(6:Int)/\6 < (z12.length:Int))/\∀(aos:Int),z12[6]?=some aos->z6/\6 < 7/\∀(aot:Bool),(d.snd.fst)[6]?=some aot->br (z10 aot aos) z9 (iR (7:Int)/\((0:Int)<=(0:Int)/\0 < (↑[a,b,c].length:Int))/\∀(aat:Int),[a,b,c][0]?=some aat->z2/\0 < 7/\∀(aft:Bool),(d.snd.fst)[0]?=some aft->br (z1 aft aat) z7 (iR (1:Int)/\((0:Int)<=(1:Int)/\1 < (↑[a,b,c].length:Int))/\∀(aou:Int),[a,b,c][1]?=some aou->z3/\1 < 7/\∀(aov:Bool),(d.snd.fst)[1]?=some aov->br (z1 aov aou) z7 (iR (2:Int)/\((0:Int)<=(2:Int)/\2 < (↑[a,b,c].length:Int))/\∀(aow:Int),[a,b,c][2]?=some aow->z4/\2 < 7/\∀(aox:Bool),(d.snd.fst)[2]?=some aox->br (z1 aox aow) z7 (iR (3:Int)/\z6/\6 < 7/\∀(aoy:Bool),(d.snd.fst)[6]?=some aoy->br (aoy && (decide (ord < 0) || decide (2 < ord))) (qI z11 (13:Int)) (z5/\5 < 7/\∀(akN:Bool),(d.snd.fst)[5]?=some akN->(akN=true->True)/\br (akN && decide (yA fn={ data:=#[]:ByteArray })) z8 (br (decide (op=1) && (decide (n < (-2147483648)) || decide (2147483647 < n))) (qI z11 (2:Int)) (qI z11 (0:Int))))))))))))))):=by
 conv=>zeta
 delta qI iR;refine⟨trivial,ah.2 ⟨λh=>?_,λh=>?_⟩⟩
 .have hk:uG op=false:=by simpa using h
  rw[show pK op a b c obj n fn ord=8 by simp[pK,hk]]
  exact⟨rfl,rfl⟩
 .have hk:uG op=true:=by simpa using h
  have hb:1<=op/\op<=22:=by simpa[uG]using hk
  refine⟨ay.2 (by omega),by omega,λd hd=>?_⟩
  obtain⟨nm,us,⟨⟩⟩:=d;have hu:=NZ hb hd;subst hu;clear hd;simp only[Ve,adF,Xp,forall_eq',ah,ay,yE,Pg,true_and,bg.one.injEq,SV.c.injEq,SC.v.injEq,Value.int.injEq,pK,hk,WI];generalize use op 0=u0;generalize use op 1=u1;generalize use op 2=u2;generalize use op 3=u3;generalize use op 4=u4;generalize use op 5=u5;generalize use op 6=u6
  repeat' (first | apply And.intro | intro _)
  all_goals first | omega | decide | skip
  all_goals simp_all
  all_goals grind
theorem N7:aW aT.gd 168 akL:=
 kD (cx:=aT) (n:=89) (cl:=[(197,aoi),(198,aok),(199,aol)]) aB ⟨aan,aap,aaq,trivial⟩ Tryz.func168 λd hd=>by
  obtain⟨⟨op,a,b,c,obj,n,fn,ord,⟨⟩⟩,⟨⟩⟩:=d;exact⟨akM op a b c obj n fn ord,cast (by kernel_rfl) (afs op a b c obj n fn ord)⟩
theorem afu(op:Int):gX op 65=use op 0/\gX op 66=use op 1/\gX op 67=use op 2/\gX op 79=use op 3/\gX op 78=use op 4/\gX op 70=use op 5/\gX op 82=use op 6:=by
 by_cases hb:1<=op/\op<=22
 .have key:∀k:Fin 22,([65,66,67,79,78,70,82].map λc:Int=>(fieldsD.getD k.1 ByteArray.empty).data.toList.any λb=>decide ((b.toNat:Int)=c))=[0,1,2,3,4,5,6].map λj=>(afk.getD k.1 []).getD j false:=by decide
  have h1:=key ⟨(op - 1).toNat,by omega⟩
  simp only[Vd,List.map_nil,List.cons.injEq,and_true]at h1;obtain⟨h1,h2,h3,h4,h5,h6,h7⟩:=h1;simp only[gX,use,hb.1,hb.2,decide_true,Ia,h1,h2,h3,h4,h5,h6,h7,and_self]
 .have:(decide (1<=op) && decide (op<=22))=false:=by simp only[A98,gW];omega
  simp only[gX,use,this,Bool.false_and,and_self]
abbrev aoz:CT:={ ps:=[oP],pre:=λd=>True,res:=λd=>([],.one (.c (.v (.int .i64 (pK d.1.1 d.1.2.1 d.1.2.2.1 d.1.2.2.2.1 d.1.2.2.2.2.1 d.1.2.2.2.2.2.1 d.1.2.2.2.2.2.2.1 d.1.2.2.2.2.2.2.2.1))))) }
theorem afv(op a b c obj n fn ord:Int):
 let z4:=pK op a b c obj n fn ord;let z1:=qI z4 (8:Int);let z2:=decide (0<=a) && decide (a < 8);let z3:=decide (0<=b) && decide (b < 8);br (decide (op < 1) || decide (22 < op)) z1 (True/\((!(!gX op (65:Int) && !decide (a=0)))=true->True)/\((!(!gX op (65:Int) && !decide (a=0) || !gX op (66:Int) && !decide (b=0)))=true->True)/\((!(!gX op (65:Int) && !decide (a=0) || !gX op (66:Int) && !decide (b=0) || !gX op (67:Int) && !decide (c=0)))=true->True)/\((!(!gX op (65:Int) && !decide (a=0) || !gX op (66:Int) && !decide (b=0) || !gX op (67:Int) && !decide (c=0) || !gX op (79:Int) && !decide (obj=0)))=true->True)/\((!(!gX op (65:Int) && !decide (a=0) || !gX op (66:Int) && !decide (b=0) || !gX op (67:Int) && !decide (c=0) || !gX op (79:Int) && !decide (obj=0) || !gX op (78:Int) && !decide (n=0)))=true->True)/\((!(!gX op (65:Int) && !decide (a=0) || !gX op (66:Int) && !decide (b=0) || !gX op (67:Int) && !decide (c=0) || !gX op (79:Int) && !decide (obj=0) || !gX op (78:Int) && !decide (n=0) || !gX op (70:Int) && !decide (fn=0)))=true->True)/\br (!gX op (65:Int) && !decide (a=0) || !gX op (66:Int) && !decide (b=0) || !gX op (67:Int) && !decide (c=0) || !gX op (79:Int) && !decide (obj=0) || !gX op (78:Int) && !decide (n=0) || !gX op (70:Int) && !decide (fn=0) || !gX op (82:Int) && !decide (ord=0)) (qI z4 (9:Int)) (True/\((!!z2)=true->True)/\((!(!z2 || !z3))=true->True)/\br (!z2 || !z3 || !(decide (0<=c) && decide (c < 8))) (qI z4 (10:Int)) (br (decide (ord < 0) || decide (2 < ord)) (qI z4 (13:Int)) (True/\(gX op 70=true->True)/\br (gX op (70:Int) && decide (yA fn={ data:=#[]:ByteArray })) z1 (br (decide (op=1) && (decide (n < (-2147483648)) || decide (2147483647 < n))) (qI z4 (2:Int)) (qI z4 (0:Int))))))):=by
 conv=>zeta
 delta qI;obtain⟨e0,e1,e2,e3,e4,e5,e6⟩:=afu op;rw[e0,e1,e2,e3,e4,e5,e6];simp only[ah,ay,true_and,bg.one.injEq,SV.c.injEq,SC.v.injEq,Value.int.injEq,pK,uG,WI];generalize use op 0=u0;generalize use op 1=u1;generalize use op 2=u2;generalize use op 3=u3;generalize use op 4=u4;generalize use op 5=u5;generalize use op 6=u6
 repeat' (first | apply And.intro | intro _)
 all_goals first | trivial | omega | skip
 all_goals first | grind | (simp_all<;>grind)
theorem aau:aW aT.gd 176 aoz:=
 kD (cx:=aT) (n:=132) (cl:=[(177,aon),(204,aoj),(205,aom)]) aB ⟨aas,aao,aar,trivial⟩ Tryz.func176 λd hd=>by
  obtain⟨⟨op,a,b,c,obj,n,fn,ord,⟨⟩⟩,⟨⟩⟩:=d;exact⟨λ_=>none,cast (by kernel_rfl) (afv op a b c obj n fn ord)⟩
def dU(l:List Int) (x:Int):Bool:=l.any λy=>decide (y=x)
def QJ(l:List Int) (x:Int):Nat:=(l.takeWhile λy=>decide (y < x)).length
def CO(l:List Int) (x:Int):List Int:=l.take (QJ l x)++[x]++l.drop (QJ l x)
def bM(l:List Int):List Int:=l.foldl (λo x=>if dU o x then o else CO o x) []
theorem N8(l:List Int) (x:Int):(CO l x).length=l.length+1:=by
 simp only[CO,kT,lZ,zk,yE,Pg];omega
theorem WJ(l:List Int):(bM l).length<=l.length:=by
 have:∀(l o:List Int),(l.foldl (λo x=>if dU o x then o else CO o x) o).length<=o.length+l.length:=by
  intro l
  induction l with
  | nil=>intro o;simp
  | cons x l ih=>
    intro o;simp only[L6,yE];refine qP (ih _) ?_;split
    .omega
    .rw[N8];omega
 have h:=this l [];rw[Pg,Hy]at h;exact h
def SS(l:List Int):Prop:=l.Pairwise (· < ·)
theorem QK:∀{l m:List Int},SS l->SS m->(∀x,x∈l↔x∈m)->l=m
 | [],[],_,_,_=>rfl
 | [],y :: m,_,_,h=>by have:=(h y).2 (by simp);simp at this
 | x :: l,[],_,_,h=>by have:=(h x).1 (by simp);simp at this
 | x :: l,y :: m,hl,hm,h=>by
   obtain⟨h1,h2⟩:=A80.1 hl;obtain⟨h3,h4⟩:=A80.1 hm;have hxy:x=y:=by
    have a:=(h x).1 (by simp)
    have b:=(h y).2 (by simp)
    rcases ng.1 a with a | a
    .exact a
    .rcases ng.1 b with b | b
     .exact b.symm
     .have:=h3 x a;have:=h1 y b;omega
   subst hxy
   congr 1
   refine QK h2 h4 λz=>?_
   have hz:=h z;simp only[ng]at hz;constructor
   .intro hh;rcases hz.1 (.inr hh) with rfl | h5
    .have:=h1 z hh;omega
    .exact h5
   .intro hh;rcases hz.2 (.inr hh) with rfl | h5
    .have:=h3 z hh;omega
    .exact h5
theorem jc{x:Int}:dU l x=true↔x∈l:=by
 unfold dU;rw[Xq];constructor
 .rintro⟨y,h1,h2⟩;simp only[dW]at h2;subst h2;exact h1
 .intro h;exact⟨x,h,by simp⟩
theorem pO{x:Int}:dU l x=false↔x∉l:=by
 rw[<-jc];simp
theorem akO(l:List Int) (x:Int):l.take (QJ l x)=l.takeWhile λy=>decide (y < x):=by
 unfold QJ
 induction l with
 | nil=>rfl
 | cons a l ih=>
   simp only[adK];split
   .simp[ih]
   .simp
theorem akP(l:List Int) (x:Int):l.drop (QJ l x)=l.dropWhile λy=>decide (y < x):=by
 unfold QJ
 induction l with
 | nil=>rfl
 | cons a l ih=>
   simp only[adK,List.dropWhile_cons];split
   .simp[ih]
   .simp
theorem TQ:∀{l:List Int}{x:Int},SS l->∀y∈l.dropWhile (λy=>decide (y < x)),x<=y
 | [],_,_,y,h=>by simp at h
 | a :: l,x,hl,y,h=>by
   obtain⟨h1,h2⟩:=A80.1 hl;simp only[List.dropWhile_cons]at h;split at h
   .exact TQ h2 y h
   .rename_i hn;simp only[dW]at hn;rcases ng.1 h with rfl | h
    .omega
    .have:=h1 y h;omega
theorem air:∀{l:List Int}{x:Int},∀y∈l.takeWhile (λy=>decide (y < x)),y < x
 | [],_,y,h=>by simp at h
 | a :: l,x,y,h=>by
   simp only[adK]at h;split at h
   .rename_i hn;simp only[dW]at hn;rcases ng.1 h with rfl | h
    .exact hn
    .exact air y h
   .simp at h
theorem akQ{x:Int} (hl:SS l) (hx:x∉l):SS (CO l x):=by
 unfold CO SS;rw[akO,akP];have hp:SS (l.takeWhile (λy=>decide (y < x))++l.dropWhile (λy=>decide (y < x))):=by rw[A93];exact hl
 obtain⟨p1,p2,p3⟩:=Vf.1 hp;rw[Dj,Vf];refine⟨p1,?_,?_⟩
 .rw[aiV,A80];refine⟨λy hy=>?_,p2⟩
  have h1:=TQ hl y hy;have h2:y≠x:=λe=>hx (by rw[<-e];rw[<-A93 (p:=λy=>decide (y < x)) (l:=l)];exact aiW _ hy)
  omega
 .intro a ha b hb;rw[aiV]at hb;rcases ng.1 hb with rfl | hb
  .exact air a ha
  .exact p3 a ha b hb
theorem afw{x y:Int}:y∈CO l x↔y=x\/y∈l:=by
 unfold CO;rw[DY,DY,Xg]
 conv=>rhs;rw[<-Xf (QJ l x) l,DY]
 constructor
 .rintro((h | h) | h)
  .exact .inr (.inl h)
  .exact .inl h
  .exact .inr (.inr h)
 .rintro(h | h | h)
  .exact .inl (.inr h)
  .exact .inl (.inl h)
  .exact .inr h
theorem Eh:∀(l o:List Int),SS o->SS (l.foldl (λo x=>if dU o x then o else CO o x) o)/\∀y,y∈l.foldl (λo x=>if dU o x then o else CO o x) o↔y∈o\/y∈l
 | [],o,h=>⟨h,λy=>by simp⟩
 | x :: l,o,h=>by
   simp only[L6];cases hx:dU o x with
   | true=>
     simp only[if_true];obtain⟨h1,h2⟩:=Eh l o h;refine⟨h1,λy=>?_⟩
     rw[h2,ng];have:=jc.1 hx;constructor
     .rintro(h | h)
      .exact .inl h
      .exact .inr (.inr h)
     .rintro(h | rfl | h)
      .exact .inl h
      .exact .inl this
      .exact .inr h
   | false=>
     simp only[adL,Pv];obtain⟨h1,h2⟩:=Eh l (CO o x) (akQ h (pO.1 hx));refine⟨h1,λy=>?_⟩
     rw[h2,ng,afw];constructor
     .rintro((h | h) | h)
      .exact .inr (.inl h)
      .exact .inl h
      .exact .inr (.inr h)
     .rintro(h | h | h)
      .exact .inl (.inr h)
      .exact .inl (.inl h)
      .exact .inr h
theorem Aq(l:List Int):SS (bM l):=(Eh l [] List.Pairwise.nil).1
theorem Ar{x:Int}:x∈bM l↔x∈l:=by
 have:=(Eh l [] List.Pairwise.nil).2 x;simpa[bM]using this
theorem N9{d:Array Int} (hs:∀i j,i < j->j < d.size->d[i]!<=d[j]!):∀m,m<=d.size ->
 SS (Lib.compactUpTo d m)/\(∀x,x∈Lib.compactUpTo d m↔∃j < m,d[j]! = x)
 | 0,_=>⟨by simp[Lib.compactUpTo,SS],λx=>by simp[Lib.compactUpTo]⟩
 | m+1,hm=>by
   obtain⟨h1,h2⟩:=N9 hs m (by omega)
   rw[Lib.compactUpTo_succ];have le:∀x∈Lib.compactUpTo d m,∃j < m,d[j]! = x:=λx hx=>(h2 x).1 hx
   cases hk:Lib.keeps d m with
   | true=>
     simp only[if_true];constructor
     .refine Vf.2 ⟨h1,by simp,λa ha b hb=>?_⟩
      simp only[Xg]at hb;subst hb;obtain⟨j,hj,rfl⟩:=le a ha;have h3:m≠0:=by omega
      simp only[Lib.keeps,dW,h3,false_or]at hk;have h4:=hs (m - 1) m (by omega) (by omega)
      by_cases hj2:j=m - 1
      .subst hj2;omega
      .have:=hs j (m - 1) (by omega) (by omega);omega
     .intro x;rw[DY,h2,Xg];constructor
      .rintro(⟨j,hj,e⟩ | e)
       .exact⟨j,by omega,e⟩
       .exact⟨m,by omega,e.symm⟩
      .rintro⟨j,hj,e⟩
       by_cases hj2:j=m
       .subst hj2;exact .inr e.symm
       .exact .inl ⟨j,by omega,e⟩
   | false=>
     simp only[adL,Pv,RH];refine⟨h1,λx=>?_⟩
     rw[h2];have h3:m≠0/\d[m]! = d[m - 1]!:=by simpa[Lib.keeps]using hk
     constructor
     .rintro⟨j,hj,e⟩;exact⟨j,by omega,e⟩
     .rintro⟨j,hj,e⟩
      by_cases hj2:j=m
      .subst hj2;exact⟨j - 1,by omega,by rw[<-h3.2];exact e⟩
      .exact⟨j,by omega,e⟩
theorem Oa(l:List Int):(jK l).Pairwise (·<=·):=by
 have h:(jK l).Pairwise (λx y=>decide (x<=y)=true):=List.pairwise_mergeSort (λa b c h1 h2=>by simp at *;omega) (λa b=>by simp;omega) l
 exact h.imp λh=>by simpa using h
theorem aav{x:Int}:x∈jK l↔x∈l:=(List.mergeSort_perm l _).mem_iff
theorem Ob(l:List Int):SS (Lib.compact (jK l))/\∀x,x∈Lib.compact (jK l)↔x∈l:=by
 have hs:∀i j,i < j->j < (jK l).toArray.size->(jK l).toArray[i]!<=(jK l).toArray[j]!:=by
  intro i j hij hj;have hj':j < (jK l).length:=by simpa using hj
  have:=aiR.1 (Oa l) i j (by omega) hj' hij
  rw[getElem!_pos _ i (by simp;omega),getElem!_pos _ j (by simpa using hj)]
  simpa using this
 obtain⟨h1,h2⟩:=N9 hs (jK l).length (by simp)
 refine⟨h1,λx=>?_⟩
 show x∈Lib.compactUpTo (jK l).toArray (jK l).length↔_;rw[h2,<-aav,List.mem_iff_getElem];constructor
 .rintro⟨j,hj,e⟩;exact⟨j,hj,by rw[getElem!_pos _ j (by simpa using hj)]at e;simpa using e⟩
 .rintro⟨j,hj,e⟩;exact⟨j,hj,by rw[getElem!_pos _ j (by simpa using hj)];simpa using e⟩
theorem afx(l:List Int):Lib.compact (jK l)=bM l:=
 QK (Ob l).1 (Aq l) λx=>by rw[(Ob l).2,Ar]
end Go.Proofs.YtjhenjhcbcalpaaGreatDoor
namespace Go.Proofs
open Go.Shelf
def Tryz.lays189_ren:Go.Shelf.Ren:=⟨fun | 189=>200 | 125=>213 | 257=>212 | 128=>225 | 129=>226 | 294=>216 | 295=>217 | 296=>218 | 297=>219 | 298=>220 | 299=>221 | 216=>222 | 300=>223 | 301=>224 | 328=>227 | 329=>228 | 330=>229 | 331=>230 | 332=>231 | 215=>232 | 343=>233 | n=>n,fun | 28=>31 | 3=>3 | 46=>217 | 0=>0 | 51=>167 | 53=>230 | 4=>4 | 183=>222 | 182=>221 | 131=>95 | 5=>5 | 9=>9 | 218=>231 | 222=>235 | 228=>237 | 229=>165 | n=>n,fun | n=>n⟩
theorem Tryz.lays189:Go.Proofs.Lays.n189 Tryz.prog Tryz.lays189_ren:={
 mixed:=by kernel_rfl
 f125:=Tryz.func213.trans (tK some (by kernel_rfl))
 f128:=Tryz.func225.trans (tK some (by kernel_rfl))
 f129:=Tryz.func226.trans (tK some (by kernel_rfl))
 f189:=Tryz.func200.trans (tK some (by kernel_rfl))
 f215:=Tryz.func232.trans (tK some (by kernel_rfl))
 f216:=Tryz.func222.trans (tK some (by kernel_rfl))
 f257:=Tryz.func212.trans (tK some (by kernel_rfl))
 f294:=Tryz.func216.trans (tK some (by kernel_rfl))
 f295:=Tryz.func217.trans (tK some (by kernel_rfl))
 f296:=Tryz.func218.trans (tK some (by kernel_rfl))
 f297:=Tryz.func219.trans (tK some (by kernel_rfl))
 f298:=Tryz.func220.trans (tK some (by kernel_rfl))
 f299:=Tryz.func221.trans (tK some (by kernel_rfl))
 f300:=Tryz.func223.trans (tK some (by kernel_rfl))
 f301:=Tryz.func224.trans (tK some (by kernel_rfl))
 f328:=Tryz.func227.trans (tK some (by kernel_rfl))
 f329:=Tryz.func228.trans (tK some (by kernel_rfl))
 f330:=Tryz.func229.trans (tK some (by kernel_rfl))
 f331:=Tryz.func230.trans (tK some (by kernel_rfl))
 f332:=Tryz.func231.trans (tK some (by kernel_rfl))
 f343:=Tryz.func233.trans (tK some (by kernel_rfl))
 t0:=Tryz.underlying0
 a0:=Tryz.isAgg0
 z0:=Tryz.sizeOf0
 v0:=Tryz.zeroValue0
 t3:=Tryz.underlying3
 a3:=Tryz.isAgg3
 z3:=Tryz.sizeOf3
 v3:=Tryz.zeroValue3
 t4:=Tryz.underlying4
 a4:=Tryz.isAgg4
 z4:=Tryz.sizeOf4
 v4:=Tryz.zeroValue4
 t5:=Tryz.underlying5
 a5:=Tryz.isAgg5
 z5:=Tryz.sizeOf5
 v5:=Tryz.zeroValue5
 t9:=Tryz.underlying9
 a9:=Tryz.isAgg9
 z9:=Tryz.sizeOf9
 v9:=Tryz.zeroValue9
 t28:=Tryz.underlying31
 a28:=Tryz.isAgg31
 z28:=Tryz.sizeOf31
 v28:=Tryz.zeroValue31
 t46:=Tryz.underlying217
 a46:=Tryz.isAgg217
 z46:=Tryz.sizeOf217
 v46:=Tryz.zeroValue217
 t51:=Tryz.underlying167
 a51:=Tryz.isAgg167
 z51:=Tryz.sizeOf167
 v51:=Tryz.zeroValue167
 t53:=Tryz.underlying230
 a53:=Tryz.isAgg230
 z53:=Tryz.sizeOf230
 v53:=Tryz.zeroValue230
 t131:=Tryz.underlying95
 a131:=Tryz.isAgg95
 z131:=Tryz.sizeOf95
 v131:=Tryz.zeroValue95
 t182:=Tryz.underlying221
 a182:=Tryz.isAgg221
 z182:=Tryz.sizeOf221
 v182:=Tryz.zeroValue221
 t183:=Tryz.underlying222
 a183:=Tryz.isAgg222
 z183:=Tryz.sizeOf222
 v183:=Tryz.zeroValue222
 t218:=Tryz.underlying231
 a218:=Tryz.isAgg231
 z218:=Tryz.sizeOf231
 v218:=Tryz.zeroValue231
 t222:=Tryz.underlying235
 a222:=Tryz.isAgg235
 z222:=Tryz.sizeOf235
 v222:=Tryz.zeroValue235
 t228:=Tryz.underlying237
 a228:=Tryz.isAgg237
 z228:=Tryz.sizeOf237
 v228:=Tryz.zeroValue237
 t229:=Tryz.underlying165
 a229:=Tryz.isAgg165
 z229:=Tryz.sizeOf165
 v229:=Tryz.zeroValue165 }
open Go.Sort Go.RowKit in
theorem Tryz.slices_Sort_int(blk off cap:Nat) (zs:List Int) (w:World) (hH:Holds (Value.int .i64) w blk off zs.toArray) (hblk:blk < w.heap.size) (hsz:zs.length < 4611686018427387904):
 Calls Tryz.prog 200 #[.slice (some ⟨blk,off,none⟩) zs.length cap] w λe w'=>
  e=.returned (.tuple #[])/\∃n os,w'=grow (putRow (Value.int .i64) (Sort.ahead w n) blk off (zs.mergeSort λx y=>decide (x<=y)).toArray) os:=Any.slices_Sort_int Tryz.lays189 blk off cap zs w hH hblk hsz
def Tryz.laysNm220_ren:Go.Shelf.Ren:=⟨fun | 20=>201 | n=>n,fun | 22=>31 | 3=>3 | 4=>4 | 0=>0 | n=>n,fun | n=>n⟩
theorem Tryz.laysNm220:Go.Proofs.Lays2.n20 Tryz.prog Tryz.laysNm220_ren:={
 mixed:=by kernel_rfl
 f20:=Tryz.func201.trans (tK some (by kernel_rfl))
 t0:=Tryz.underlying0
 a0:=Tryz.isAgg0
 z0:=Tryz.sizeOf0
 v0:=Tryz.zeroValue0
 t3:=Tryz.underlying3
 a3:=Tryz.isAgg3
 z3:=Tryz.sizeOf3
 v3:=Tryz.zeroValue3
 t4:=Tryz.underlying4
 a4:=Tryz.isAgg4
 z4:=Tryz.sizeOf4
 v4:=Tryz.zeroValue4
 t22:=Tryz.underlying31
 a22:=Tryz.isAgg31
 z22:=Tryz.sizeOf31
 v22:=Tryz.zeroValue31
 i3:=by kernel_rfl }
open Go.RowKit Go.Lib Go.Sort in
theorem Tryz.slices_Compact_int(blk off cap:Nat) (zs:List Int) (w:World) (hH:Holds (Value.int .i64) w blk off zs.toArray) (hsz:zs.length<=9223372036854775807) (hcap:zs.length<=cap):
 Calls Tryz.prog 201 #[.slice (some ⟨blk,off,none⟩) zs.length cap] w λe w'=>e=.returned (.slice (some ⟨blk,off,none⟩) (Lib.compact zs).length cap)/\∃q,w'=putRow (Value.int .i64) (Sort.ahead w q) blk off (Lib.compact zs++List.replicate (zs.length - (Lib.compact zs).length) 0).toArray:=Any.slices_Compact_int Tryz.laysNm220 blk off cap zs w hH hsz hcap
open Go.RowKit Go.Lib Go.Sort in
theorem Tryz.slices_Compact_int_empty(a:Option Addr) (cap:Nat) (w:World):
 Calls Tryz.prog 201 #[.slice a 0 cap] w λe w'=>e=.returned (.slice a 0 cap)/\w'=w:=Any.slices_Compact_int_empty Tryz.laysNm220 a cap w
end Go.Proofs
namespace Go.Proofs.YtjhenjhcbcalpaaGreatDoor
open Go Go.ni
variable {k:Nat}
def Mt(l:List Int):Prop:=l=[]
theorem Mt.nil:Mt []:=rfl
abbrev ais:CT:={ ps:=[.int .u64],pre:=λd=>d.1=0,res:=λd=>([],.one (.c (.v (.int .i64 0)))) }
abbrev akR  : Nat->Option (St->kS):=λ_=>none
theorem afy :
 let z1:=[(8:UInt8),(8:UInt8),(8:UInt8),(8:UInt8),(8:UInt8),(8:UInt8),(8:UInt8),(8:UInt8),(8:UInt8),(8:UInt8),(8:UInt8),(8:UInt8),(8:UInt8),(8:UInt8),(8:UInt8),(8:UInt8),(8:UInt8),(8:UInt8),(8:UInt8),(8:UInt8),(8:UInt8),(8:UInt8),(8:UInt8),(8:UInt8),(8:UInt8),(8:UInt8),(8:UInt8),(8:UInt8),(8:UInt8),(8:UInt8),(8:UInt8),(8:UInt8),(8:UInt8),(8:UInt8),(8:UInt8),(8:UInt8),(8:UInt8),(8:UInt8),(8:UInt8),(8:UInt8),(8:UInt8),(8:UInt8),(8:UInt8),(8:UInt8),(8:UInt8),(8:UInt8),(8:UInt8),(8:UInt8),(8:UInt8),(8:UInt8),(8:UInt8),(8:UInt8),(8:UInt8),(8:UInt8),(8:UInt8),(8:UInt8),(8:UInt8),(8:UInt8),(8:UInt8),(8:UInt8),(8:UInt8),(8:UInt8),(8:UInt8),(8:UInt8)];((0:Int)<=(0:Int)/\(0:Int) < (256:Int))/\∀(u:UInt8),{ data:=(([(0:UInt8),(1:UInt8),(2:UInt8),(2:UInt8),(3:UInt8),(3:UInt8),(3:UInt8),(3:UInt8),(4:UInt8),(4:UInt8),(4:UInt8),(4:UInt8),(4:UInt8),(4:UInt8),(4:UInt8),(4:UInt8),(5:UInt8),(5:UInt8),(5:UInt8),(5:UInt8),(5:UInt8),(5:UInt8),(5:UInt8),(5:UInt8),(5:UInt8),(5:UInt8),(5:UInt8),(5:UInt8),(5:UInt8),(5:UInt8),(5:UInt8),(5:UInt8),(6:UInt8),(6:UInt8),(6:UInt8),(6:UInt8),(6:UInt8),(6:UInt8),(6:UInt8),(6:UInt8),(6:UInt8),(6:UInt8),(6:UInt8),(6:UInt8),(6:UInt8),(6:UInt8),(6:UInt8),(6:UInt8),(6:UInt8),(6:UInt8),(6:UInt8),(6:UInt8),(6:UInt8),(6:UInt8),(6:UInt8),(6:UInt8),(6:UInt8),(6:UInt8),(6:UInt8),(6:UInt8),(6:UInt8),(6:UInt8),(6:UInt8),(6:UInt8)].append [(7:UInt8),(7:UInt8),(7:UInt8),(7:UInt8),(7:UInt8),(7:UInt8),(7:UInt8),(7:UInt8),(7:UInt8),(7:UInt8),(7:UInt8),(7:UInt8),(7:UInt8),(7:UInt8),(7:UInt8),(7:UInt8),(7:UInt8),(7:UInt8),(7:UInt8),(7:UInt8),(7:UInt8),(7:UInt8),(7:UInt8),(7:UInt8),(7:UInt8),(7:UInt8),(7:UInt8),(7:UInt8),(7:UInt8),(7:UInt8),(7:UInt8),(7:UInt8),(7:UInt8),(7:UInt8),(7:UInt8),(7:UInt8),(7:UInt8),(7:UInt8),(7:UInt8),(7:UInt8),(7:UInt8),(7:UInt8),(7:UInt8),(7:UInt8),(7:UInt8),(7:UInt8),(7:UInt8),(7:UInt8),(7:UInt8),(7:UInt8),(7:UInt8),(7:UInt8),(7:UInt8),(7:UInt8),(7:UInt8),(7:UInt8),(7:UInt8),(7:UInt8),(7:UInt8),(7:UInt8),(7:UInt8),(7:UInt8),(7:UInt8),(7:UInt8)]).append (z1.append z1)).toArray:ByteArray }[0]?=some u->iR (u.toNat:Int)/\iR (0+(u.toNat:Int))/\qI 0 (0+(u.toNat:Int)):=by
 conv=>zeta
 delta qI iR;refine⟨by omega,λu hu=>?_⟩
 have hu:some (0:UInt8)=some u:=hu;cases hu;exact⟨ay.2 (by decide),ay.2 (by decide),rfl,rfl⟩
theorem aaw:aW aT.gd 226 ais:=
 kD (cx:=aT) (n:=25) (cl:=[]) aB trivial Tryz.func226 λd hd=>by
  obtain⟨x,⟨⟩⟩:=d;simp only at hd;subst hd;exact⟨akR ,cast (by kernel_rfl) (afy )⟩
abbrev ait:CT:={ ps:=[.int .u64],pre:=λd=>d.1=0,res:=λd=>([],.one (.c (.v (.int .i64 0)))) }
abbrev akS  : Nat->Option (St->kS):=λ_=>none
theorem afz :
 (0:(Sh.int IntKind.u64).den)=(0:(Sh.int IntKind.u64).den)/\qI 0 (0:Int):=by
 delta qI;exact⟨rfl,rfl,rfl⟩
theorem aax:aW aT.gd 213 ait:=
 kD (cx:=aT) (n:=8) (cl:=[(226,ais)]) aB ⟨aaw,trivial⟩ Tryz.func213 λd hd=>by
  obtain⟨x,⟨⟩⟩:=d;simp only at hd;subst hd;exact⟨akS ,cast (by kernel_rfl) (afz )⟩
abbrev aiu:CT:={ ps:=[.sl (.int .i64),.int .i64,.int .i64],pre:=λd=>Mt d.1/\d.2.1=0/\d.2.2.1=0,res:=λd=>([],.iO []) }
abbrev akT  : Nat->Option (St->kS):=λ_=>some λ_=>.FT 1
theorem afA :
 iR (1:Int)/\rT [] []:=by
 delta rT iR;exact⟨ay.2 (by omega),rfl,rfl⟩
theorem aay:aW aT.gd 216 aiu:=
 kD (cx:=aT) (n:=49) (cl:=[]) aB trivial Tryz.func216 λd hd=>by
  obtain⟨l,a,b,⟨⟩⟩:=d;obtain⟨h1,h2,h3⟩:=hd;simp only at h1 h2 h3;have h1:l=[]:=h1;subst h1;subst h2;subst h3;exact⟨akT ,cast (by kernel_rfl) (afA )⟩
abbrev aiv:CT:={ ps:=[.sl (.int .i64),.int .i64,.int .i64,.int .i64],pre:=λd=>Mt d.1/\d.2.1=0/\d.2.2.1=0,res:=λd=>([],.iO []) }
abbrev akU(m:Int):Nat->Option (St->kS):=λ_=>some λ_=>.FT 1
theorem afB(m:Int):
 iR (0:Int)/\(Mt []/\(0:Int)=(0:Int)/\(0:Int)=(0:Int))/\rT [] []:=by
 delta rT iR;exact⟨ay.2 (by omega),⟨rfl,rfl,rfl⟩,rfl,rfl⟩
theorem aaz:aW aT.gd 212 aiv:=
 kD (cx:=aT) (n:=134) (cl:=[(216,aiu)]) aB ⟨aay,trivial⟩ Tryz.func212 λd hd=>by
  obtain⟨l,a,b,m,⟨⟩⟩:=d;obtain⟨h1,h2,h3⟩:=hd;simp only at h1 h2 h3;have h1:l=[]:=h1;subst h1;subst h2;subst h3;exact⟨akU m,cast (by kernel_rfl) (afB m)⟩
abbrev aoA:CT:={ ps:=[.sl (.int .i64)],pre:=λd=>Mt d.1,res:=λd=>([],.iO []) }
abbrev akV  : Nat->Option (St->kS):=λ_=>none
theorem afC :
 (0:Int)=(0:(Sh.int IntKind.u64).den)/\(Mt []/\(0:Int)=(0:Int)/\(0:Int)=(0:Int))/\rT [] []:=by
 delta rT;exact⟨rfl,⟨rfl,rfl,rfl⟩,rfl,rfl⟩
theorem Oc:aW aT.gd 200 aoA:=
 kD (cx:=aT) (n:=11) (cl:=[(212,aiv),(213,ait)]) aB ⟨aaz,aax,trivial⟩ Tryz.func200 λd hd=>by
  obtain⟨l,⟨⟩⟩:=d;have hd:l=[]:=hd;subst hd;exact⟨akV ,cast (by kernel_rfl) (afC )⟩
abbrev xB:CT:={ ps:=[.sl (.int .i64)],pre:=λd=>d.1.length<=1000000,res:=λd=>([.row 3 (.int .i64) (d.1)],.one (.c (.row 0))) }
abbrev Xj:List (Nat×IP):=[]
abbrev Au:=Sh.int IntKind.i64
theorem akW(l:List Int) (aH:xB.pre (l,())):
 let z1:=[au.row (3:TypeId) Au l];∀(b:Bool),(b=true->l=[])->br b (z1=[au.row (3:TypeId) Au []]/\bg.one Jl=bg.one Jl) (oH ((0:Nat)+List.length (l)) (8:Nat)/\z1=[au.row (3:TypeId) Au ([]++l)]/\bg.one Jl=bg.one Jl):=by
 conv=>zeta
 delta Au Jl;have hp:l.length<=1000000:=aH;intro b hb;refine ah.2 ⟨λh=>by rw[hb h];exact⟨rfl,rfl⟩,λh=>⟨?_,by simp,rfl⟩⟩
 rw[fO];omega
theorem Ei:aW aT.gd 58 xB:=
 KJ (il:=Xj) (rc:=[.row 3 (.int .i64)]) (cx:=aT) (n:=8) (cl:=[]) (by kernel_rfl) aB trivial trivial Tryz.func58 (by kernel_rfl) (by kernel_rfl) rfl (by kernel_rfl) (by kernel_rfl) λd hd=>by
  obtain⟨l,⟨⟩⟩:=d;exact⟨λ_=>none,cast (by kernel_rfl) (akW l hd)⟩
def Iu(l:List Int) (x:Int):Int:=match l.findIdx? (λy=>decide (y=x)) with | some k=>(k:Int) | none=>-1
theorem QL{l:List Int}{x:Int} (hd:l[k]?=some x) (hn:∀j < k,∀y,l[j]?=some y->y≠x):Iu l x=k:=by
 have gZ:k < l.length:=(eG.1 hd).1;have:l.findIdx? (λy=>decide (y=x))=some k:=by
  rw[A49];refine⟨gZ,by have:=(eG.1 hd).2;simp[this],λj hj=>?_⟩
  have:=hn j hj l[j] (kR (by omega))
  simpa using this
 simp[Iu,this]
theorem WL{l:List Int}{x:Int} (hn:∀(j:Nat) y,l[j]?=some y->y≠x):Iu l x = -1:=by
 have:l.findIdx? (λy=>decide (y=x))=none:=by
  rw[A71];intro y hy;obtain⟨j,hj⟩:=Hu hy;simpa using hn j y hj
 simp[Iu,this]
abbrev aaA:CT:={ ps:=[.sl (.int .i64),.int .i64],pre:=λd=>d.1.length<=4611686018427387904,res:=λd=>([],.one (.c (.v (.int .i64 (Iu d.1 d.2.1))))) }
abbrev akX(l:List Int) (x:Int):Nat->Option (St->kS):=λ_=>some λ_=>.inv { α:=Nat,slots:=λk=>[(8,.c (.v (.int .i64 k)))],res:=λ_=>[],inv:=λk=>k<=l.length/\∀j < k,∀y,l[j]?=some y->y≠x,meas:=λk=>l.length - k }
abbrev fD:=Go.ni.Gd×Go.ni.au
theorem afD(l:List Int) (x:Int) (aH:aaA.pre (l,x,())):
 let z1:=λ(x_1:Nat)=>(x_1<=l.length/\∀(j:Nat),j < x_1->∀(y:Int),l[j]?=some y->y≠x);(∃x_1,(z1 x_1)/\(cI 0=cI (x_1:Int)/\True)/\([]:List fD)=[])/\∀(x_1:Nat),(z1 x_1)->br (decide ((x_1:Int) < (l.length:Int))) ((0<=(x_1:Int)/\(x_1:Int) < (l.length:Int))/\∀(d:Int),l[(x_1:Int).toNat]?=some d->br (decide (x=d)) (qI (Iu l x) (x_1:Int)) (iR ((x_1:Int)+(1:Int))/\∃x',(x'<=l.length/\∀(j:Nat),j < x'->∀(y:Int),l[j]?=some y->y≠x)/\(cI ((x_1:Int)+(1:Int))=cI (x':Int)/\True)/\([]:List fD)=[]/\l.length - x' < l.length - x_1)) (qI (Iu l x) (-1:Int)):=by
 conv=>zeta
 delta fD cI qI iR;refine⟨⟨0,⟨by omega,λj hj=>by omega⟩,⟨rfl,trivial⟩,rfl⟩,λk hk=>ah.2 ⟨λh=>?_,λh=>?_⟩⟩
 .simp only[dW]at h;have hp:l.length<=4611686018427387904:=aH;refine⟨by omega,λd hd=>?_⟩
  have hd:l[k]?=some d:=by simpa using hd
  refine ah.2 ⟨λhe=>?_,λhe=>⟨ay.2 (by omega),k+1,⟨by omega,λj hj y hy=>?_⟩,⟨rfl,trivial⟩,rfl,by omega⟩⟩
  .have he:x=d:=by simpa using he
   rw[QL (by rw[hd,he]) hk.2];exact⟨rfl,rfl⟩
  .by_cases jY:j=k
   .subst jY;rw[hd]at hy;cases hy;intro hh;simp[hh]at he
   .exact hk.2 j (by omega) y hy
 .simp only[gW]at h;rw[WL (λj y hy=>hk.2 j (by have:=(eG.1 hy).1;omega) y hy)];exact⟨rfl,rfl⟩
theorem aaB:aW aT.gd 162 aaA:=
 kD (cx:=aT) (n:=19) (cl:=[]) aB trivial Tryz.func162 λd hd=>by
  obtain⟨l,x,⟨⟩⟩:=d;exact⟨akX l x,cast (by kernel_rfl) (afD l x hd)⟩
theorem aaC(l:List Int) (x:Int):dU l x=decide (0<=Iu l x):=by
 have h:=List.findIdx?_isSome (xs:=l) (p:=λy=>decide (y=x))
 unfold dU Iu;rw[<-h];cases l.findIdx? (λy=>decide (y=x)) with
 | none=>rfl
 | some k=>simp
abbrev Gu:CT:={ ps:=[.sl (.int .i64),.int .i64],pre:=λd=>d.1.length<=4611686018427387904,res:=λd=>([],vB (dU d.1 d.2.1)) }
theorem akY(l:List Int) (x:Int) (aH:Gu.pre (l,x,())):
 l.length<=4611686018427387904/\qB (dU l x) (decide (0<=Iu l x)):=by
 delta qB;refine⟨aH,rfl,?_⟩;rw[aaC]
theorem Aw:aW aT.gd 98 Gu:=
 kD (cx:=aT) (n:=9) (cl:=[(162,aaA)]) aB ⟨aaB,trivial⟩ Tryz.func98 λd hd=>by
  obtain⟨l,x,⟨⟩⟩:=d;exact⟨λ_=>none,cast (by kernel_rfl) (akY l x hd)⟩
theorem WM(l:List Int):(jK l).length=l.length:=by simp[jK]
theorem aaD(l:List Int):(bM l).length<=l.length:=WJ l
theorem afE:TM Tryz.prog aT.gd 200 Gm:=⟨WC Oc.1 rfl (λblk cap zs w hH hb hz=>Tryz.slices_Sort_int blk 0 cap zs w hH hb hz),Oc.2⟩
theorem afF:TM Tryz.prog aT.gd 201 CG:=⟨KT (λa cap w=>Tryz.slices_Compact_int_empty a cap w) (λblk cap zs w hH h1 h2=>Tryz.slices_Compact_int blk 0 cap zs w hH h1 h2),⟨_,Tryz.func201,rfl,by kernel_rfl⟩⟩
abbrev Az:CT:={ ps:=[.sl (.int .i64)],pre:=λd=>d.1.length<=1000000,res:=λd=>([.row 3 (.int .i64) (bM d.1)],.one (.c (.row 0))) }
abbrev aoB:List (Nat×IP):=[(200,Gm),(201,CG)]
theorem afG(l:List Int) (aH:Az.pre (l,())):
 l.length<=(1000000:Nat)/\List.length (l) < (4611686018427387904:Nat)/\List.length (jK (l)) < (4611686018427387904:Nat)/\[au.row (3:TypeId) Au (bM l)]=[au.row (3:TypeId) Au (Lib.compact (jK (l)))]/\bg.one Jl=bg.one Jl:=by
 delta Au Jl;have hp:l.length<=1000000:=aH;exact⟨hp,by omega,by rw[WM];omega,by rw[afx],rfl⟩
theorem Oe:aW aT.gd 169 Az:=
 KJ (il:=aoB) (rc:=[]) (cx:=aT) (n:=10) (cl:=[(58,xB)]) (by kernel_rfl) aB ⟨Ei,trivial⟩ ⟨afE,afF,trivial⟩ Tryz.func169 (by kernel_rfl) (by kernel_rfl) rfl (by kernel_rfl) (by kernel_rfl) λd hd=>by
  obtain⟨l,⟨⟩⟩:=d;exact⟨λ_=>none,cast (by kernel_rfl) (afG l hd)⟩
abbrev Jm:CT:={ ps:=[.sl (.int .i64),.int .i64],pre:=λd=>d.1.length<=1000000,res:=λd=>([],vB (dU d.1 d.2.1)) }
theorem afH(l:List Int) (x:Int) (aH:Jm.pre (l,x,())):
 l.length<=4611686018427387904/\qB (dU l x) (dU l x):=by
 delta qB;have hp:l.length<=1000000:=aH;exact⟨by omega,rfl,rfl⟩
theorem AA:aW aT.gd 165 Jm:=
 kD (cx:=aT) (n:=8) (cl:=[(98,Gu)]) aB ⟨Aw,trivial⟩ Tryz.func165 λd hd=>by
  obtain⟨l,x,⟨⟩⟩:=d;exact⟨λ_=>none,cast (by kernel_rfl) (afH l x hd)⟩
abbrev Og:CT:={ ps:=[.sl (.int .i64),.int .i64],pre:=λd=>d.1.length<=999999,res:=λd=>([.row 3 (.int .i64) (bM (d.1++[d.2.1]))],.one (.c (.row 0))) }
theorem afI(l:List Int) (x:Int) (aH:Og.pre (l,x,())):
 let z1:=[au.row (3:TypeId) Au (bM (l++[x]))];l.length<=(1000000:Nat)/\oH (List.length (l)+List.length ([x])) (8:Nat)/\List.length (l++[x])<=(1000000:Nat)/\z1=z1/\bg.one Jl=bg.one Jl:=by
 conv=>zeta
 delta Au Jl;have hp:l.length<=999999:=aH;refine⟨by omega,?_,?_,rfl,rfl⟩
 .rw[fO];simp;omega
 .simp;omega
theorem Gv:aW aT.gd 111 Og:=
 kD (cx:=aT) (n:=11) (cl:=[(58,xB),(169,Az)]) aB ⟨Ei,Oe,trivial⟩ Tryz.func111 λd hd=>by
  obtain⟨l,x,⟨⟩⟩:=d;exact⟨λ_=>none,cast (by kernel_rfl) (afI l x hd)⟩
abbrev KW:Sh:=.pair .str (.pair (.int .i64) .unit)
abbrev H8:Sh:=.pair .str (.pair (.sl oP) .unit)
abbrev nS:Sh:=.pair (.int .i64) (.pair (.int .i64) .unit)
abbrev sS:Sh:=.pair (.sl KW) (.pair (.sl .str) (.pair (.sl .str) (.pair (.sl H8) (.pair (.sl nS) .unit))))
abbrev ID:=Int×Int×Int×Int×Int×Int×Int×Int×Unit
abbrev VD:=ByteArray×Int×Unit
abbrev FD:=ByteArray×List ID×Unit
abbrev SD:=Int×Int×Unit
abbrev PD:=List VD×List ByteArray×List ByteArray×List FD×List SD×Unit
def qL(f:Nat) (x:FD):List (bT [nS,oP]):=x.2.1.zipIdx.map λp=>(((f:Int),(p.2:Int),()),p.1,())
def jU:Nat->List FD->List (bT [nS,oP])
 | _,[]=>[]
 | n,x :: l=>qL n x++jU (n+1) l
def dO(fs:List FD):List (bT [nS,oP]):=jU 0 fs
theorem Jo(f:Nat) (x:FD):(qL f x).length=x.2.1.length:=by simp[qL]
theorem Jp{f:Nat}{x:FD}{j:Nat}{e:ID} (h:x.2.1[j]?=some e):(qL f x)[j]?=some (((f:Int),(j:Int),()),e,()):=by
 unfold qL;rw[DI,adJ,h];simp
theorem uH:∀(l m:List FD) (n:Nat),jU n (l++m)=jU n l++jU (n+l.length) m
 | [],m,n=>by simp[jU]
 | x :: l,m,n=>by
   simp only[List.cons_append,jU,uH l m,Dj,yE];rw[show n+1+l.length=n+(l.length+1) by omega]
theorem WO{fs:List FD}{d:FD} (h:fs[k]?=some d):dO fs=dO (fs.take k)++(qL k d++jU (k+1) (fs.drop (k+1))):=by
 have hk:k < fs.length:=(eG.1 h).1;have e:fs=fs.take k++(d :: fs.drop (k+1)):=by
  have h2:=List.drop_eq_getElem_cons hk;rw[(eG.1 h).2]at h2;rw[<-h2,Xf]
 unfold dO
 conv=>lhs;rw[e]
 rw[uH];rw[show 0+(fs.take k).length=k by simp;omega]
 rfl
theorem QM{fs:List FD}{d:FD} (h:fs[k]?=some d):dO (fs.take (k+1))=dO (fs.take k)++qL k d:=by
 have hk:k < fs.length:=(eG.1 h).1;rw[RD,h];unfold dO;rw[uH];rw[show 0+(fs.take k).length=k by simp;omega]
 simp[jU]
theorem WQ{fs:List FD}{j:Nat}{d:FD}{e:ID} (h:fs[k]?=some d) (h2:d.2.1[j]?=some e):(dO fs)[(dO (fs.take k)).length+j]?=some (((k:Int),(j:Int),()),e,()):=by
 have hj:j < d.2.1.length:=(eG.1 h2).1;rw[WO h,O9 (by omega),Xe (by rw[Jo];omega)]
 rw[show(dO (fs.take k)).length+j - (dO (fs.take k)).length=j by omega]
 exact Jp h2
noncomputable abbrev akZ:MK:={ ss:=[sS],f:=λd=>.seq Tryz.prog [nS,oP] (dO d.1.2.2.2.1),pre:=λd=>d.1.2.2.2.1.length<=1000000/\∀x∈d.1.2.2.2.1,x.2.1.length<=1000000 }
abbrev aoC:List (Nat×CT):=[]
abbrev ak0(vs:List VD) (ms cs:List ByteArray) (fs:List FD) (ts:List SD):Nat->Option (St->kS):=λk=>match k with
 | 1=>some λ_=>.gen { α:=Nat,slots:=λk=>[(10,.c (.v (.int .i64 k)))],res:=λ_=>[],inv:=λk=>k<=fs.length,meas:=λk=>fs.length - k } λk=>(dO (fs.take k)).length
 | 4=>some λs=>.gen { α:=Nat,slots:=λk=>[(18,.c (.v (.int .i64 k)))],res:=λ_=>[],inv:=λk=>k<=(slotL oP s 16).length,meas:=λk=>(slotL oP s 16).length - k } λk=>(dO (fs.take (jw s 10).toNat)).length+k
 | _=>none
abbrev hlN:List (Nat×Nat×CT):=[]
abbrev mlN:List (Nat×MK):=[]
theorem afK(vs:List VD) (ms cs:List ByteArray) (fs:List FD) (ts:List SD) (l:Nat) (aH:akZ.pre ((vs,ms,cs,fs,ts,()),())):
 let z2:=λ(x:Nat)=>dO (List.take x fs);let z1:=λ(x:Nat)=>dO (List.take (x:Int).toNat fs);let z3:=λ(x_1:Nat)=>(x_1:Int)+(1:Int);(∃x,x<=fs.length/\(z2 x).length=0/\(cI 0=cI (x:Int)/\True)/\([]:List fD)=[])/\∀(x:Nat),x<=fs.length->br (decide ((x:Int) < (fs.length:Int))) ((0<=(x:Int)/\(x:Int) < (fs.length:Int))/\∀(d:ByteArray×(oP.sl.pair Sh.unit).den),fs[(x:Int).toNat]?=some d->(∃x_1,x_1<=List.length (d.snd.fst)/\(z1 x).length+x_1=(z2 x).length/\(cI 0=cI (x_1:Int)/\True)/\sm [g0 (au.blk 77 [SC.v (Value.string d.fst),SC.sl oP d.snd.fst])])/\∀(x_1:Nat),x_1<=List.length (d.snd.fst)->br (decide ((x_1:Int) < ((List.length d.snd.fst):Int))) ((0<=(x_1:Int)/\(x_1:Int) < ((List.length d.snd.fst):Int))/\∀(dL:ID),d.snd.fst[(x_1:Int).toNat]?=some dL->l=l/\(dO fs)[(z1 x).length+x_1]?=some (((x:Int),(x_1:Int),()),dL,())/\(iR (z3 x_1)/\∃x',x'<=List.length (d.snd.fst)/\(z1 x).length+x'=(z1 x).length+x_1+1/\(cI (z3 x_1)=cI (x':Int)/\True)/\sm [g0 (au.blk 77 [SC.v (Value.string d.fst),SC.sl oP d.snd.fst])]/\List.length (d.snd.fst) - x' < List.length (d.snd.fst) - x_1)/\True) (iR (z3 x)/\∃x',x'<=fs.length/\(z2 x').length=(z1 x).length+x_1/\(cI (z3 x)=cI (x':Int)/\True)/\([]:List fD)=[]/\fs.length - x' < fs.length - x)) ((z2 x).length=aO (dO fs)):=by
 conv=>zeta
 delta fD cI g0 sm I6 iR;have hp1:fs.length<=1000000:=aH.1;have hp2:∀x∈fs,x.2.1.length<=1000000:=aH.2;refine⟨⟨0,by omega,by simp[dO,jU],⟨rfl,trivial⟩,rfl⟩,λx hx=>ah.2 ⟨λh=>?_,λh=>?_⟩⟩
 .simp only[dW]at h;have hN:(x:Int).toNat=x:=by omega
  rw[hN];refine⟨by omega,λd hd=>?_⟩
  have hd:fs[x]?=some d:=by simpa using hd
  have hst:=QM hd;refine⟨⟨0,Hz _,by omega,⟨rfl,trivial⟩,rfl⟩,λy hy=>ah.2 ⟨λh2=>?_,λh2=>?_⟩⟩
  .simp only[dW]at h2;refine⟨by omega,λe he=>?_⟩
   have he:d.2.1[y]?=some e:=by simpa using he
   refine⟨rfl,WQ hd he,⟨?_,y+1,?_,?_,⟨rfl,trivial⟩,rfl,?_⟩,trivial⟩
   .have:=hp2 d (iM hd);exact ay.2 (by omega)
   .omega
   .omega
   .omega
  .simp only[gW]at h2;refine⟨ay.2 (by omega),x+1,by omega,?_,⟨rfl,trivial⟩,rfl,by omega⟩
   have hq:=hp2 d (iM hd);have hy:y=d.2.1.length:=by omega
   rw[hst,kT,Jo,hy]
 .simp only[gW]at h;rw[zi (by omega),bC]
theorem afL:Zi Tryz.prog aT.gd 210 akZ:=by
 intro d h lb hd hg cap;obtain⟨⟨vs,ms,cs,fs,ts,⟨⟩⟩,⟨⟩⟩:=d;exact Zn (E:=Zj Tryz.prog aT 32 aoC Xj hlN mlN [] [] λ_=>none) (TN (by kernel_rfl) aB trivial trivial trivial trivial) rfl Tryz.func210 (body:=jT Tryz.f210) (by kernel_rfl) (by kernel_rfl) rfl rfl rfl rfl ⟨ak0 vs ms cs fs ts,λl=>cast (by kernel_rfl) (afK vs ms cs fs ts l hd)⟩ hg cap
noncomputable abbrev KX:CT:={ ps:=[sS],pre:=λd=>d.1.2.2.2.1.length<=1000000/\∀x∈d.1.2.2.2.1,x.2.1.length<=1000000,res:=λd=>([],.one (.c (.abs (.seq Tryz.prog [nS,oP] (dO d.1.2.2.2.1))))) }
noncomputable abbrev aoD:List (Nat×MK):=[(210,akZ)]
theorem afM(vs:List VD) (ms cs:List ByteArray) (fs:List FD) (ts:List SD) (aH:KX.pre ((vs,ms,cs,fs,ts,()),())):
 let z1:=bg.one (SV.c (SC.abs (HY.seq Tryz.prog [I6.pair (I6.pair Sh.unit),I6.pair (I6.pair (I6.pair (I6.pair (I6.pair (I6.pair nS)))))] (dO fs))));(fs.length<=1000000/\∀(x:ByteArray×(oP.sl.pair Sh.unit).den),x∈fs->List.length x.snd.fst<=1000000)/\rE z1 z1:=by
 conv=>zeta
 delta rE I6;exact⟨aH,rfl,rfl⟩
theorem aaE:aW aT.gd 189 KX:=
 (oJ (cx:=aT) (n:=4) (cl:=[]) (il:=Xj) (hl:=hlN) (ml:=aoD) (rc:=[]) (lits:=[]) (suf:=[]) (by kernel_rfl) aB trivial trivial trivial ⟨afL,trivial⟩ Tryz.func189 (by kernel_rfl) (by kernel_rfl) rfl (by kernel_rfl) (by kernel_rfl) (by simp) λd hd=>by
  obtain⟨⟨vs,ms,cs,fs,ts,⟨⟩⟩,⟨⟩⟩:=d;exact⟨λ_=>none,cast (by kernel_rfl) (afM vs ms cs fs ts hd)⟩).met
def uI(c:Int):Bool:=decide (97<=c/\c<=122\/65<=c/\c<=90)
abbrev aiw:CT:={ ps:=[.int .u8],pre:=λd=>True,res:=λd=>([],vB (uI d.1)) }
theorem afN(c:Int):
 qB (uI c) (decide (97<=c) && decide (c<=122) || decide (65<=c) && decide (c<=90)):=by
 delta qB;refine⟨rfl,?_⟩;rw[show uI c=(decide (97<=c) && decide (c<=122) || decide (65<=c) && decide (c<=90)) by unfold uI;rw[LX];simp]
theorem aaF:aW aT.gd 214 aiw:=
 kD (cx:=aT) (n:=17) (cl:=[]) aB trivial Tryz.func214 λd hd=>by
  obtain⟨c,⟨⟩⟩:=d;exact⟨λ_=>none,cast (by kernel_rfl) (afN c)⟩
def cO(n:Int):Bool:=decide (-2147483648<=n/\n<=2147483647)
abbrev aaG:CT:={ ps:=[.int .i64],pre:=λd=>True,res:=λd=>([],vB (cO d.1)) }
theorem afO(n:Int):
 qB (cO n) (decide ((-2147483648)<=n) && decide (n<=2147483647)):=by
 delta qB;refine⟨rfl,?_⟩;rw[show cO n=(decide (-2147483648<=n) && decide (n<=2147483647)) by unfold cO;rw[LX];simp]
theorem Oh:aW aT.gd 186 aaG:=
 kD (cx:=aT) (n:=9) (cl:=[]) aB trivial Tryz.func186 λd hd=>by
  obtain⟨n,⟨⟩⟩:=d;exact⟨λ_=>none,cast (by kernel_rfl) (afO n)⟩
abbrev QN:CT:={ ps:=[.int .i64],pre:=λd=>True,res:=λd=>([],vB (cO d.1)) }
theorem afP(n:Int):
 qB (cO n) (decide ((-2147483648)<=n) && decide (n<=2147483647)):=by
 delta qB;refine⟨rfl,?_⟩;rw[show cO n=(decide (-2147483648<=n) && decide (n<=2147483647)) by unfold cO;rw[LX];simp]
theorem Oi:aW aT.gd 134 QN:=
 kD (cx:=aT) (n:=9) (cl:=[]) aB trivial Tryz.func134 λd hd=>by
  obtain⟨n,⟨⟩⟩:=d;exact⟨λ_=>none,cast (by kernel_rfl) (afP n)⟩
def pR(vs:List VD) (ms cs:List ByteArray) (fs:List FD) (op:Int):Int:=
 if op=8\/op=9\/op=10\/op=11\/op=12\/op=14 then vs.length else if op=15\/op=16\/op=17 then ms.length else if op=18\/op=19\/op=20 then cs.length else if op=21 then fs.length else -1
abbrev aix:CT:={ ps:=[sS,.int .i64],pre:=λd=>True,res:=λd=>([],.one (.c (.v (.int .i64 (pR d.1.1 d.1.2.1 d.1.2.2.1 d.1.2.2.2.1 d.2.1))))) }
theorem afQ(vs:List VD) (ms cs:List ByteArray) (fs:List FD) (ts:List SD) (op:Int):
 let z7:=pR vs ms cs fs op;let z4:=qI z7 (vs.length:Int);let z5:=qI z7 (ms.length:Int);let z6:=qI z7 (cs.length:Int);let z3:=br (decide (op=21)) (qI z7 (fs.length:Int)) (qI z7 (-1:Int));let z2:=br (decide (op=18)) (br (decide (op=18)) z6 z3) (br (decide (op=19)) (br (decide (op=19)) z6 z3) (br (decide (op=20)) z6 z3));let z1:=br (decide (op=15)) (br (decide (op=15)) z5 z2) (br (decide (op=16)) (br (decide (op=16)) z5 z2) (br (decide (op=17)) z5 z2));br (decide (op=8)) (br (decide (op=8)) z4 z1) (br (decide (op=9)) (br (decide (op=9)) z4 z1) (br (decide (op=10)) (br (decide (op=10)) z4 z1) (br (decide (op=11)) (br (decide (op=11)) z4 z1) (br (decide (op=12)) (br (decide (op=12)) z4 z1) (br (decide (op=14)) z4 z1))))):=by
 conv=>zeta
 delta qI;unfold pR;simp only[ah]
 repeat' (first | (refine And.intro ?_ ?_) | (intro _))
 all_goals first | rfl | (simp_all;done) | (simp_all;omega) | grind
theorem aaH:aW aT.gd 211 aix:=
 kD (cx:=aT) (n:=35) (cl:=[]) aB trivial Tryz.func211 λd hd=>by
  obtain⟨⟨vs,ms,cs,fs,ts,⟨⟩⟩,op,⟨⟩⟩:=d;exact⟨λ_=>none,cast (by kernel_rfl) (afQ vs ms cs fs ts op)⟩
def iy(vs:List VD):List ByteArray:=vs.map λv=>v.1
def jA(fs:List FD):List ByteArray:=fs.map λf=>f.1
abbrev QO:CT:={ ps:=[sS],pre:=λd=>d.1.1.length<=1000000,res:=λd=>([.row 9 .str (iy d.1.1)],.one (.c (.row 0))) }
abbrev ak1(vs:List VD) (ms cs:List ByteArray) (fs:List FD) (ts:List SD):Nat->Option (St->kS):=λk=>match k with
 | 3=>some λ_=>.inv { α:=Nat,slots:=λk=>[(9,.c (.v (.int .i64 k))),(3,.c (.row 1))],res:=λk=>[(1,.row 9 .str (iy (vs.take k)))],inv:=λk=>k<=(vs).length,meas:=λk=>(vs).length - k,nil:=[(3,9,.str)] }
 | _=>none
theorem afR(vs:List VD) (ms cs:List ByteArray) (fs:List FD) (ts:List SD) (aH:QO.pre ((vs,ms,cs,fs,ts,()),())):
 let z2:=[SC.sl KW vs,SC.sl Sh.str ms,SC.sl Sh.str cs,SC.sl H8 fs,SC.sl nS ts];let z1:=λ(x:Nat)=>[g0 (au.blk 27 z2),g0 (au.row 9 Sh.str (iy (List.take x vs)))];(∃x,x<=vs.length/\(cI 0=cI (x:Int)/\SV.c (SC.row (Nat.succ 0))=SV.c (SC.row 1)/\True)/\[g0 (au.blk 27 z2),g0 (au.row 9 Sh.str [])]=(z1 x))/\∀(x:Nat),x<=vs.length->br (decide ((x:Int) < (vs.length:Int))) ((0<=(x:Int)/\(x:Int) < (vs.length:Int))/\∀(d:ByteArray×(I6.pair Sh.unit).den),vs[(x:Int).toNat]?=some d->oH (List.length (iy (List.take x vs))+List.length ([d.fst])) 16/\iR ((x:Int)+(1:Int))/\∃x',x'<=vs.length/\(cI ((x:Int)+(1:Int))=cI (x':Int)/\SV.c (SC.row 1)=SV.c (SC.row 1)/\True)/\[g0 (au.blk 27 z2),g0 (au.row 9 Sh.str (iy (List.take x vs)++[d.fst]))]=(z1 x')/\vs.length - x' < vs.length - x) ([au.row 9 Sh.str (iy vs)]=[au.row 9 Sh.str (iy (List.take x vs))]/\bg.one (SV.c (SC.row 0))=bg.one (SV.c (SC.row 0))):=by
 conv=>zeta
 delta cI g0 I6 iR;have hp:(vs).length<=1000000:=aH;refine⟨⟨0,by omega,⟨rfl,rfl,trivial⟩,rfl⟩,λk hk=>ah.2 ⟨λh=>?_,λh=>?_⟩⟩
 .simp only[dW]at h;refine⟨by omega,λd hd=>?_⟩
  have hd:(vs)[k]?=some d:=by simpa using hd
  have e:iy ((vs).take (k+1))=iy ((vs).take k)++[d.1]:=by
   unfold iy;rw[RD,hd];simp
  refine⟨?_,ay.2 (by omega),k+1,by omega,⟨rfl,rfl,trivial⟩,?_,by omega⟩
  .have:(iy ((vs).take k)).length<=1000000:=by simp[iy];omega
   exact fO.2 (by simp only[yE,Pg];omega)
  .rw[e]
 .simp only[gW]at h;rw[zi (by omega)];exact⟨rfl,rfl⟩
theorem aaI:aW aT.gd 183 QO:=
 kD (cx:=aT) (n:=20) (cl:=[]) aB trivial Tryz.func183 λd hd=>by
  obtain⟨⟨vs,ms,cs,fs,ts,⟨⟩⟩,⟨⟩⟩:=d;exact⟨ak1 vs ms cs fs ts,cast (by kernel_rfl) (afR vs ms cs fs ts hd)⟩
abbrev QS:CT:={ ps:=[sS],pre:=λd=>d.1.2.2.2.1.length<=1000000,res:=λd=>([.row 9 .str (jA d.1.2.2.2.1)],.one (.c (.row 0))) }
abbrev ak2(vs:List VD) (ms cs:List ByteArray) (fs:List FD) (ts:List SD):Nat->Option (St->kS):=λk=>match k with
 | 3=>some λ_=>.inv { α:=Nat,slots:=λk=>[(9,.c (.v (.int .i64 k))),(3,.c (.row 1))],res:=λk=>[(1,.row 9 .str (jA (fs.take k)))],inv:=λk=>k<=(fs).length,meas:=λk=>(fs).length - k,nil:=[(3,9,.str)] }
 | _=>none
theorem afS(vs:List VD) (ms cs:List ByteArray) (fs:List FD) (ts:List SD) (aH:QS.pre ((vs,ms,cs,fs,ts,()),())):
 let z2:=[SC.sl KW vs,SC.sl Sh.str ms,SC.sl Sh.str cs,SC.sl H8 fs,SC.sl nS ts];let z1:=λ(x:Nat)=>[g0 (au.blk 27 z2),g0 (au.row 9 Sh.str (jA (List.take x fs)))];(∃x,x<=fs.length/\(cI 0=cI (x:Int)/\SV.c (SC.row (Nat.succ 0))=SV.c (SC.row 1)/\True)/\[g0 (au.blk 27 z2),g0 (au.row 9 Sh.str [])]=(z1 x))/\∀(x:Nat),x<=fs.length->br (decide ((x:Int) < (fs.length:Int))) ((0<=(x:Int)/\(x:Int) < (fs.length:Int))/\∀(d:ByteArray×(oP.sl.pair Sh.unit).den),fs[(x:Int).toNat]?=some d->oH (List.length (jA (List.take x fs))+List.length ([d.fst])) 16/\iR ((x:Int)+(1:Int))/\∃x',x'<=fs.length/\(cI ((x:Int)+(1:Int))=cI (x':Int)/\SV.c (SC.row 1)=SV.c (SC.row 1)/\True)/\[g0 (au.blk 27 z2),g0 (au.row 9 Sh.str (jA (List.take x fs)++[d.fst]))]=(z1 x')/\fs.length - x' < fs.length - x) ([au.row 9 Sh.str (jA fs)]=[au.row 9 Sh.str (jA (List.take x fs))]/\bg.one (SV.c (SC.row 0))=bg.one (SV.c (SC.row 0))):=by
 conv=>zeta
 delta cI g0 I6 iR;have hp:(fs).length<=1000000:=aH;refine⟨⟨0,by omega,⟨rfl,rfl,trivial⟩,rfl⟩,λk hk=>ah.2 ⟨λh=>?_,λh=>?_⟩⟩
 .simp only[dW]at h;refine⟨by omega,λd hd=>?_⟩
  have hd:(fs)[k]?=some d:=by simpa using hd
  have e:jA ((fs).take (k+1))=jA ((fs).take k)++[d.1]:=by
   unfold jA;rw[RD,hd];simp
  refine⟨?_,ay.2 (by omega),k+1,by omega,⟨rfl,rfl,trivial⟩,?_,by omega⟩
  .have:(jA ((fs).take k)).length<=1000000:=by simp[jA];omega
   exact fO.2 (by simp only[yE,Pg];omega)
  .rw[e]
 .simp only[gW]at h;rw[zi (by omega)];exact⟨rfl,rfl⟩
theorem aaJ:aW aT.gd 185 QS:=
 kD (cx:=aT) (n:=20) (cl:=[]) aB trivial Tryz.func185 λd hd=>by
  obtain⟨⟨vs,ms,cs,fs,ts,⟨⟩⟩,⟨⟩⟩:=d;exact⟨ak2 vs ms cs fs ts,cast (by kernel_rfl) (afS vs ms cs fs ts hd)⟩
def Iw(l:List ByteArray) (x:ByteArray):Int:=match l.findIdx? (λy=>decide (y=x)) with | some k=>(k:Int) | none=>-1
theorem QT{l:List ByteArray}{x:ByteArray} (hd:l[k]?=some x) (hn:∀j < k,∀y,l[j]?=some y->y≠x):Iw l x=k:=by
 have gZ:k < l.length:=(eG.1 hd).1;have:l.findIdx? (λy=>decide (y=x))=some k:=by
  rw[A49];refine⟨gZ,by have:=(eG.1 hd).2;simp[this],λj hj=>?_⟩
  have:=hn j hj l[j] (kR (by omega))
  simpa using this
 simp[Iw,this]
theorem WR{l:List ByteArray}{x:ByteArray} (hn:∀(j:Nat) y,l[j]?=some y->y≠x):Iw l x = -1:=by
 have:l.findIdx? (λy=>decide (y=x))=none:=by
  rw[A71];intro y hy;obtain⟨j,hj⟩:=Hu hy;simpa using hn j y hj
 simp[Iw,this]
abbrev QU:CT:={ ps:=[.sl .str,.str],pre:=λd=>d.1.length<=1000000,res:=λd=>([],.one (.c (.v (.int .i64 (Iw d.1 d.2.1))))) }
abbrev ak3(l:List ByteArray) (x:ByteArray):Nat->Option (St->kS):=λk=>match k with
 | 2=>some λ_=>.inv { α:=Nat,slots:=λk=>[(8,.c (.v (.int .i64 k)))],res:=λk=>[],inv:=λk=>k<=(l).length/\∀j < k,∀y,l[j]?=some y->y≠x,meas:=λk=>(l).length - k }
 | _=>none
theorem afT(l:List ByteArray) (x:ByteArray) (aH:QU.pre (l,x,())):
 let z1:=λ(x_1:Nat)=>(x_1<=l.length/\∀(j:Nat),j < x_1->∀(y:ByteArray),l[j]?=some y->y≠x);(∃x_1,(z1 x_1)/\(cI 0=cI (x_1:Int)/\True)/\([]:List fD)=[])/\∀(x_1:Nat),(z1 x_1)->br (decide ((x_1:Int) < (l.length:Int))) ((0<=(x_1:Int)/\(x_1:Int) < (l.length:Int))/\∀(d:ByteArray),l[(x_1:Int).toNat]?=some d->br (decide (x=d)) (qI (Iw l x) (x_1:Int)) (iR ((x_1:Int)+(1:Int))/\∃x',(x'<=l.length/\∀(j:Nat),j < x'->∀(y:ByteArray),l[j]?=some y->y≠x)/\(cI ((x_1:Int)+(1:Int))=cI (x':Int)/\True)/\([]:List fD)=[]/\l.length - x' < l.length - x_1)) (qI (Iw l x) (-1:Int)):=by
 conv=>zeta
 delta fD cI qI iR;refine⟨⟨0,⟨by omega,λj hj=>by omega⟩,⟨rfl,trivial⟩,rfl⟩,λk hk=>ah.2 ⟨λh=>?_,λh=>?_⟩⟩
 .simp only[dW]at h;have hp:l.length<=1000000:=aH;refine⟨by omega,λd hd=>?_⟩
  have hd:l[k]?=some d:=by simpa using hd
  refine ah.2 ⟨λhe=>?_,λhe=>⟨ay.2 (by omega),k+1,⟨by omega,λj hj y hy=>?_⟩,⟨rfl,trivial⟩,rfl,by omega⟩⟩
  .have he:x=d:=by simpa using he
   rw[QT (by rw[hd,he]) hk.2];exact⟨rfl,rfl⟩
  .by_cases jY:j=k
   .subst jY;rw[hd]at hy;cases hy;intro hh;simp[hh]at he
   .exact hk.2 j (by omega) y hy
 .simp only[gW]at h;rw[WR (λj y hy=>hk.2 j (by have:=(eG.1 hy).1;omega) y hy)];exact⟨rfl,rfl⟩
theorem aaK:aW aT.gd 215 QU:=
 kD (cx:=aT) (n:=19) (cl:=[]) aB trivial Tryz.func215 λd hd=>by
  obtain⟨l,x,⟨⟩⟩:=d;exact⟨ak3 l x,cast (by kernel_rfl) (afT l x hd)⟩
def vH(l:List ByteArray) (x:ByteArray):Bool:=l.any λy=>decide (y=x)
theorem aaL(l:List ByteArray) (x:ByteArray):vH l x=decide (0<=Iw l x):=by
 have h:=List.findIdx?_isSome (xs:=l) (p:=λy=>decide (y=x))
 unfold vH Iw;rw[<-h];cases l.findIdx? (λy=>decide (y=x)) with
 | none=>rfl
 | some k=>simp
abbrev QV:CT:={ ps:=[.sl .str,.str],pre:=λd=>d.1.length<=1000000,res:=λd=>([],vB (vH d.1 d.2.1)) }
theorem afU(l:List ByteArray) (x:ByteArray) (aH:QV.pre (l,x,())):
 l.length<=1000000/\qB (vH l x) (decide (0<=Iw l x)):=by
 delta qB;refine⟨aH,rfl,?_⟩;rw[aaL]
theorem aaM:aW aT.gd 209 QV:=
 kD (cx:=aT) (n:=9) (cl:=[(215,QU)]) aB ⟨aaK,trivial⟩ Tryz.func209 λd hd=>by
  obtain⟨l,x,⟨⟩⟩:=d;exact⟨λ_=>none,cast (by kernel_rfl) (afU l x hd)⟩
end Go.Proofs.YtjhenjhcbcalpaaGreatDoor
