/- Part 6 of the proof. Conditions: the rows'. -/
import Derived.Test.YtjhenjhcbcalpaaGreatDoorB5
import Derived.Test.YtjhenjhcbcalpaaGreatDoorProg
import Derived.Shelf.Small.Bits
import Derived.Shelf.Strconv.Itoa0
import Derived.Shelf.Sort.Plain
import Derived.Shelf.Slices.Turned
import Derived.Shelf.Slices.Equal
import Derived.Ground.Names2Prog
import Derived.Shelf.Slices.Clone
import Derived.Shelf.Slices.CompactI
import Derived.Shelf.Slices.SearchI
import Derived.Shelf.Slices.Cells
import Derived.Shelf.Slices.In.SortNone
import Derived.Shelf.Slices.Empties2
import Derived.Ground.SlgnProg
import Derived.Shelf.SlicesE.Clone
set_option linter.unusedSimpArgs false
set_option linter.unusedVariables false
set_option maxRecDepth 1000000
set_option maxHeartbeats 8000000
namespace Go.Proofs.YtjhenjhcbcalpaaGreatDoor
open Go Go.jf
abbrev aU:=Go.jf.Met Tryz.prog
variable {l:List Int}
abbrev ti3:TI:={ desc:=.int .i64,size:=1,bytes:=8,zero:=[.int .i64 0],iL:=some (.int .i64) }
theorem ai0:aN Tryz.prog 3 ti3:=aN.of_eq (by kernel_rfl) (by kernel_rfl) rfl rfl (aK (i:=ti3) (s0:=(.int .i64)) rfl rfl rfl rfl)
abbrev ti4:TI:={ desc:=.bool,size:=1,bytes:=1,zero:=[.bool false],iL:=some .bool }
theorem ai1:aN Tryz.prog 4 ti4:=aN.of_eq (by kernel_rfl) (by kernel_rfl) rfl rfl (aK (i:=ti4) (s0:=.bool) rfl rfl rfl rfl)
abbrev ti5:TI:={ desc:=.int .u8,size:=1,bytes:=1,zero:=[.int .u8 0],iL:=some (.int .u8) }
theorem ai2:aN Tryz.prog 5 ti5:=aN.of_eq (by kernel_rfl) (by kernel_rfl) rfl rfl (aK (i:=ti5) (s0:=(.int .u8)) rfl rfl rfl rfl)
abbrev ti9:TI:={ desc:=.string,size:=1,bytes:=16,zero:=[.string ⟨#[]⟩],iL:=some .str }
theorem ai3:aN Tryz.prog 9 ti9:=aN.of_eq (by kernel_rfl) (by kernel_rfl) rfl rfl (aK (i:=ti9) (s0:=.str) rfl rfl rfl rfl)
abbrev ai4:TI:={ desc:=.int .i32,size:=1,bytes:=4,zero:=[.int .i32 0],iL:=some (.int .i32) }
theorem adA:aN Tryz.prog 21 ai4:=aN.of_eq (by kernel_rfl) (by kernel_rfl) rfl rfl (aK (i:=ai4) (s0:=(.int .i32)) rfl rfl rfl rfl)
abbrev ai5:TI:={ desc:=.slice 118,size:=1,bytes:=24,zero:=[.slice none 0 0],iL:=some (.sl (.pair .str (.pair (.int .i64) .unit))) }
theorem adB:aN Tryz.prog 22 ai5:=aN.of_eq (by kernel_rfl) (by kernel_rfl) rfl rfl (aK (i:=ai5) (s0:=(.sl (.pair .str (.pair (.int .i64) .unit)))) rfl rfl rfl rfl)
abbrev ai6:TI:={ desc:=.slice 9,size:=1,bytes:=24,zero:=[.slice none 0 0],iL:=some (.sl .str) }
theorem adC:aN Tryz.prog 23 ai6:=aN.of_eq (by kernel_rfl) (by kernel_rfl) rfl rfl (aK (i:=ai6) (s0:=(.sl .str)) rfl rfl rfl rfl)
abbrev ai7:TI:={ desc:=.slice 77,size:=1,bytes:=24,zero:=[.slice none 0 0],iL:=some (.sl (.pair .str (.pair (.sl (.pair (.int .i64) (.pair (.int .i64) (.pair (.int .i64) (.pair (.int .i64) (.pair (.int .i64) (.pair (.int .i64) (.pair (.int .i64) (.pair (.int .i64) .unit))))))))) .unit))) }
theorem adD:aN Tryz.prog 24 ai7:=aN.of_eq (by kernel_rfl) (by kernel_rfl) rfl rfl (aK (i:=ai7) (s0:=(.sl (.pair .str (.pair (.sl (.pair (.int .i64) (.pair (.int .i64) (.pair (.int .i64) (.pair (.int .i64) (.pair (.int .i64) (.pair (.int .i64) (.pair (.int .i64) (.pair (.int .i64) .unit))))))))) .unit)))) rfl rfl rfl rfl)
abbrev ai8:TI:={ desc:=.slice 82,size:=1,bytes:=24,zero:=[.slice none 0 0],iL:=some (.sl (.pair (.int .i64) (.pair (.int .i64) .unit))) }
theorem adE:aN Tryz.prog 25 ai8:=aN.of_eq (by kernel_rfl) (by kernel_rfl) rfl rfl (aK (i:=ai8) (s0:=(.sl (.pair (.int .i64) (.pair (.int .i64) .unit)))) rfl rfl rfl rfl)
abbrev ai9:TI:={ desc:=.struct #[dV 22 0,dV 23 1,dV 23 2,dV 24 3,dV 25 4],size:=5,bytes:=120,zero:=[.slice none 0 0,.slice none 0 0,.slice none 0 0,.slice none 0 0,.slice none 0 0],iL:=some (.pair (.sl (.pair .str (.pair (.int .i64) .unit))) (.pair (.sl .str) (.pair (.sl .str) (.pair (.sl (.pair .str (.pair (.sl (.pair (.int .i64) (.pair (.int .i64) (.pair (.int .i64) (.pair (.int .i64) (.pair (.int .i64) (.pair (.int .i64) (.pair (.int .i64) (.pair (.int .i64) .unit))))))))) .unit))) (.pair (.sl (.pair (.int .i64) (.pair (.int .i64) .unit))) .unit))))) }
theorem adF:aN Tryz.prog 26 ai9:=aN.of_eq (by kernel_rfl) (by kernel_rfl) rfl rfl (aK (i:=ai9) (s0:=(.pair (.sl (.pair .str (.pair (.int .i64) .unit))) (.pair (.sl .str) (.pair (.sl .str) (.pair (.sl (.pair .str (.pair (.sl (.pair (.int .i64) (.pair (.int .i64) (.pair (.int .i64) (.pair (.int .i64) (.pair (.int .i64) (.pair (.int .i64) (.pair (.int .i64) (.pair (.int .i64) .unit))))))))) .unit))) (.pair (.sl (.pair (.int .i64) (.pair (.int .i64) .unit))) .unit)))))) rfl rfl rfl rfl)
abbrev aja:TI:={ desc:=.struct #[dV 22 0,dV 23 1,dV 23 2,dV 24 3,dV 25 4],size:=5,bytes:=120,zero:=[.slice none 0 0,.slice none 0 0,.slice none 0 0,.slice none 0 0,.slice none 0 0],iL:=some (.pair (.sl (.pair .str (.pair (.int .i64) .unit))) (.pair (.sl .str) (.pair (.sl .str) (.pair (.sl (.pair .str (.pair (.sl (.pair (.int .i64) (.pair (.int .i64) (.pair (.int .i64) (.pair (.int .i64) (.pair (.int .i64) (.pair (.int .i64) (.pair (.int .i64) (.pair (.int .i64) .unit))))))))) .unit))) (.pair (.sl (.pair (.int .i64) (.pair (.int .i64) .unit))) .unit))))) }
theorem adG:aN Tryz.prog 27 aja:=aN.of_eq (by kernel_rfl) (by kernel_rfl) rfl rfl (aK (i:=aja) (s0:=(.pair (.sl (.pair .str (.pair (.int .i64) .unit))) (.pair (.sl .str) (.pair (.sl .str) (.pair (.sl (.pair .str (.pair (.sl (.pair (.int .i64) (.pair (.int .i64) (.pair (.int .i64) (.pair (.int .i64) (.pair (.int .i64) (.pair (.int .i64) (.pair (.int .i64) (.pair (.int .i64) .unit))))))))) .unit))) (.pair (.sl (.pair (.int .i64) (.pair (.int .i64) .unit))) .unit)))))) rfl rfl rfl rfl)
abbrev ajb:TI:={ desc:=.slice 56,size:=1,bytes:=24,zero:=[.slice none 0 0],iL:=some (.sl (.pair (.int .i64) (.pair (.int .i64) (.pair (.int .i64) (.pair (.arr 8 (.int .i64)) (.pair (.int .i64) (.pair (.int .i64) (.pair (.int .i64) (.pair (.int .i64) (.pair (.int .i64) (.pair (.sl (.int .i64)) .unit))))))))))) }
theorem adH:aN Tryz.prog 30 ajb:=aN.of_eq (by kernel_rfl) (by kernel_rfl) rfl rfl (aK (i:=ajb) (s0:=(.sl (.pair (.int .i64) (.pair (.int .i64) (.pair (.int .i64) (.pair (.arr 8 (.int .i64)) (.pair (.int .i64) (.pair (.int .i64) (.pair (.int .i64) (.pair (.int .i64) (.pair (.int .i64) (.pair (.sl (.int .i64)) .unit)))))))))))) rfl rfl rfl rfl)
abbrev ajc:TI:={ desc:=.slice 3,size:=1,bytes:=24,zero:=[.slice none 0 0],iL:=some (.sl (.int .i64)) }
theorem adI:aN Tryz.prog 31 ajc:=aN.of_eq (by kernel_rfl) (by kernel_rfl) rfl rfl (aK (i:=ajc) (s0:=(.sl (.int .i64))) rfl rfl rfl rfl)
abbrev ajd:TI:={ desc:=.slice 31,size:=1,bytes:=24,zero:=[.slice none 0 0],iL:=some (.sl (.sl (.int .i64))) }
theorem adJ:aN Tryz.prog 32 ajd:=aN.of_eq (by kernel_rfl) (by kernel_rfl) rfl rfl (aK (i:=ajd) (s0:=(.sl (.sl (.int .i64)))) rfl rfl rfl rfl)
abbrev aje:TI:={ desc:=.struct #[dV 31 0,dV 31 1,dV 32 2,dV 31 3],size:=4,bytes:=96,zero:=[.slice none 0 0,.slice none 0 0,.slice none 0 0,.slice none 0 0],iL:=some (.pair (.sl (.int .i64)) (.pair (.sl (.int .i64)) (.pair (.sl (.sl (.int .i64))) (.pair (.sl (.int .i64)) .unit)))) }
theorem adK:aN Tryz.prog 33 aje:=aN.of_eq (by kernel_rfl) (by kernel_rfl) rfl rfl (aK (i:=aje) (s0:=(.pair (.sl (.int .i64)) (.pair (.sl (.int .i64)) (.pair (.sl (.sl (.int .i64))) (.pair (.sl (.int .i64)) .unit))))) rfl rfl rfl rfl)
abbrev ajf:TI:={ desc:=.struct #[dV 31 0,dV 31 1,dV 32 2,dV 31 3],size:=4,bytes:=96,zero:=[.slice none 0 0,.slice none 0 0,.slice none 0 0,.slice none 0 0],iL:=some (.pair (.sl (.int .i64)) (.pair (.sl (.int .i64)) (.pair (.sl (.sl (.int .i64))) (.pair (.sl (.int .i64)) .unit)))) }
theorem adL:aN Tryz.prog 34 ajf:=aN.of_eq (by kernel_rfl) (by kernel_rfl) rfl rfl (aK (i:=ajf) (s0:=(.pair (.sl (.int .i64)) (.pair (.sl (.int .i64)) (.pair (.sl (.sl (.int .i64))) (.pair (.sl (.int .i64)) .unit))))) rfl rfl rfl rfl)
abbrev ajg:TI:={ desc:=.slice 65,size:=1,bytes:=24,zero:=[.slice none 0 0],iL:=some (.sl (.pair (.int .i64) (.pair (.int .i64) (.pair (.sl (.pair (.int .i64) (.pair (.int .i64) .unit))) .unit)))) }
theorem adM:aN Tryz.prog 35 ajg:=aN.of_eq (by kernel_rfl) (by kernel_rfl) rfl rfl (aK (i:=ajg) (s0:=(.sl (.pair (.int .i64) (.pair (.int .i64) (.pair (.sl (.pair (.int .i64) (.pair (.int .i64) .unit))) .unit))))) rfl rfl rfl rfl)
abbrev ajh:TI:={ desc:=.struct #[dV 30 0,dV 34 1,dV 35 5],size:=6,bytes:=144,zero:=[.slice none 0 0,.slice none 0 0,.slice none 0 0,.slice none 0 0,.slice none 0 0,.slice none 0 0],iL:=some (.pair (.sl (.pair (.int .i64) (.pair (.int .i64) (.pair (.int .i64) (.pair (.arr 8 (.int .i64)) (.pair (.int .i64) (.pair (.int .i64) (.pair (.int .i64) (.pair (.int .i64) (.pair (.int .i64) (.pair (.sl (.int .i64)) .unit))))))))))) (.pair (.pair (.sl (.int .i64)) (.pair (.sl (.int .i64)) (.pair (.sl (.sl (.int .i64))) (.pair (.sl (.int .i64)) .unit)))) (.pair (.sl (.pair (.int .i64) (.pair (.int .i64) (.pair (.sl (.pair (.int .i64) (.pair (.int .i64) .unit))) .unit)))) .unit))) }
theorem adN:aN Tryz.prog 36 ajh:=aN.of_eq (by kernel_rfl) (by kernel_rfl) rfl rfl (aK (i:=ajh) (s0:=(.pair (.sl (.pair (.int .i64) (.pair (.int .i64) (.pair (.int .i64) (.pair (.arr 8 (.int .i64)) (.pair (.int .i64) (.pair (.int .i64) (.pair (.int .i64) (.pair (.int .i64) (.pair (.int .i64) (.pair (.sl (.int .i64)) .unit))))))))))) (.pair (.pair (.sl (.int .i64)) (.pair (.sl (.int .i64)) (.pair (.sl (.sl (.int .i64))) (.pair (.sl (.int .i64)) .unit)))) (.pair (.sl (.pair (.int .i64) (.pair (.int .i64) (.pair (.sl (.pair (.int .i64) (.pair (.int .i64) .unit))) .unit)))) .unit)))) rfl rfl rfl rfl)
abbrev aji:TI:={ desc:=.struct #[dV 30 0,dV 34 1,dV 35 5],size:=6,bytes:=144,zero:=[.slice none 0 0,.slice none 0 0,.slice none 0 0,.slice none 0 0,.slice none 0 0,.slice none 0 0],iL:=some (.pair (.sl (.pair (.int .i64) (.pair (.int .i64) (.pair (.int .i64) (.pair (.arr 8 (.int .i64)) (.pair (.int .i64) (.pair (.int .i64) (.pair (.int .i64) (.pair (.int .i64) (.pair (.int .i64) (.pair (.sl (.int .i64)) .unit))))))))))) (.pair (.pair (.sl (.int .i64)) (.pair (.sl (.int .i64)) (.pair (.sl (.sl (.int .i64))) (.pair (.sl (.int .i64)) .unit)))) (.pair (.sl (.pair (.int .i64) (.pair (.int .i64) (.pair (.sl (.pair (.int .i64) (.pair (.int .i64) .unit))) .unit)))) .unit))) }
theorem adO:aN Tryz.prog 37 aji:=aN.of_eq (by kernel_rfl) (by kernel_rfl) rfl rfl (aK (i:=aji) (s0:=(.pair (.sl (.pair (.int .i64) (.pair (.int .i64) (.pair (.int .i64) (.pair (.arr 8 (.int .i64)) (.pair (.int .i64) (.pair (.int .i64) (.pair (.int .i64) (.pair (.int .i64) (.pair (.int .i64) (.pair (.sl (.int .i64)) .unit))))))))))) (.pair (.pair (.sl (.int .i64)) (.pair (.sl (.int .i64)) (.pair (.sl (.sl (.int .i64))) (.pair (.sl (.int .i64)) .unit)))) (.pair (.sl (.pair (.int .i64) (.pair (.int .i64) (.pair (.sl (.pair (.int .i64) (.pair (.int .i64) .unit))) .unit)))) .unit)))) rfl rfl rfl rfl)
abbrev ajj:TI:={ desc:=.int .i64,size:=1,bytes:=8,zero:=[.int .i64 0],iL:=some (.int .i64) }
theorem adP:aN Tryz.prog 38 ajj:=aN.of_eq (by kernel_rfl) (by kernel_rfl) rfl rfl (aK (i:=ajj) (s0:=(.int .i64)) rfl rfl rfl rfl)
abbrev ajk:TI:={ desc:=.struct #[dV 27 0,dV 3 5,dV 3 6,dV 37 7],size:=13,bytes:=280,zero:=[.slice none 0 0,.slice none 0 0,.slice none 0 0,.slice none 0 0,.slice none 0 0,.int .i64 0,.int .i64 0,.slice none 0 0,.slice none 0 0,.slice none 0 0,.slice none 0 0,.slice none 0 0,.slice none 0 0],iL:=some (.pair (.pair (.sl (.pair .str (.pair (.int .i64) .unit))) (.pair (.sl .str) (.pair (.sl .str) (.pair (.sl (.pair .str (.pair (.sl (.pair (.int .i64) (.pair (.int .i64) (.pair (.int .i64) (.pair (.int .i64) (.pair (.int .i64) (.pair (.int .i64) (.pair (.int .i64) (.pair (.int .i64) .unit))))))))) .unit))) (.pair (.sl (.pair (.int .i64) (.pair (.int .i64) .unit))) .unit))))) (.pair (.int .i64) (.pair (.int .i64) (.pair (.pair (.sl (.pair (.int .i64) (.pair (.int .i64) (.pair (.int .i64) (.pair (.arr 8 (.int .i64)) (.pair (.int .i64) (.pair (.int .i64) (.pair (.int .i64) (.pair (.int .i64) (.pair (.int .i64) (.pair (.sl (.int .i64)) .unit))))))))))) (.pair (.pair (.sl (.int .i64)) (.pair (.sl (.int .i64)) (.pair (.sl (.sl (.int .i64))) (.pair (.sl (.int .i64)) .unit)))) (.pair (.sl (.pair (.int .i64) (.pair (.int .i64) (.pair (.sl (.pair (.int .i64) (.pair (.int .i64) .unit))) .unit)))) .unit))) .unit)))) }
theorem adQ:aN Tryz.prog 43 ajk:=aN.of_eq (by kernel_rfl) (by kernel_rfl) rfl rfl (aK (i:=ajk) (s0:=(.pair (.pair (.sl (.pair .str (.pair (.int .i64) .unit))) (.pair (.sl .str) (.pair (.sl .str) (.pair (.sl (.pair .str (.pair (.sl (.pair (.int .i64) (.pair (.int .i64) (.pair (.int .i64) (.pair (.int .i64) (.pair (.int .i64) (.pair (.int .i64) (.pair (.int .i64) (.pair (.int .i64) .unit))))))))) .unit))) (.pair (.sl (.pair (.int .i64) (.pair (.int .i64) .unit))) .unit))))) (.pair (.int .i64) (.pair (.int .i64) (.pair (.pair (.sl (.pair (.int .i64) (.pair (.int .i64) (.pair (.int .i64) (.pair (.arr 8 (.int .i64)) (.pair (.int .i64) (.pair (.int .i64) (.pair (.int .i64) (.pair (.int .i64) (.pair (.int .i64) (.pair (.sl (.int .i64)) .unit))))))))))) (.pair (.pair (.sl (.int .i64)) (.pair (.sl (.int .i64)) (.pair (.sl (.sl (.int .i64))) (.pair (.sl (.int .i64)) .unit)))) (.pair (.sl (.pair (.int .i64) (.pair (.int .i64) (.pair (.sl (.pair (.int .i64) (.pair (.int .i64) .unit))) .unit)))) .unit))) .unit))))) rfl rfl rfl rfl)
abbrev ajl:TI:={ desc:=.struct #[dV 27 0,dV 3 5,dV 3 6,dV 37 7],size:=13,bytes:=280,zero:=[.slice none 0 0,.slice none 0 0,.slice none 0 0,.slice none 0 0,.slice none 0 0,.int .i64 0,.int .i64 0,.slice none 0 0,.slice none 0 0,.slice none 0 0,.slice none 0 0,.slice none 0 0,.slice none 0 0],iL:=some (.pair (.pair (.sl (.pair .str (.pair (.int .i64) .unit))) (.pair (.sl .str) (.pair (.sl .str) (.pair (.sl (.pair .str (.pair (.sl (.pair (.int .i64) (.pair (.int .i64) (.pair (.int .i64) (.pair (.int .i64) (.pair (.int .i64) (.pair (.int .i64) (.pair (.int .i64) (.pair (.int .i64) .unit))))))))) .unit))) (.pair (.sl (.pair (.int .i64) (.pair (.int .i64) .unit))) .unit))))) (.pair (.int .i64) (.pair (.int .i64) (.pair (.pair (.sl (.pair (.int .i64) (.pair (.int .i64) (.pair (.int .i64) (.pair (.arr 8 (.int .i64)) (.pair (.int .i64) (.pair (.int .i64) (.pair (.int .i64) (.pair (.int .i64) (.pair (.int .i64) (.pair (.sl (.int .i64)) .unit))))))))))) (.pair (.pair (.sl (.int .i64)) (.pair (.sl (.int .i64)) (.pair (.sl (.sl (.int .i64))) (.pair (.sl (.int .i64)) .unit)))) (.pair (.sl (.pair (.int .i64) (.pair (.int .i64) (.pair (.sl (.pair (.int .i64) (.pair (.int .i64) .unit))) .unit)))) .unit))) .unit)))) }
theorem adR:aN Tryz.prog 44 ajl:=aN.of_eq (by kernel_rfl) (by kernel_rfl) rfl rfl (aK (i:=ajl) (s0:=(.pair (.pair (.sl (.pair .str (.pair (.int .i64) .unit))) (.pair (.sl .str) (.pair (.sl .str) (.pair (.sl (.pair .str (.pair (.sl (.pair (.int .i64) (.pair (.int .i64) (.pair (.int .i64) (.pair (.int .i64) (.pair (.int .i64) (.pair (.int .i64) (.pair (.int .i64) (.pair (.int .i64) .unit))))))))) .unit))) (.pair (.sl (.pair (.int .i64) (.pair (.int .i64) .unit))) .unit))))) (.pair (.int .i64) (.pair (.int .i64) (.pair (.pair (.sl (.pair (.int .i64) (.pair (.int .i64) (.pair (.int .i64) (.pair (.arr 8 (.int .i64)) (.pair (.int .i64) (.pair (.int .i64) (.pair (.int .i64) (.pair (.int .i64) (.pair (.int .i64) (.pair (.sl (.int .i64)) .unit))))))))))) (.pair (.pair (.sl (.int .i64)) (.pair (.sl (.int .i64)) (.pair (.sl (.sl (.int .i64))) (.pair (.sl (.int .i64)) .unit)))) (.pair (.sl (.pair (.int .i64) (.pair (.int .i64) (.pair (.sl (.pair (.int .i64) (.pair (.int .i64) .unit))) .unit)))) .unit))) .unit))))) rfl rfl rfl rfl)
abbrev ajm:TI:={ desc:=.int .i64,size:=1,bytes:=8,zero:=[.int .i64 0],iL:=some (.int .i64) }
theorem adS:aN Tryz.prog 46 ajm:=aN.of_eq (by kernel_rfl) (by kernel_rfl) rfl rfl (aK (i:=ajm) (s0:=(.int .i64)) rfl rfl rfl rfl)
abbrev ajn:TI:={ desc:=.int .i64,size:=1,bytes:=8,zero:=[.int .i64 0],iL:=some (.int .i64) }
theorem adT:aN Tryz.prog 47 ajn:=aN.of_eq (by kernel_rfl) (by kernel_rfl) rfl rfl (aK (i:=ajn) (s0:=(.int .i64)) rfl rfl rfl rfl)
abbrev ajo:TI:={ desc:=.struct #[dV 3 0,dV 3 1,dV 46 2,dV 3 3,dV 3 4,dV 3 5,dV 47 6,dV 3 7,dV 3 8],size:=9,bytes:=72,zero:=[.int .i64 0,.int .i64 0,.int .i64 0,.int .i64 0,.int .i64 0,.int .i64 0,.int .i64 0,.int .i64 0,.int .i64 0],iL:=some (.pair (.int .i64) (.pair (.int .i64) (.pair (.int .i64) (.pair (.int .i64) (.pair (.int .i64) (.pair (.int .i64) (.pair (.int .i64) (.pair (.int .i64) (.pair (.int .i64) .unit))))))))),zS:=[.i,.i,.i,.i,.i,.i,.i,.i,.i] }
theorem adU:aN Tryz.prog 48 ajo:=aN.of_eq (by kernel_rfl) (by kernel_rfl) rfl rfl (aK (i:=ajo) (s0:=(.pair (.int .i64) (.pair (.int .i64) (.pair (.int .i64) (.pair (.int .i64) (.pair (.int .i64) (.pair (.int .i64) (.pair (.int .i64) (.pair (.int .i64) (.pair (.int .i64) .unit)))))))))) rfl rfl rfl rfl) (λ_=>by kernel_rfl)
abbrev ajp:TI:={ desc:=.struct #[dV 3 0,dV 3 1,dV 46 2,dV 3 3,dV 3 4,dV 3 5,dV 47 6,dV 3 7,dV 3 8],size:=9,bytes:=72,zero:=[.int .i64 0,.int .i64 0,.int .i64 0,.int .i64 0,.int .i64 0,.int .i64 0,.int .i64 0,.int .i64 0,.int .i64 0],iL:=some (.pair (.int .i64) (.pair (.int .i64) (.pair (.int .i64) (.pair (.int .i64) (.pair (.int .i64) (.pair (.int .i64) (.pair (.int .i64) (.pair (.int .i64) (.pair (.int .i64) .unit))))))))),zS:=[.i,.i,.i,.i,.i,.i,.i,.i,.i] }
theorem adV:aN Tryz.prog 49 ajp:=aN.of_eq (by kernel_rfl) (by kernel_rfl) rfl rfl (aK (i:=ajp) (s0:=(.pair (.int .i64) (.pair (.int .i64) (.pair (.int .i64) (.pair (.int .i64) (.pair (.int .i64) (.pair (.int .i64) (.pair (.int .i64) (.pair (.int .i64) (.pair (.int .i64) .unit)))))))))) rfl rfl rfl rfl) (λ_=>by kernel_rfl)
abbrev ajq:TI:={ desc:=.array 8 3,size:=8,bytes:=64,zero:=[.int .i64 0,.int .i64 0,.int .i64 0,.int .i64 0,.int .i64 0,.int .i64 0,.int .i64 0,.int .i64 0],iL:=some (.arr 8 (.int .i64)),zS:=[.i] }
theorem adW:aN Tryz.prog 52 ajq:=aN.of_eq (by kernel_rfl) (by kernel_rfl) rfl rfl (aK (i:=ajq) (s0:=(.arr 8 (.int .i64))) rfl rfl rfl rfl) (λ_=>by kernel_rfl)
abbrev ajr:TI:={ desc:=.int .i64,size:=1,bytes:=8,zero:=[.int .i64 0],iL:=some (.int .i64) }
theorem adX:aN Tryz.prog 53 ajr:=aN.of_eq (by kernel_rfl) (by kernel_rfl) rfl rfl (aK (i:=ajr) (s0:=(.int .i64)) rfl rfl rfl rfl)
abbrev ajs:TI:={ desc:=.int .i64,size:=1,bytes:=8,zero:=[.int .i64 0],iL:=some (.int .i64) }
theorem adY:aN Tryz.prog 54 ajs:=aN.of_eq (by kernel_rfl) (by kernel_rfl) rfl rfl (aK (i:=ajs) (s0:=(.int .i64)) rfl rfl rfl rfl)
abbrev ajt:TI:={ desc:=.struct #[dV 3 0,dV 3 1,dV 3 2,dV 52 3,dV 3 11,dV 3 12,dV 53 13,dV 54 14,dV 38 15,dV 31 16],size:=17,bytes:=152,zero:=[.int .i64 0,.int .i64 0,.int .i64 0,.int .i64 0,.int .i64 0,.int .i64 0,.int .i64 0,.int .i64 0,.int .i64 0,.int .i64 0,.int .i64 0,.int .i64 0,.int .i64 0,.int .i64 0,.int .i64 0,.int .i64 0,.slice none 0 0],iL:=some (.pair (.int .i64) (.pair (.int .i64) (.pair (.int .i64) (.pair (.arr 8 (.int .i64)) (.pair (.int .i64) (.pair (.int .i64) (.pair (.int .i64) (.pair (.int .i64) (.pair (.int .i64) (.pair (.sl (.int .i64)) .unit)))))))))) }
theorem adZ:aN Tryz.prog 55 ajt:=aN.of_eq (by kernel_rfl) (by kernel_rfl) rfl rfl (aK (i:=ajt) (s0:=(.pair (.int .i64) (.pair (.int .i64) (.pair (.int .i64) (.pair (.arr 8 (.int .i64)) (.pair (.int .i64) (.pair (.int .i64) (.pair (.int .i64) (.pair (.int .i64) (.pair (.int .i64) (.pair (.sl (.int .i64)) .unit))))))))))) rfl rfl rfl rfl)
abbrev aju:TI:={ desc:=.struct #[dV 3 0,dV 3 1,dV 3 2,dV 52 3,dV 3 11,dV 3 12,dV 53 13,dV 54 14,dV 38 15,dV 31 16],size:=17,bytes:=152,zero:=[.int .i64 0,.int .i64 0,.int .i64 0,.int .i64 0,.int .i64 0,.int .i64 0,.int .i64 0,.int .i64 0,.int .i64 0,.int .i64 0,.int .i64 0,.int .i64 0,.int .i64 0,.int .i64 0,.int .i64 0,.int .i64 0,.slice none 0 0],iL:=some (.pair (.int .i64) (.pair (.int .i64) (.pair (.int .i64) (.pair (.arr 8 (.int .i64)) (.pair (.int .i64) (.pair (.int .i64) (.pair (.int .i64) (.pair (.int .i64) (.pair (.int .i64) (.pair (.sl (.int .i64)) .unit)))))))))) }
theorem ad1:aN Tryz.prog 56 aju:=aN.of_eq (by kernel_rfl) (by kernel_rfl) rfl rfl (aK (i:=aju) (s0:=(.pair (.int .i64) (.pair (.int .i64) (.pair (.int .i64) (.pair (.arr 8 (.int .i64)) (.pair (.int .i64) (.pair (.int .i64) (.pair (.int .i64) (.pair (.int .i64) (.pair (.int .i64) (.pair (.sl (.int .i64)) .unit))))))))))) rfl rfl rfl rfl)
abbrev ajv:TI:={ desc:=.slice 67,size:=1,bytes:=24,zero:=[.slice none 0 0],iL:=some (.sl (.pair (.int .i64) (.pair (.int .i64) .unit))) }
theorem ad2:aN Tryz.prog 63 ajv:=aN.of_eq (by kernel_rfl) (by kernel_rfl) rfl rfl (aK (i:=ajv) (s0:=(.sl (.pair (.int .i64) (.pair (.int .i64) .unit)))) rfl rfl rfl rfl)
abbrev ajw:TI:={ desc:=.struct #[dV 3 0,dV 3 1,dV 63 2],size:=3,bytes:=40,zero:=[.int .i64 0,.int .i64 0,.slice none 0 0],iL:=some (.pair (.int .i64) (.pair (.int .i64) (.pair (.sl (.pair (.int .i64) (.pair (.int .i64) .unit))) .unit))) }
theorem ad3:aN Tryz.prog 64 ajw:=aN.of_eq (by kernel_rfl) (by kernel_rfl) rfl rfl (aK (i:=ajw) (s0:=(.pair (.int .i64) (.pair (.int .i64) (.pair (.sl (.pair (.int .i64) (.pair (.int .i64) .unit))) .unit)))) rfl rfl rfl rfl)
abbrev ajx:TI:={ desc:=.struct #[dV 3 0,dV 3 1,dV 63 2],size:=3,bytes:=40,zero:=[.int .i64 0,.int .i64 0,.slice none 0 0],iL:=some (.pair (.int .i64) (.pair (.int .i64) (.pair (.sl (.pair (.int .i64) (.pair (.int .i64) .unit))) .unit))) }
theorem ad4:aN Tryz.prog 65 ajx:=aN.of_eq (by kernel_rfl) (by kernel_rfl) rfl rfl (aK (i:=ajx) (s0:=(.pair (.int .i64) (.pair (.int .i64) (.pair (.sl (.pair (.int .i64) (.pair (.int .i64) .unit))) .unit)))) rfl rfl rfl rfl)
abbrev ajy:TI:={ desc:=.struct #[dV 3 0,dV 3 1],size:=2,bytes:=16,zero:=[.int .i64 0,.int .i64 0],iL:=some (.pair (.int .i64) (.pair (.int .i64) .unit)),zS:=[.i,.i] }
theorem ad5:aN Tryz.prog 66 ajy:=aN.of_eq (by kernel_rfl) (by kernel_rfl) rfl rfl (aK (i:=ajy) (s0:=(.pair (.int .i64) (.pair (.int .i64) .unit))) rfl rfl rfl rfl) (λ_=>by kernel_rfl)
abbrev ajz:TI:={ desc:=.struct #[dV 3 0,dV 3 1],size:=2,bytes:=16,zero:=[.int .i64 0,.int .i64 0],iL:=some (.pair (.int .i64) (.pair (.int .i64) .unit)),zS:=[.i,.i] }
theorem ad6:aN Tryz.prog 67 ajz:=aN.of_eq (by kernel_rfl) (by kernel_rfl) rfl rfl (aK (i:=ajz) (s0:=(.pair (.int .i64) (.pair (.int .i64) .unit))) rfl rfl rfl rfl) (λ_=>by kernel_rfl)
abbrev ajA:TI:={ desc:=.slice 91,size:=1,bytes:=24,zero:=[.slice none 0 0],iL:=some (.sl (.pair (.int .i64) (.pair (.int .i64) (.pair (.int .i64) (.pair (.int .i64) (.pair (.int .i64) (.pair (.int .i64) (.pair (.int .i64) (.pair (.int .i64) .unit))))))))) }
theorem ad7:aN Tryz.prog 75 ajA:=aN.of_eq (by kernel_rfl) (by kernel_rfl) rfl rfl (aK (i:=ajA) (s0:=(.sl (.pair (.int .i64) (.pair (.int .i64) (.pair (.int .i64) (.pair (.int .i64) (.pair (.int .i64) (.pair (.int .i64) (.pair (.int .i64) (.pair (.int .i64) .unit)))))))))) rfl rfl rfl rfl)
abbrev ajB:TI:={ desc:=.struct #[dV 9 0,dV 75 1],size:=2,bytes:=40,zero:=[.string ⟨#[]⟩,.slice none 0 0],iL:=some (.pair .str (.pair (.sl (.pair (.int .i64) (.pair (.int .i64) (.pair (.int .i64) (.pair (.int .i64) (.pair (.int .i64) (.pair (.int .i64) (.pair (.int .i64) (.pair (.int .i64) .unit))))))))) .unit)) }
theorem ad8:aN Tryz.prog 76 ajB:=aN.of_eq (by kernel_rfl) (by kernel_rfl) rfl rfl (aK (i:=ajB) (s0:=(.pair .str (.pair (.sl (.pair (.int .i64) (.pair (.int .i64) (.pair (.int .i64) (.pair (.int .i64) (.pair (.int .i64) (.pair (.int .i64) (.pair (.int .i64) (.pair (.int .i64) .unit))))))))) .unit))) rfl rfl rfl rfl)
abbrev ajC:TI:={ desc:=.struct #[dV 9 0,dV 75 1],size:=2,bytes:=40,zero:=[.string ⟨#[]⟩,.slice none 0 0],iL:=some (.pair .str (.pair (.sl (.pair (.int .i64) (.pair (.int .i64) (.pair (.int .i64) (.pair (.int .i64) (.pair (.int .i64) (.pair (.int .i64) (.pair (.int .i64) (.pair (.int .i64) .unit))))))))) .unit)) }
theorem ad9:aN Tryz.prog 77 ajC:=aN.of_eq (by kernel_rfl) (by kernel_rfl) rfl rfl (aK (i:=ajC) (s0:=(.pair .str (.pair (.sl (.pair (.int .i64) (.pair (.int .i64) (.pair (.int .i64) (.pair (.int .i64) (.pair (.int .i64) (.pair (.int .i64) (.pair (.int .i64) (.pair (.int .i64) .unit))))))))) .unit))) rfl rfl rfl rfl)
abbrev ajD:TI:={ desc:=.struct #[dV 3 0,dV 3 1],size:=2,bytes:=16,zero:=[.int .i64 0,.int .i64 0],iL:=some (.pair (.int .i64) (.pair (.int .i64) .unit)),zS:=[.i,.i] }
theorem aea:aN Tryz.prog 81 ajD:=aN.of_eq (by kernel_rfl) (by kernel_rfl) rfl rfl (aK (i:=ajD) (s0:=(.pair (.int .i64) (.pair (.int .i64) .unit))) rfl rfl rfl rfl) (λ_=>by kernel_rfl)
abbrev ajE:TI:={ desc:=.struct #[dV 3 0,dV 3 1],size:=2,bytes:=16,zero:=[.int .i64 0,.int .i64 0],iL:=some (.pair (.int .i64) (.pair (.int .i64) .unit)),zS:=[.i,.i] }
theorem aeb:aN Tryz.prog 82 ajE:=aN.of_eq (by kernel_rfl) (by kernel_rfl) rfl rfl (aK (i:=ajE) (s0:=(.pair (.int .i64) (.pair (.int .i64) .unit))) rfl rfl rfl rfl) (λ_=>by kernel_rfl)
abbrev ajF:TI:={ desc:=.int .i64,size:=1,bytes:=8,zero:=[.int .i64 0],iL:=some (.int .i64) }
theorem aec:aN Tryz.prog 88 ajF:=aN.of_eq (by kernel_rfl) (by kernel_rfl) rfl rfl (aK (i:=ajF) (s0:=(.int .i64)) rfl rfl rfl rfl)
abbrev ajG:TI:={ desc:=.int .i64,size:=1,bytes:=8,zero:=[.int .i64 0],iL:=some (.int .i64) }
theorem aed:aN Tryz.prog 89 ajG:=aN.of_eq (by kernel_rfl) (by kernel_rfl) rfl rfl (aK (i:=ajG) (s0:=(.int .i64)) rfl rfl rfl rfl)
abbrev ajH:TI:={ desc:=.struct #[dV 88 0,dV 3 1,dV 3 2,dV 3 3,dV 3 4,dV 3 5,dV 89 6,dV 47 7],size:=8,bytes:=64,zero:=[.int .i64 0,.int .i64 0,.int .i64 0,.int .i64 0,.int .i64 0,.int .i64 0,.int .i64 0,.int .i64 0],iL:=some (.pair (.int .i64) (.pair (.int .i64) (.pair (.int .i64) (.pair (.int .i64) (.pair (.int .i64) (.pair (.int .i64) (.pair (.int .i64) (.pair (.int .i64) .unit)))))))),zS:=[.i,.i,.i,.i,.i,.i,.i,.i] }
theorem aee:aN Tryz.prog 90 ajH:=aN.of_eq (by kernel_rfl) (by kernel_rfl) rfl rfl (aK (i:=ajH) (s0:=(.pair (.int .i64) (.pair (.int .i64) (.pair (.int .i64) (.pair (.int .i64) (.pair (.int .i64) (.pair (.int .i64) (.pair (.int .i64) (.pair (.int .i64) .unit))))))))) rfl rfl rfl rfl) (λ_=>by kernel_rfl)
abbrev ajI:TI:={ desc:=.struct #[dV 88 0,dV 3 1,dV 3 2,dV 3 3,dV 3 4,dV 3 5,dV 89 6,dV 47 7],size:=8,bytes:=64,zero:=[.int .i64 0,.int .i64 0,.int .i64 0,.int .i64 0,.int .i64 0,.int .i64 0,.int .i64 0,.int .i64 0],iL:=some (.pair (.int .i64) (.pair (.int .i64) (.pair (.int .i64) (.pair (.int .i64) (.pair (.int .i64) (.pair (.int .i64) (.pair (.int .i64) (.pair (.int .i64) .unit)))))))),zS:=[.i,.i,.i,.i,.i,.i,.i,.i] }
theorem aef:aN Tryz.prog 91 ajI:=aN.of_eq (by kernel_rfl) (by kernel_rfl) rfl rfl (aK (i:=ajI) (s0:=(.pair (.int .i64) (.pair (.int .i64) (.pair (.int .i64) (.pair (.int .i64) (.pair (.int .i64) (.pair (.int .i64) (.pair (.int .i64) (.pair (.int .i64) .unit))))))))) rfl rfl rfl rfl) (λ_=>by kernel_rfl)
abbrev Ym:TI:={ desc:=.struct #[dV 9 0,dV 3 1],size:=2,bytes:=24,zero:=[.string ⟨#[]⟩,.int .i64 0],iL:=some (.pair .str (.pair (.int .i64) .unit)),zS:=[.s,.i] }
theorem Yn:aN Tryz.prog 117 Ym:=aN.of_eq (by kernel_rfl) (by kernel_rfl) rfl rfl (aK (i:=Ym) (s0:=(.pair .str (.pair (.int .i64) .unit))) rfl rfl rfl rfl) (λ_=>by kernel_rfl)
abbrev Yo:TI:={ desc:=.struct #[dV 9 0,dV 3 1],size:=2,bytes:=24,zero:=[.string ⟨#[]⟩,.int .i64 0],iL:=some (.pair .str (.pair (.int .i64) .unit)),zS:=[.s,.i] }
theorem Yp:aN Tryz.prog 118 Yo:=aN.of_eq (by kernel_rfl) (by kernel_rfl) rfl rfl (aK (i:=Yo) (s0:=(.pair .str (.pair (.int .i64) .unit))) rfl rfl rfl rfl) (λ_=>by kernel_rfl)
abbrev Yq:TI:={ desc:=.int .i64,size:=1,bytes:=8,zero:=[.int .i64 0],iL:=some (.int .i64) }
theorem Yr:aN Tryz.prog 151 Yq:=aN.of_eq (by kernel_rfl) (by kernel_rfl) rfl rfl (aK (i:=Yq) (s0:=(.int .i64)) rfl rfl rfl rfl)
abbrev Yt:TI:={ desc:=.struct #[dV 3 0,dV 4 1,dV 3 2,dV 3 3,dV 4 4,dV 3 5,dV 151 6,dV 4 7],size:=8,bytes:=64,zero:=[.int .i64 0,.bool false,.int .i64 0,.int .i64 0,.bool false,.int .i64 0,.int .i64 0,.bool false],iL:=some (.pair (.int .i64) (.pair .bool (.pair (.int .i64) (.pair (.int .i64) (.pair .bool (.pair (.int .i64) (.pair (.int .i64) (.pair .bool .unit)))))))),zS:=[.i,.b,.i,.i,.b,.i,.i,.b] }
theorem Yu:aN Tryz.prog 152 Yt:=aN.of_eq (by kernel_rfl) (by kernel_rfl) rfl rfl (aK (i:=Yt) (s0:=(.pair (.int .i64) (.pair .bool (.pair (.int .i64) (.pair (.int .i64) (.pair .bool (.pair (.int .i64) (.pair (.int .i64) (.pair .bool .unit))))))))) rfl rfl rfl rfl) (λ_=>by kernel_rfl)
abbrev Yv:TI:={ desc:=.struct #[dV 3 0,dV 4 1,dV 3 2,dV 3 3,dV 4 4,dV 3 5,dV 151 6,dV 4 7],size:=8,bytes:=64,zero:=[.int .i64 0,.bool false,.int .i64 0,.int .i64 0,.bool false,.int .i64 0,.int .i64 0,.bool false],iL:=some (.pair (.int .i64) (.pair .bool (.pair (.int .i64) (.pair (.int .i64) (.pair .bool (.pair (.int .i64) (.pair (.int .i64) (.pair .bool .unit)))))))),zS:=[.i,.b,.i,.i,.b,.i,.i,.b] }
theorem Yw:aN Tryz.prog 153 Yv:=aN.of_eq (by kernel_rfl) (by kernel_rfl) rfl rfl (aK (i:=Yv) (s0:=(.pair (.int .i64) (.pair .bool (.pair (.int .i64) (.pair (.int .i64) (.pair .bool (.pair (.int .i64) (.pair (.int .i64) (.pair .bool .unit))))))))) rfl rfl rfl rfl) (λ_=>by kernel_rfl)
abbrev Yx:TI:={ desc:=.array 17 153,size:=136,bytes:=1088,zero:=[.int .i64 0,.bool false,.int .i64 0,.int .i64 0,.bool false,.int .i64 0,.int .i64 0,.bool false,.int .i64 0,.bool false,.int .i64 0,.int .i64 0,.bool false,.int .i64 0,.int .i64 0,.bool false,.int .i64 0,.bool false,.int .i64 0,.int .i64 0,.bool false,.int .i64 0,.int .i64 0,.bool false,.int .i64 0,.bool false,.int .i64 0,.int .i64 0,.bool false,.int .i64 0,.int .i64 0,.bool false,.int .i64 0,.bool false,.int .i64 0,.int .i64 0,.bool false,.int .i64 0,.int .i64 0,.bool false,.int .i64 0,.bool false,.int .i64 0,.int .i64 0,.bool false,.int .i64 0,.int .i64 0,.bool false,.int .i64 0,.bool false,.int .i64 0,.int .i64 0,.bool false,.int .i64 0,.int .i64 0,.bool false,.int .i64 0,.bool false,.int .i64 0,.int .i64 0,.bool false,.int .i64 0,.int .i64 0,.bool false,.int .i64 0,.bool false,.int .i64 0,.int .i64 0,.bool false,.int .i64 0,.int .i64 0,.bool false,.int .i64 0,.bool false,.int .i64 0,.int .i64 0,.bool false,.int .i64 0,.int .i64 0,.bool false,.int .i64 0,.bool false,.int .i64 0,.int .i64 0,.bool false,.int .i64 0,.int .i64 0,.bool false,.int .i64 0,.bool false,.int .i64 0,.int .i64 0,.bool false,.int .i64 0,.int .i64 0,.bool false,.int .i64 0,.bool false,.int .i64 0,.int .i64 0,.bool false,.int .i64 0,.int .i64 0,.bool false,.int .i64 0,.bool false,.int .i64 0,.int .i64 0,.bool false,.int .i64 0,.int .i64 0,.bool false,.int .i64 0,.bool false,.int .i64 0,.int .i64 0,.bool false,.int .i64 0,.int .i64 0,.bool false,.int .i64 0,.bool false,.int .i64 0,.int .i64 0,.bool false,.int .i64 0,.int .i64 0,.bool false,.int .i64 0,.bool false,.int .i64 0,.int .i64 0,.bool false,.int .i64 0,.int .i64 0,.bool false],iL:=some (.arr 17 (.pair (.int .i64) (.pair .bool (.pair (.int .i64) (.pair (.int .i64) (.pair .bool (.pair (.int .i64) (.pair (.int .i64) (.pair .bool .unit))))))))) }
theorem Yy:aN Tryz.prog 154 Yx:=aN.of_eq (by kernel_rfl) (by kernel_rfl) rfl rfl (aK (i:=Yx) (s0:=(.arr 17 (.pair (.int .i64) (.pair .bool (.pair (.int .i64) (.pair (.int .i64) (.pair .bool (.pair (.int .i64) (.pair (.int .i64) (.pair .bool .unit)))))))))) rfl rfl rfl rfl)
abbrev Yz:TI:={ desc:=.slice 158,size:=1,bytes:=24,zero:=[.slice none 0 0],iL:=some (.sl (.pair (.int .i64) (.pair (.int .i64) (.pair (.int .i64) (.pair .bool .unit))))) }
theorem YA:aN Tryz.prog 155 Yz:=aN.of_eq (by kernel_rfl) (by kernel_rfl) rfl rfl (aK (i:=Yz) (s0:=(.sl (.pair (.int .i64) (.pair (.int .i64) (.pair (.int .i64) (.pair .bool .unit)))))) rfl rfl rfl rfl)
abbrev YB:TI:={ desc:=.struct #[dV 151 0,dV 3 1,dV 3 2,dV 4 3],size:=4,bytes:=32,zero:=[.int .i64 0,.int .i64 0,.int .i64 0,.bool false],iL:=some (.pair (.int .i64) (.pair (.int .i64) (.pair (.int .i64) (.pair .bool .unit)))),zS:=[.i,.i,.i,.b] }
theorem YC:aN Tryz.prog 157 YB:=aN.of_eq (by kernel_rfl) (by kernel_rfl) rfl rfl (aK (i:=YB) (s0:=(.pair (.int .i64) (.pair (.int .i64) (.pair (.int .i64) (.pair .bool .unit))))) rfl rfl rfl rfl) (λ_=>by kernel_rfl)
abbrev YD:TI:={ desc:=.struct #[dV 151 0,dV 3 1,dV 3 2,dV 4 3],size:=4,bytes:=32,zero:=[.int .i64 0,.int .i64 0,.int .i64 0,.bool false],iL:=some (.pair (.int .i64) (.pair (.int .i64) (.pair (.int .i64) (.pair .bool .unit)))),zS:=[.i,.i,.i,.b] }
theorem YE:aN Tryz.prog 158 YD:=aN.of_eq (by kernel_rfl) (by kernel_rfl) rfl rfl (aK (i:=YD) (s0:=(.pair (.int .i64) (.pair (.int .i64) (.pair (.int .i64) (.pair .bool .unit))))) rfl rfl rfl rfl) (λ_=>by kernel_rfl)
abbrev YF:TI:={ desc:=.slice 4,size:=1,bytes:=24,zero:=[.slice none 0 0],iL:=some (.sl .bool) }
theorem YG:aN Tryz.prog 159 YF:=aN.of_eq (by kernel_rfl) (by kernel_rfl) rfl rfl (aK (i:=YF) (s0:=(.sl .bool)) rfl rfl rfl rfl)
abbrev YH:TI:={ desc:=.struct #[dV 3 0,dV 3 1],size:=2,bytes:=16,zero:=[.int .i64 0,.int .i64 0],iL:=some (.pair (.int .i64) (.pair (.int .i64) .unit)),zS:=[.i,.i] }
theorem YJ:aN Tryz.prog 161 YH:=aN.of_eq (by kernel_rfl) (by kernel_rfl) rfl rfl (aK (i:=YH) (s0:=(.pair (.int .i64) (.pair (.int .i64) .unit))) rfl rfl rfl rfl) (λ_=>by kernel_rfl)
abbrev YK:TI:={ desc:=.struct #[dV 3 0,dV 3 1],size:=2,bytes:=16,zero:=[.int .i64 0,.int .i64 0],iL:=some (.pair (.int .i64) (.pair (.int .i64) .unit)),zS:=[.i,.i] }
theorem YL:aN Tryz.prog 162 YK:=aN.of_eq (by kernel_rfl) (by kernel_rfl) rfl rfl (aK (i:=YK) (s0:=(.pair (.int .i64) (.pair (.int .i64) .unit))) rfl rfl rfl rfl) (λ_=>by kernel_rfl)
abbrev YM:TI:={ desc:=.int .u32,size:=1,bytes:=4,zero:=[.int .u32 0],iL:=some (.int .u32) }
theorem YN:aN Tryz.prog 167 YM:=aN.of_eq (by kernel_rfl) (by kernel_rfl) rfl rfl (aK (i:=YM) (s0:=(.int .u32)) rfl rfl rfl rfl)
abbrev YO:TI:={ desc:=.array 7 4,size:=7,bytes:=7,zero:=[.bool false,.bool false,.bool false,.bool false,.bool false,.bool false,.bool false],iL:=some (.arr 7 .bool) }
theorem YP:aN Tryz.prog 180 YO:=aN.of_eq (by kernel_rfl) (by kernel_rfl) rfl rfl (aK (i:=YO) (s0:=(.arr 7 .bool)) rfl rfl rfl rfl)
abbrev YQ:TI:={ desc:=.struct #[dV 9 0,dV 180 1],size:=8,bytes:=24,zero:=[.string ⟨#[]⟩,.bool false,.bool false,.bool false,.bool false,.bool false,.bool false,.bool false],iL:=some (.pair .str (.pair (.arr 7 .bool) .unit)) }
theorem YR:aN Tryz.prog 181 YQ:=aN.of_eq (by kernel_rfl) (by kernel_rfl) rfl rfl (aK (i:=YQ) (s0:=(.pair .str (.pair (.arr 7 .bool) .unit))) rfl rfl rfl rfl)
abbrev YT:TI:={ desc:=.struct #[dV 9 0,dV 180 1],size:=8,bytes:=24,zero:=[.string ⟨#[]⟩,.bool false,.bool false,.bool false,.bool false,.bool false,.bool false,.bool false],iL:=some (.pair .str (.pair (.arr 7 .bool) .unit)) }
theorem YU:aN Tryz.prog 182 YT:=aN.of_eq (by kernel_rfl) (by kernel_rfl) rfl rfl (aK (i:=YT) (s0:=(.pair .str (.pair (.arr 7 .bool) .unit))) rfl rfl rfl rfl)
abbrev YV:TI:={ desc:=.array 22 182,size:=176,bytes:=528,zero:=[.string ⟨#[]⟩,.bool false,.bool false,.bool false,.bool false,.bool false,.bool false,.bool false,.string ⟨#[]⟩,.bool false,.bool false,.bool false,.bool false,.bool false,.bool false,.bool false,.string ⟨#[]⟩,.bool false,.bool false,.bool false,.bool false,.bool false,.bool false,.bool false,.string ⟨#[]⟩,.bool false,.bool false,.bool false,.bool false,.bool false,.bool false,.bool false,.string ⟨#[]⟩,.bool false,.bool false,.bool false,.bool false,.bool false,.bool false,.bool false,.string ⟨#[]⟩,.bool false,.bool false,.bool false,.bool false,.bool false,.bool false,.bool false,.string ⟨#[]⟩,.bool false,.bool false,.bool false,.bool false,.bool false,.bool false,.bool false,.string ⟨#[]⟩,.bool false,.bool false,.bool false,.bool false,.bool false,.bool false,.bool false,.string ⟨#[]⟩,.bool false,.bool false,.bool false,.bool false,.bool false,.bool false,.bool false,.string ⟨#[]⟩,.bool false,.bool false,.bool false,.bool false,.bool false,.bool false,.bool false,.string ⟨#[]⟩,.bool false,.bool false,.bool false,.bool false,.bool false,.bool false,.bool false,.string ⟨#[]⟩,.bool false,.bool false,.bool false,.bool false,.bool false,.bool false,.bool false,.string ⟨#[]⟩,.bool false,.bool false,.bool false,.bool false,.bool false,.bool false,.bool false,.string ⟨#[]⟩,.bool false,.bool false,.bool false,.bool false,.bool false,.bool false,.bool false,.string ⟨#[]⟩,.bool false,.bool false,.bool false,.bool false,.bool false,.bool false,.bool false,.string ⟨#[]⟩,.bool false,.bool false,.bool false,.bool false,.bool false,.bool false,.bool false,.string ⟨#[]⟩,.bool false,.bool false,.bool false,.bool false,.bool false,.bool false,.bool false,.string ⟨#[]⟩,.bool false,.bool false,.bool false,.bool false,.bool false,.bool false,.bool false,.string ⟨#[]⟩,.bool false,.bool false,.bool false,.bool false,.bool false,.bool false,.bool false,.string ⟨#[]⟩,.bool false,.bool false,.bool false,.bool false,.bool false,.bool false,.bool false,.string ⟨#[]⟩,.bool false,.bool false,.bool false,.bool false,.bool false,.bool false,.bool false,.string ⟨#[]⟩,.bool false,.bool false,.bool false,.bool false,.bool false,.bool false,.bool false],iL:=some (.arr 22 (.pair .str (.pair (.arr 7 .bool) .unit))) }
theorem YW:aN Tryz.prog 183 YV:=aN.of_eq (by kernel_rfl) (by kernel_rfl) rfl rfl (aK (i:=YV) (s0:=(.arr 22 (.pair .str (.pair (.arr 7 .bool) .unit)))) rfl rfl rfl rfl)
abbrev YX:TI:={ desc:=.slice 23,size:=1,bytes:=24,zero:=[.slice none 0 0],iL:=some (.sl (.sl .str)) }
theorem YZ:aN Tryz.prog 194 YX:=aN.of_eq (by kernel_rfl) (by kernel_rfl) rfl rfl (aK (i:=YX) (s0:=(.sl (.sl .str))) rfl rfl rfl rfl)
abbrev Y0:TI:={ desc:=.array 4 3,size:=4,bytes:=32,zero:=[.int .i64 0,.int .i64 0,.int .i64 0,.int .i64 0],iL:=some (.arr 4 (.int .i64)),zS:=[.i] }
theorem Y1:aN Tryz.prog 203 Y0:=aN.of_eq (by kernel_rfl) (by kernel_rfl) rfl rfl (aK (i:=Y0) (s0:=(.arr 4 (.int .i64))) rfl rfl rfl rfl) (λ_=>by kernel_rfl)
abbrev Y2:TI:={ desc:=.array 7 3,size:=7,bytes:=56,zero:=[.int .i64 0,.int .i64 0,.int .i64 0,.int .i64 0,.int .i64 0,.int .i64 0,.int .i64 0],iL:=some (.arr 7 (.int .i64)),zS:=[.i] }
theorem Y3:aN Tryz.prog 204 Y2:=aN.of_eq (by kernel_rfl) (by kernel_rfl) rfl rfl (aK (i:=Y2) (s0:=(.arr 7 (.int .i64))) rfl rfl rfl rfl) (λ_=>by kernel_rfl)
abbrev Y4:TI:={ desc:=.array 3 3,size:=3,bytes:=24,zero:=[.int .i64 0,.int .i64 0,.int .i64 0],iL:=some (.arr 3 (.int .i64)),zS:=[.i] }
theorem Y5:aN Tryz.prog 206 Y4:=aN.of_eq (by kernel_rfl) (by kernel_rfl) rfl rfl (aK (i:=Y4) (s0:=(.arr 3 (.int .i64))) rfl rfl rfl rfl) (λ_=>by kernel_rfl)
abbrev Y6:TI:={ desc:=.array 10 9,size:=10,bytes:=160,zero:=[.string ⟨#[]⟩,.string ⟨#[]⟩,.string ⟨#[]⟩,.string ⟨#[]⟩,.string ⟨#[]⟩,.string ⟨#[]⟩,.string ⟨#[]⟩,.string ⟨#[]⟩,.string ⟨#[]⟩,.string ⟨#[]⟩],iL:=some (.arr 10 .str) }
theorem Y7:aN Tryz.prog 214 Y6:=aN.of_eq (by kernel_rfl) (by kernel_rfl) rfl rfl (aK (i:=Y6) (s0:=(.arr 10 .str)) rfl rfl rfl rfl)
abbrev Y8:TI:={ desc:=.int .u64,size:=1,bytes:=8,zero:=[.int .u64 0],iL:=some (.int .u64) }
theorem Y9:aN Tryz.prog 217 Y8:=aN.of_eq (by kernel_rfl) (by kernel_rfl) rfl rfl (aK (i:=Y8) (s0:=(.int .u64)) rfl rfl rfl rfl)
abbrev Za:TI:={ desc:=.int .u64,size:=1,bytes:=8,zero:=[.int .u64 0],iL:=some (.int .u64) }
theorem Zb:aN Tryz.prog 230 Za:=aN.of_eq (by kernel_rfl) (by kernel_rfl) rfl rfl (aK (i:=Za) (s0:=(.int .u64)) rfl rfl rfl rfl)
abbrev tis:List (Nat×TI):=[(3,ti3),(4,ti4),(5,ti5),(9,ti9),(21,ai4),(22,ai5),(23,ai6),(24,ai7),(25,ai8),(26,ai9),(27,aja),(30,ajb),(31,ajc),(32,ajd),(33,aje),(34,ajf),(35,ajg),(36,ajh),(37,aji),(38,ajj),(43,ajk),(44,ajl),(46,ajm),(47,ajn),(48,ajo),(49,ajp),(52,ajq),(53,ajr),(54,ajs),(55,ajt),(56,aju),(63,ajv),(64,ajw),(65,ajx),(66,ajy),(67,ajz),(75,ajA),(76,ajB),(77,ajC),(81,ajD),(82,ajE),(88,ajF),(89,ajG),(90,ajH),(91,ajI),(117,Ym),(118,Yo),(151,Yq),(152,Yt),(153,Yv),(154,Yx),(155,Yz),(157,YB),(158,YD),(159,YF),(161,YH),(162,YK),(167,YM),(180,YO),(181,YQ),(182,YT),(183,YV),(194,YX),(203,Y0),(204,Y2),(206,Y4),(214,Y6),(217,Y8),(230,Za)]
theorem au:bT Tryz.prog tis:=⟨ai0,ai1,ai2,ai3,adA,adB,adC,adD,adE,adF,adG,adH,adI,adJ,adK,adL,adM,adN,adO,adP,adQ,adR,adS,adT,adU,adV,adW,adX,adY,adZ,ad1,ad2,ad3,ad4,ad5,ad6,ad7,ad8,ad9,aea,aeb,aec,aed,aee,aef,Yn,Yp,Yr,Yu,Yw,Yy,YA,YC,YE,YG,YJ,YL,YN,YP,YR,YU,YW,YZ,Y1,Y3,Y5,Y7,Y9,Zb,trivial⟩
abbrev I6:Sh:=.int .i64
abbrev iR(n:Int):Prop:=mY IntKind.i64 n
abbrev iU:Int:=4294967296
abbrev iN:SC:=SC.v (Value.slice none 0 0)
abbrev v6(n:Int):SC:=.v (.int .i64 n)
abbrev cI(n:Int):SV:=.c (.v (.int .i64 n))
abbrev cB(b:Bool):SV:=.c (.v (.bool b))
abbrev g0(r:ay):Go.jf.Gd×ay:=([],r)
abbrev rE(a b:aZ):Prop:=([]:List ay)=[]/\a=b
abbrev rT(a b:List SV):Prop:=([]:List ay)=[]/\aZ.gV a=aZ.gV b
abbrev qI(a b:Int):Prop:=([]:List ay)=[]/\aZ.one (.c (.v (.int .i64 a)))=aZ.one (.c (.v (.int .i64 b)))
abbrev qB(a b:Bool):Prop:=([]:List ay)=[]/\aZ.one (.c (.v (.bool a)))=aZ.one (.c (.v (.bool b)))
abbrev sm{α:Type} (a:α):Prop:=a=a
def ajJ:List (List Bool):=[[true,false,false,false,true,false,false],[true,true,false,false,false,false,false],[true,true,true,false,false,true,false],[false,false,false,false,true,false,false],[false,true,false,false,true,false,false],[false,true,false,false,false,false,false],[false,false,false,false,false,false,false],[true,false,false,true,false,false,true],[false,true,false,true,false,false,true],[true,true,false,true,false,false,true],[true,true,false,true,false,false,true],[true,true,true,true,false,false,true],[false,false,false,false,false,false,false],[true,true,false,true,false,true,true],[false,false,false,true,false,false,false],[false,false,false,true,false,false,false],[true,false,false,true,false,false,false],[false,false,false,true,true,false,false],[false,false,false,true,false,false,false],[false,false,false,true,false,false,false],[true,true,false,true,false,false,false],[false,true,false,false,false,false,false]]
def fieldsD:List ByteArray:=[⟨#[65,78]⟩,⟨#[65,66]⟩,⟨#[70,65,66,67]⟩,⟨#[78]⟩,⟨#[66,78]⟩,⟨#[66]⟩,⟨#[]⟩,⟨#[65,79,82]⟩,⟨#[79,66,82]⟩,⟨#[65,79,66,82]⟩,⟨#[65,79,66,82]⟩,⟨#[65,79,66,67,82]⟩,⟨#[]⟩,⟨#[65,79,70,66,82]⟩,⟨#[79]⟩,⟨#[79]⟩,⟨#[65,79]⟩,⟨#[79,78]⟩,⟨#[79]⟩,⟨#[79]⟩,⟨#[65,79,66]⟩,⟨#[66]⟩]
def Jt:List ByteArray:=[⟨#[97,100,100]⟩,⟨#[115,117,98]⟩,⟨#[109,117,108]⟩,⟨#[97,110,100]⟩,⟨#[111,114]⟩,⟨#[120,111,114]⟩,⟨#[101,113]⟩,⟨#[110,101]⟩,⟨#[108,116]⟩,⟨#[108,101]⟩]
def LZ:List (ByteArray×List Bool×Unit):=[(⟨#[99,111,110,115,116]⟩,[true,false,false,false,true,false,false],()),(⟨#[99,111,112,121]⟩,[true,true,false,false,false,false,false],()),(⟨#[99,97,108,99]⟩,[true,true,true,false,false,true,false],()),(⟨#[106,117,109,112]⟩,[false,false,false,false,true,false,false],()),(⟨#[98,114,97,110,99,104]⟩,[false,true,false,false,true,false,false],()),(⟨#[97,115,115,101,114,116]⟩,[false,true,false,false,false,false,false],()),(⟨#[115,116,111,112]⟩,[false,false,false,false,false,false,false],()),(⟨#[108,111,97,100]⟩,[true,false,false,true,false,false,true],()),(⟨#[115,116,111,114,101]⟩,[false,true,false,true,false,false,true],()),(⟨#[115,119,97,112]⟩,[true,true,false,true,false,false,true],()),(⟨#[102,101,116,99,104,97,100,100]⟩,[true,true,false,true,false,false,true],()),(⟨#[99,97,115]⟩,[true,true,true,true,false,false,true],()),(⟨#[102,101,110,99,101]⟩,[false,false,false,false,false,false,false],()),(⟨#[97,119,97,105,116]⟩,[true,true,false,true,false,true,true],()),(⟨#[108,111,99,107]⟩,[false,false,false,true,false,false,false],()),(⟨#[117,110,108,111,99,107]⟩,[false,false,false,true,false,false,false],()),(⟨#[116,114,121,108,111,99,107]⟩,[true,false,false,true,false,false,false],()),(⟨#[119,97,105,116]⟩,[false,false,false,true,true,false,false],()),(⟨#[115,105,103,110,97,108]⟩,[false,false,false,true,false,false,false],()),(⟨#[98,114,111,97,100,99,97,115,116]⟩,[false,false,false,true,false,false,false],()),(⟨#[115,112,97,119,110]⟩,[true,true,false,true,false,false,false],()),(⟨#[106,111,105,110]⟩,[false,true,false,false,false,false,false],())]
abbrev gd0:Nat->Option (Sigma Sh.den):=λg=>match g with
 | 1=>some ⟨.arr 22 (.pair .str (.pair (.arr 7 .bool) .unit)),LZ⟩
 | 2=>some ⟨.arr 10 .str,Jt⟩
 | _=>none
abbrev aT:Cx:={ ti:=tis,gd:=gd0 }
abbrev lJ:Sh:=.pair (.int .i64) (.pair (.int .i64) (.pair (.int .i64) (.pair (.int .i64) (.pair (.int .i64) (.pair (.int .i64) (.pair (.int .i64) (.pair (.int .i64) .unit)))))))
def use(op:Int) (k:Nat):Bool:=decide (1<=op) && decide (op<=22) && (ajJ.getD (op - 1).toNat []).getD k false
def sF(op:Int):Bool:=decide (1<=op) && decide (op<=22)
def wO(f:Int):ByteArray:=if 1<=f/\f<=10 then Jt.getD (f - 1).toNat ByteArray.empty else ByteArray.empty
abbrev anq:CT:={ ps:=[],pre:=λd=>True,res:=λd=>([.row 9 .str fieldsD],.one (.c (.row 0))) }
abbrev ajK  : Nat->Option (St->jv):=λ_=>none
abbrev rC:=SV.c (SC.row (0:Nat))
theorem aeg :
 [ay.row (9:TypeId) Sh.str fieldsD]=[ay.row (9:TypeId) Sh.str [{ data:=#[(65:UInt8),78]:ByteArray },{ data:=#[(65:UInt8),66]:ByteArray },{ data:=#[(70:UInt8),65,66,67]:ByteArray },{ data:=#[(78:UInt8)]:ByteArray },{ data:=#[(66:UInt8),78]:ByteArray },{ data:=#[(66:UInt8)]:ByteArray },{ data:=#[]:ByteArray },{ data:=#[(65:UInt8),79,82]:ByteArray },{ data:=#[(79:UInt8),66,82]:ByteArray },{ data:=#[(65:UInt8),79,66,82]:ByteArray },{ data:=#[(65:UInt8),79,66,82]:ByteArray },{ data:=#[(65:UInt8),79,66,67,82]:ByteArray },{ data:=#[]:ByteArray },{ data:=#[(65:UInt8),79,70,66,82]:ByteArray },{ data:=#[(79:UInt8)]:ByteArray },{ data:=#[(79:UInt8)]:ByteArray },{ data:=#[(65:UInt8),79]:ByteArray },{ data:=#[(79:UInt8),78]:ByteArray },{ data:=#[(79:UInt8)]:ByteArray },{ data:=#[(79:UInt8)]:ByteArray },{ data:=#[(65:UInt8),79,66]:ByteArray },{ data:=#[(66:UInt8)]:ByteArray }]]/\aZ.one rC=aZ.one rC:=by
 delta rC;exact⟨rfl,rfl⟩
theorem Zc:aU aT.gd 206 anq:=
 jG (cx:=aT) (n:=2) (cl:=[]) au trivial Tryz.func206 λd hd=>by
  obtain⟨⟩:=d;exact⟨ajK ,cast (by kernel_rfl) (aeg )⟩
abbrev anr:CT:={ ps:=[.int .i64],pre:=λd=>True,res:=λd=>([],vB (sF d.1)) }
theorem aeh(op:Int):
 qB (sF op) (decide (1<=op) && decide (op<=22)):=by
 delta qB;exact⟨rfl,rfl⟩
theorem Zd:aU aT.gd 197 anr:=
 jG (cx:=aT) (n:=9) (cl:=[]) au trivial Tryz.func197 λd hd=>by
  obtain⟨op,⟨⟩⟩:=d;exact⟨λ_=>none,cast (by kernel_rfl) (aeh op)⟩
abbrev ant:CT:={ ps:=[.int .i64],pre:=λd=>True,res:=λd=>([],vB (decide (0<=d.1) && decide (d.1 < 8))) }
theorem aei(r:Int):
 let z1:=decide (0<=r) && decide (r < 8);qB z1 z1:=by
 conv=>zeta
 delta qB;exact⟨rfl,rfl⟩
theorem Ze:aU aT.gd 204 ant:=
 jG (cx:=aT) (n:=9) (cl:=[]) au trivial Tryz.func204 λd hd=>by
  obtain⟨r,⟨⟩⟩:=d;exact⟨λ_=>none,cast (by kernel_rfl) (aei r)⟩
abbrev anu:CT:={ ps:=[lJ],pre:=λd=>True,res:=λd=>([],.one (.dat (.arr 7 (.int .i64)) [d.1.2.1,d.1.2.2.1,d.1.2.2.2.1,d.1.2.2.2.2.1,d.1.2.2.2.2.2.1,d.1.2.2.2.2.2.2.1,d.1.2.2.2.2.2.2.2.1])) }
theorem aej(op a b c obj n fn ord:Int):
 let z1:=[a,b,c,obj,n,fn,ord];rE (aZ.one (SV.dat (Sh.arr 7 I6) z1)) (aZ.one (SV.dat (Sh.arr 7 I6) z1)):=by
 conv=>zeta
 delta rE I6;exact⟨rfl,rfl⟩
theorem Zf:aU aT.gd 198 anu:=
 jG (cx:=aT) (n:=18) (cl:=[]) au trivial Tryz.func198 λd hd=>by
  obtain⟨⟨op,a,b,c,obj,n,fn,ord,⟨⟩⟩,⟨⟩⟩:=d;exact⟨λ_=>none,cast (by kernel_rfl) (aej op a b c obj n fn ord)⟩
abbrev anv:CT:={ ps:=[.int .i64],pre:=λd=>True,res:=λd=>([],.one (.c (.v (.string (wO d.1))))) }
theorem aek(f:Int):
 let z1:=aZ.one (SV.c (SC.v (Value.string (wO f))));br (decide (f < 1) || decide (10 < f)) (rE z1 (aZ.one (SV.c (SC.v (Value.string { data:=#[]:ByteArray }))))) (iR (f - 1)/\(0<=f - 1/\f - 1 < (10:Int))/\∀(d:ByteArray),Jt[(f - 1).toNat]?=some d->rE z1 (aZ.one (SV.c (SC.v (Value.string d))))):=by
 conv=>zeta
 delta rE iR;refine ah.2 ⟨λh=>?_,λh=>?_⟩
 .simp only[wC,dH]at h;rw[show wO f=ByteArray.empty from if_neg (by omega)]
  exact⟨rfl,rfl⟩
 .simp only[l7,eX]at h;refine⟨ak.2 (by omega),by omega,λd hd=>⟨rfl,?_⟩⟩
  rw[show wO f=Jt.getD (f - 1).toNat ByteArray.empty from if_pos (by omega),List.getD,hd];rfl
theorem Zg:aU aT.gd 199 anv:=
 jG (cx:=aT) (n:=13) (cl:=[]) au trivial Tryz.func199 λd hd=>by
  obtain⟨f,⟨⟩⟩:=d;exact⟨λ_=>none,cast (by kernel_rfl) (aek f)⟩
abbrev anw:CT:={ ps:=[.int .i64],pre:=λd=>True,res:=λd=>([],.one (.c (.v (.string (wO d.1))))) }
theorem ael(f:Int):
 let z1:=aZ.one (SV.c (SC.v (Value.string (wO f))));br (decide (f=1)) (rE z1 (aZ.one (SV.c (SC.v (Value.string { data:=#[(97:UInt8),100,100]:ByteArray }))))) (br (decide (f=2)) (rE z1 (aZ.one (SV.c (SC.v (Value.string { data:=#[(115:UInt8),117,98]:ByteArray }))))) (br (decide (f=3)) (rE z1 (aZ.one (SV.c (SC.v (Value.string { data:=#[(109:UInt8),117,108]:ByteArray }))))) (br (decide (f=4)) (rE z1 (aZ.one (SV.c (SC.v (Value.string { data:=#[(97:UInt8),110,100]:ByteArray }))))) (br (decide (f=5)) (rE z1 (aZ.one (SV.c (SC.v (Value.string { data:=#[(111:UInt8),114]:ByteArray }))))) (br (decide (f=6)) (rE z1 (aZ.one (SV.c (SC.v (Value.string { data:=#[(120:UInt8),111,114]:ByteArray }))))) (br (decide (f=7)) (rE z1 (aZ.one (SV.c (SC.v (Value.string { data:=#[(101:UInt8),113]:ByteArray }))))) (br (decide (f=8)) (rE z1 (aZ.one (SV.c (SC.v (Value.string { data:=#[(110:UInt8),101]:ByteArray }))))) (br (decide (f=9)) (rE z1 (aZ.one (SV.c (SC.v (Value.string { data:=#[(108:UInt8),116]:ByteArray }))))) (br (decide (f=10)) (rE z1 (aZ.one (SV.c (SC.v (Value.string { data:=#[(108:UInt8),101]:ByteArray }))))) (rE z1 (aZ.one (SV.c (SC.v (Value.string { data:=#[]:ByteArray })))))))))))))):=by
 conv=>zeta
 delta rE
 by_cases h:1<=f/\f<=10
 .have:f=1\/f=2\/f=3\/f=4\/f=5\/f=6\/f=7\/f=8\/f=9\/f=10:=by omega
  rcases this with rfl | rfl | rfl | rfl | rfl | rfl | rfl | rfl | rfl | rfl<;>exact⟨rfl,rfl⟩
 .have e:wO f=ByteArray.empty:=if_neg h;rw[e];rw[show decide (f=1)=false from yw (by omega)]
  rw[show decide (f=2)=false from yw (by omega)]
  rw[show decide (f=3)=false from yw (by omega)]
  rw[show decide (f=4)=false from yw (by omega)]
  rw[show decide (f=5)=false from yw (by omega)]
  rw[show decide (f=6)=false from yw (by omega)]
  rw[show decide (f=7)=false from yw (by omega)]
  rw[show decide (f=8)=false from yw (by omega)]
  rw[show decide (f=9)=false from yw (by omega)]
  rw[show decide (f=10)=false from yw (by omega)]
  exact⟨rfl,rfl⟩
theorem Zh:aU aT.gd 205 anw:=
 jG (cx:=aT) (n:=24) (cl:=[]) au trivial Tryz.func205 λd hd=>by
  obtain⟨f,⟨⟩⟩:=d;exact⟨λ_=>none,cast (by kernel_rfl) (ael f)⟩
def gJ(op c:Int):Bool:=decide (1<=op) && decide (op<=22) && ((fieldsD.getD (op - 1).toNat ByteArray.empty).data.toList.any λb=>decide ((b.toNat:Int)=c))
abbrev anx:CT:={ ps:=[.int .i64,.int .u8],pre:=λd=>True,res:=λd=>([],vB (gJ d.1 d.2.1)) }
abbrev ajL(op c:Int):Nat->Option (St->jv):=λk=>match k with
 | 5=>some λs=>.inv { α:=Nat,slots:=λk=>[(6,.c (.v (.int .i64 k)))],res:=λ_=>[],inv:=λk=>k<=(XW s 5).size/\∀j,j < k->∀b,(XW s 5)[j]?=some b->¬((b.toNat:Int)=c),meas:=λk=>(XW s 5).size - k }
 | _=>none
theorem aem(op c:Int):
 let z1:=λ(x:Nat) (d:ByteArray)=>(x<=d.size/\∀(j:Nat),j < x->∀(b:UInt8),d[j]?=some b->¬(b.toNat:Int)=c);let z2:=[g0 (ay.row 9 Sh.str fieldsD)];br (decide (op < 1) || decide (22 < op)) (qB (gJ op c) false) (True/\iR (op - 1)/\(0<=op - 1/\op - 1 < (22:Int))/\(op - 1).toNat < 22/\∀(d:ByteArray),fieldsD[(op - 1).toNat]?=some d->(∃x,(z1 x d)/\(cI 0=cI (x:Int)/\True)/\sm z2)/\∀(x:Nat),(z1 x d)->br (decide ((x:Int) < (d.size:Int))) ((0<=(x:Int)/\(x:Int) < (d.size:Int))/\∀(u:UInt8),d[(x:Int).toNat]?=some u->br (decide ((u.toNat:Int)=c)) (qB (gJ op c) true) (iR ((x:Int)+(1:Int))/\∃x',(z1 x' d)/\(cI ((x:Int)+(1:Int))=cI (x':Int)/\True)/\sm z2/\d.size - x' < d.size - x)) (qB (gJ op c) false)):=by
 conv=>zeta
 delta cI g0 qB sm iR;refine ah.2 ⟨λh=>?_,λh=>?_⟩
 .simp only[wC,dH]at h;have:gJ op c=false:=by
   unfold gJ
   by_cases h1:1<=op<;>by_cases h2:op<=22<;>simp[h1,h2]
   omega
  rw[this];exact⟨rfl,rfl⟩
 .simp only[l7,eX]at h;refine⟨trivial,ak.2 (by omega),by omega,by omega,λd hd=>⟨⟨0,⟨by omega,λj hj=>by omega⟩,⟨rfl,trivial⟩,rfl⟩,λx hx=>?_⟩⟩
  have e:gJ op c=d.data.toList.any λb=>decide ((b.toNat:Int)=c):=by
   unfold gJ;rw[List.getD,hd];simp[show 1<=op by omega,show op<=22 by omega]
  have hs:d.size<=9:=(show∀d∈fieldsD,d.size<=9 by decide) d (iy hd)
  have get:∀j:Nat,d[j]?=d.data.toList[j]?:=aiY d;refine ah.2 ⟨λiQ=>⟨by simp only[dH]at iQ;omega,λu hu=>ah.2 ⟨λhc=>?_,λhc=>?_⟩⟩,λhge=>?_⟩
  .simp only[dH]at hc;have hm:u∈d.data.toList:=iy (i:=x) (by rw[<-get];simpa using hu)
   rw[e,Ku.2 ⟨u,hm,by simpa using hc⟩]
   exact⟨rfl,rfl⟩
  .simp only[eX]at hc;simp only[dH]at iQ;refine⟨ak.2 (by omega),x+1,⟨by omega,λj hj b hb=>?_⟩,⟨by simp,trivial⟩,rfl,by omega⟩
   by_cases hjx:j=x
   .subst hjx;have:some u=some b:=by rw[<-hu,<-hb];simp
    cases this;exact hc
   .exact hx.2 j (by omega) b hb
  .simp only[eX]at hge;have:gJ op c=false:=by
    rw[e,Ub];intro b hb;obtain⟨j,hj⟩:=yu hb;have hj':j < d.data.toList.length:=(A8.1 hj).1;have hsz:d.data.toList.length=d.size:=by cases d;simp[ByteArray.size]
    simpa using hx.2 j (by omega) b (by rw[get];exact hj)
   rw[this];exact⟨rfl,rfl⟩
theorem Zi:aU aT.gd 177 anx:=
 jG (cx:=aT) (n:=29) (cl:=[(206,anq)]) au ⟨Zc,trivial⟩ Tryz.func177 λd hd=>by
  obtain⟨op,c,⟨⟩⟩:=d;exact⟨ajL op c,cast (by kernel_rfl) (aem op c)⟩
def Vl(r:Int):Bool:=decide (0<=r) && decide (r < 8)
def qy(op a b c obj n fn ord:Int):Int:=
 if sF op=false then 8 else
 if(!use op 0 && a != 0 || !use op 1 && b != 0 || !use op 2 && c != 0 || !use op 3 && obj != 0 || !use op 4 && n != 0 || !use op 5 && fn != 0 || !use op 6 && ord != 0)=true then 9 else
 if(!Vl a || !Vl b || !Vl c)=true then 10 else
 if(decide (ord < 0) || decide (2 < ord))=true then 13 else
 if(use op 5 && decide (wO fn=(⟨#[]⟩:ByteArray)))=true then 8 else
 if(decide (op=1) && (decide (n < -2147483648) || decide (2147483647 < n)))=true then 2 else 0
theorem L6{op:Int}{nm:ByteArray}{us:List Bool}{u:Unit} (hb:1<=op/\op<=22) (hd:LZ[(op - 1).toNat]?=some (nm,us,u)):
 us=[use op 0,use op 1,use op 2,use op 3,use op 4,use op 5,use op 6]:=by
 have key:∀k:Fin 22,(LZ[k.1]?).map (λr=>r.2.1)=some ([0,1,2,3,4,5,6].map λj=>(ajJ.getD k.1 []).getD j false):=by decide
 have h1:=key ⟨(op - 1).toNat,by omega⟩
 simp only at h1;rw[hd]at h1;simp only[VO,A94]at h1;rw[h1];simp[use,hb.1,hb.2]
abbrev ajM:CT:={ ps:=[lJ],pre:=λd=>True,res:=λd=>([],.one (.c (.v (.int .i64 (qy d.1.1 d.1.2.1 d.1.2.2.1 d.1.2.2.2.1 d.1.2.2.2.2.1 d.1.2.2.2.2.2.1 d.1.2.2.2.2.2.2.1 d.1.2.2.2.2.2.2.2.1))))) }
abbrev ajN(op a b c obj n fn ord:Int):Nat->Option (St->jv):=λk=>match k with
 | 5=>some λ_=>.Ej 8
 | 11=>some λ_=>.Ej 4
 | _=>none
theorem aen(op a b c obj n fn ord:Int):
 let z11:=qy op a b c obj n fn ord;let z8:=qI z11 (8:Int);let z12:=[a,b,c,obj,n,fn,ord];let z2:=(0:Int)<=(0:Int)/\(0:Int) < (7:Int);let z10:=λ(nU:Bool) (dI:Int)=>!nU && !decide (dI=(0:Int));let z9:=qI z11 (9:Int);let z3:=(0:Int)<=(1:Int)/\(1:Int) < (7:Int);let z4:=(0:Int)<=(2:Int)/\(2:Int) < (7:Int);let z5:=(0:Int)<=(5:Int)/\(5:Int) < (7:Int);let z6:=(0:Int)<=(6:Int)/\(6:Int) < (7:Int);let z1:=λ(aeo:Bool) (Zj:Int)=>aeo && (decide (Zj < (0:Int)) || decide (8<=Zj));let z7:=qI z11 (10:Int);True/\br (!sF op) z8 (iR (op - 1)/\(0<=op - 1/\op - 1 < (22:Int))/\∀(d:ByteArray×((Sh.arr 7 Sh.bool).pair Sh.unit).den),LZ[(op - 1).toNat]?=some d->True/\((0:Int)<=(0:Int)/\0 < (z12.length:Int))/\∀(dI:Int),z12[0]?=some dI->z2/\0 < 7/\∀(nU:Bool),(d.snd.fst)[0]?=some nU->br (z10 nU dI) z9 (iR (1:Int)/\((0:Int)<=(1:Int)/\1 < (z12.length:Int))/\∀(d_3:Int),z12[1]?=some d_3->z3/\1 < 7/\∀(d_4:Bool),(d.snd.fst)[1]?=some d_4->br (z10 d_4 d_3) z9 (iR (2:Int)/\((0:Int)<=(2:Int)/\2 < (z12.length:Int))/\∀(d_5:Int),z12[2]?=some d_5->z4/\2 < 7/\∀(d_6:Bool),(d.snd.fst)[2]?=some d_6->br (z10 d_6 d_5) z9 (iR (3:Int)/\((0:Int)<=(3:Int)/\3 < (z12.length:Int))/\∀(d_7:Int),z12[3]?=some d_7->((0:Int)<=(3:Int)/\(3:Int) < (7:Int))/\3 < 7/\∀(d_8:Bool),(d.snd.fst)[3]?=some d_8->br (z10 d_8 d_7) z9 (iR (4:Int)/\((0:Int)<=(4:Int)/\4 < (z12.length:Int))/\∀(d_9:Int),z12[4]?=some d_9->((0:Int)<=(4:Int)/\(4:Int) < (7:Int))/\4 < 7/\∀(anB:Bool),(d.snd.fst)[4]?=some anB->br (z10 anB d_9) z9 (iR (5:Int)/\((0:Int)<=(5:Int)/\5 < (z12.length:Int))/\∀(anC:Int),z12[5]?=some anC->z5/\5 < 7/\∀(anD:Bool),(d.snd.fst)[5]?=some anD->br (z10 anD anC) z9 (iR (6:Int)/\((0:Int)<=(6:Int)/\6 < (z12.length:Int))/\∀(anE:Int),z12[6]?=some anE->z6/\6 < 7/\∀(anF:Bool),(d.snd.fst)[6]?=some anF->br (z10 anF anE) z9 (iR (7:Int)/\((0:Int)<=(0:Int)/\0 < (↑[a,b,c].length:Int))/\∀(Zj:Int),[a,b,c][0]?=some Zj->z2/\0 < 7/\∀(aeo:Bool),(d.snd.fst)[0]?=some aeo->br (z1 aeo Zj) z7 (iR (1:Int)/\((0:Int)<=(1:Int)/\1 < (↑[a,b,c].length:Int))/\∀(anG:Int),[a,b,c][1]?=some anG->z3/\1 < 7/\∀(anH:Bool),(d.snd.fst)[1]?=some anH->br (z1 anH anG) z7 (iR (2:Int)/\((0:Int)<=(2:Int)/\2 < (↑[a,b,c].length:Int))/\∀(anI:Int),[a,b,c][2]?=some anI->z4/\2 < 7/\∀(anJ:Bool),(d.snd.fst)[2]?=some anJ->br (z1 anJ anI) z7 (iR (3:Int)/\z6/\6 < 7/\∀(anK:Bool),(d.snd.fst)[6]?=some anK->br (anK && (decide (ord < 0) || decide (2 < ord))) (qI z11 (13:Int)) (z5/\5 < 7/\∀(ajO:Bool),(d.snd.fst)[5]?=some ajO->(ajO=true->True)/\br (ajO && decide (wO fn={ data:=#[]:ByteArray })) z8 (br (decide (op=1) && (decide (n < (-2147483648)) || decide (2147483647 < n))) (qI z11 (2:Int)) (qI z11 (0:Int))))))))))))))):=by
 conv=>zeta
 delta qI iR;refine⟨trivial,ah.2 ⟨λh=>?_,λh=>?_⟩⟩
 .have hk:sF op=false:=by simpa using h
  rw[show qy op a b c obj n fn ord=8 by simp[qy,hk]]
  exact⟨rfl,rfl⟩
 .have hk:sF op=true:=by simpa using h
  have hb:1<=op/\op<=22:=by simpa[sF]using hk
  refine⟨ak.2 (by omega),by omega,λd hd=>?_⟩
  obtain⟨nm,us,⟨⟩⟩:=d;have hu:=L6 hb hd;subst hu;clear hd;simp only[A99,acv,A94,forall_eq',ah,ak,wV,J9,true_and,aZ.one.injEq,SV.c.injEq,SC.v.injEq,Value.int.injEq,qy,hk,Vl];generalize use op 0=u0;generalize use op 1=u1;generalize use op 2=u2;generalize use op 3=u3;generalize use op 4=u4;generalize use op 5=u5;generalize use op 6=u6
  repeat' (first | apply And.intro | intro _)
  all_goals first | omega | decide | skip
  all_goals simp_all
  all_goals grind
theorem L8:aU aT.gd 168 ajM:=
 jG (cx:=aT) (n:=89) (cl:=[(197,anr),(198,anu),(199,anv)]) au ⟨Zd,Zf,Zg,trivial⟩ Tryz.func168 λd hd=>by
  obtain⟨⟨op,a,b,c,obj,n,fn,ord,⟨⟩⟩,⟨⟩⟩:=d;exact⟨ajN op a b c obj n fn ord,cast (by kernel_rfl) (aen op a b c obj n fn ord)⟩
theorem aep(op:Int):gJ op 65=use op 0/\gJ op 66=use op 1/\gJ op 67=use op 2/\gJ op 79=use op 3/\gJ op 78=use op 4/\gJ op 70=use op 5/\gJ op 82=use op 6:=by
 by_cases hb:1<=op/\op<=22
 .have key:∀k:Fin 22,([65,66,67,79,78,70,82].map λc:Int=>(fieldsD.getD k.1 ByteArray.empty).data.toList.any λb=>decide ((b.toNat:Int)=c))=[0,1,2,3,4,5,6].map λj=>(ajJ.getD k.1 []).getD j false:=by decide
  have h1:=key ⟨(op - 1).toNat,by omega⟩
  simp only[TT,List.map_nil,List.cons.injEq,and_true]at h1;obtain⟨h1,h2,h3,h4,h5,h6,h7⟩:=h1;simp only[gJ,use,hb.1,hb.2,decide_true,FM,h1,h2,h3,h4,h5,h6,h7,and_self]
 .have:(decide (1<=op) && decide (op<=22))=false:=by simp only[A70,eX];omega
  simp only[gJ,use,this,Bool.false_and,and_self]
abbrev anL:CT:={ ps:=[lJ],pre:=λd=>True,res:=λd=>([],.one (.c (.v (.int .i64 (qy d.1.1 d.1.2.1 d.1.2.2.1 d.1.2.2.2.1 d.1.2.2.2.2.1 d.1.2.2.2.2.2.1 d.1.2.2.2.2.2.2.1 d.1.2.2.2.2.2.2.2.1))))) }
theorem aer(op a b c obj n fn ord:Int):
 let z4:=qy op a b c obj n fn ord;let z1:=qI z4 (8:Int);let z2:=decide (0<=a) && decide (a < 8);let z3:=decide (0<=b) && decide (b < 8);br (decide (op < 1) || decide (22 < op)) z1 (True/\((!(!gJ op (65:Int) && !decide (a=0)))=true->True)/\((!(!gJ op (65:Int) && !decide (a=0) || !gJ op (66:Int) && !decide (b=0)))=true->True)/\((!(!gJ op (65:Int) && !decide (a=0) || !gJ op (66:Int) && !decide (b=0) || !gJ op (67:Int) && !decide (c=0)))=true->True)/\((!(!gJ op (65:Int) && !decide (a=0) || !gJ op (66:Int) && !decide (b=0) || !gJ op (67:Int) && !decide (c=0) || !gJ op (79:Int) && !decide (obj=0)))=true->True)/\((!(!gJ op (65:Int) && !decide (a=0) || !gJ op (66:Int) && !decide (b=0) || !gJ op (67:Int) && !decide (c=0) || !gJ op (79:Int) && !decide (obj=0) || !gJ op (78:Int) && !decide (n=0)))=true->True)/\((!(!gJ op (65:Int) && !decide (a=0) || !gJ op (66:Int) && !decide (b=0) || !gJ op (67:Int) && !decide (c=0) || !gJ op (79:Int) && !decide (obj=0) || !gJ op (78:Int) && !decide (n=0) || !gJ op (70:Int) && !decide (fn=0)))=true->True)/\br (!gJ op (65:Int) && !decide (a=0) || !gJ op (66:Int) && !decide (b=0) || !gJ op (67:Int) && !decide (c=0) || !gJ op (79:Int) && !decide (obj=0) || !gJ op (78:Int) && !decide (n=0) || !gJ op (70:Int) && !decide (fn=0) || !gJ op (82:Int) && !decide (ord=0)) (qI z4 (9:Int)) (True/\((!!z2)=true->True)/\((!(!z2 || !z3))=true->True)/\br (!z2 || !z3 || !(decide (0<=c) && decide (c < 8))) (qI z4 (10:Int)) (br (decide (ord < 0) || decide (2 < ord)) (qI z4 (13:Int)) (True/\(gJ op 70=true->True)/\br (gJ op (70:Int) && decide (wO fn={ data:=#[]:ByteArray })) z1 (br (decide (op=1) && (decide (n < (-2147483648)) || decide (2147483647 < n))) (qI z4 (2:Int)) (qI z4 (0:Int))))))):=by
 conv=>zeta
 delta qI;obtain⟨e0,e1,e2,e3,e4,e5,e6⟩:=aep op;rw[e0,e1,e2,e3,e4,e5,e6];simp only[ah,ak,true_and,aZ.one.injEq,SV.c.injEq,SC.v.injEq,Value.int.injEq,qy,sF,Vl];generalize use op 0=u0;generalize use op 1=u1;generalize use op 2=u2;generalize use op 3=u3;generalize use op 4=u4;generalize use op 5=u5;generalize use op 6=u6
 repeat' (first | apply And.intro | intro _)
 all_goals first | trivial | omega | skip
 all_goals first | grind | (simp_all<;>grind)
theorem Zk:aU aT.gd 176 anL:=
 jG (cx:=aT) (n:=132) (cl:=[(177,anx),(204,ant),(205,anw)]) au ⟨Zi,Ze,Zh,trivial⟩ Tryz.func176 λd hd=>by
  obtain⟨⟨op,a,b,c,obj,n,fn,ord,⟨⟩⟩,⟨⟩⟩:=d;exact⟨λ_=>none,cast (by kernel_rfl) (aer op a b c obj n fn ord)⟩
def dP(l:List Int) (x:Int):Bool:=l.any λy=>decide (y=x)
def zn(l:List Int) (x:Int):Nat:=(l.takeWhile λy=>decide (y < x)).length
def vZ(l:List Int) (x:Int):List Int:=l.take (zn l x)++[x]++l.drop (zn l x)
def bD(l:List Int):List Int:=l.foldl (λo x=>if dP o x then o else vZ o x) []
theorem EM(l:List Int) (x:Int):(vZ l x).length=l.length+1:=by
 simp only[vZ,kC,kX,yj,wV,J9];omega
theorem Hf(l:List Int):(bD l).length<=l.length:=by
 have:∀(l o:List Int),(l.foldl (λo x=>if dP o x then o else vZ o x) o).length<=o.length+l.length:=by
  intro l
  induction l with
  | nil=>intro o;simp
  | cons x l ih=>
    intro o;simp only[Ii,wV];refine pq (ih _) ?_;split
    .omega
    .rw[EM];omega
 have h:=this l [];rw[J9,Dk]at h;exact h
theorem EN{k:Nat}{d:Int} (hd:l[k]?=some d):bD (l.take (k+1))=if dP (bD (l.take k)) d then bD (l.take k) else vZ (bD (l.take k)) d:=by
 rw[NQ,hd];unfold bD;rw[acC,List.foldl_append];rfl
def SS(l:List Int):Prop:=l.Pairwise (· < ·)
theorem Pq:∀{l m:List Int},SS l->SS m->(∀x,x∈l↔x∈m)->l=m
 | [],[],_,_,_=>rfl
 | [],y :: m,_,_,h=>by have:=(h y).2 (by simp);simp at this
 | x :: l,[],_,_,h=>by have:=(h x).1 (by simp);simp at this
 | x :: l,y :: m,hl,hm,h=>by
   obtain⟨h1,h2⟩:=A89.1 hl;obtain⟨h3,h4⟩:=A89.1 hm;have hxy:x=y:=by
    have a:=(h x).1 (by simp)
    have b:=(h y).2 (by simp)
    rcases ni.1 a with a | a
    .exact a
    .rcases ni.1 b with b | b
     .exact b.symm
     .have:=h3 x a;have:=h1 y b;omega
   subst hxy
   congr 1
   refine Pq h2 h4 λz=>?_
   have hz:=h z;simp only[ni]at hz;constructor
   .intro hh;rcases hz.1 (.inr hh) with rfl | h5
    .have:=h1 z hh;omega
    .exact h5
   .intro hh;rcases hz.2 (.inr hh) with rfl | h5
    .have:=h3 z hh;omega
    .exact h5
theorem oO{x:Int}:dP l x=true↔x∈l:=by
 unfold dP;rw[Ku];constructor
 .rintro⟨y,h1,h2⟩;simp only[dH]at h2;subst h2;exact h1
 .intro h;exact⟨x,h,by simp⟩
theorem oP{x:Int}:dP l x=false↔x∉l:=by
 rw[<-oO];simp
theorem ajP(l:List Int) (x:Int):l.take (zn l x)=l.takeWhile λy=>decide (y < x):=by
 unfold zn
 induction l with
 | nil=>rfl
 | cons a l ih=>
   simp only[TY];split
   .simp[ih]
   .simp
theorem ajQ(l:List Int) (x:Int):l.drop (zn l x)=l.dropWhile λy=>decide (y < x):=by
 unfold zn
 induction l with
 | nil=>rfl
 | cons a l ih=>
   simp only[TY,List.dropWhile_cons];split
   .simp[ih]
   .simp
theorem Rw:∀{l:List Int}{x:Int},SS l->∀y∈l.dropWhile (λy=>decide (y < x)),x<=y
 | [],_,_,y,h=>by simp at h
 | a :: l,x,hl,y,h=>by
   obtain⟨h1,h2⟩:=A89.1 hl;simp only[List.dropWhile_cons]at h;split at h
   .exact Rw h2 y h
   .rename_i hn;simp only[dH]at hn;rcases ni.1 h with rfl | h
    .omega
    .have:=h1 y h;omega
theorem aho:∀{l:List Int}{x:Int},∀y∈l.takeWhile (λy=>decide (y < x)),y < x
 | [],_,y,h=>by simp at h
 | a :: l,x,y,h=>by
   simp only[TY]at h;split at h
   .rename_i hn;simp only[dH]at hn;rcases ni.1 h with rfl | h
    .exact hn
    .exact aho y h
   .simp at h
theorem ajR{x:Int} (hl:SS l) (hx:x∉l):SS (vZ l x):=by
 unfold vZ SS;rw[ajP,ajQ];have hp:SS (l.takeWhile (λy=>decide (y < x))++l.dropWhile (λy=>decide (y < x))):=by rw[A92];exact hl
 obtain⟨p1,p2,p3⟩:=TW.1 hp;rw[zX,TW];refine⟨p1,?_,?_⟩
 .rw[ahR,A89];refine⟨λy hy=>?_,p2⟩
  have h1:=Rw hl y hy;have h2:y≠x:=λe=>hx (by rw[<-e];rw[<-A92 (p:=λy=>decide (y < x)) (l:=l)];exact ahS _ hy)
  omega
 .intro a ha b hb;rw[ahR]at hb;rcases ni.1 hb with rfl | hb
  .exact aho a ha
  .exact p3 a ha b hb
theorem CO{x y:Int}:y∈vZ l x↔y=x\/y∈l:=by
 unfold vZ;rw[FI,FI,A82]
 conv=>rhs;rw[<-VL (zn l x) l,FI]
 constructor
 .rintro((h | h) | h)
  .exact .inr (.inl h)
  .exact .inl h
  .exact .inr (.inr h)
 .rintro(h | h | h)
  .exact .inl (.inr h)
  .exact .inl (.inl h)
  .exact .inr h
theorem CP:∀(l o:List Int),SS o->SS (l.foldl (λo x=>if dP o x then o else vZ o x) o)/\∀y,y∈l.foldl (λo x=>if dP o x then o else vZ o x) o↔y∈o\/y∈l
 | [],o,h=>⟨h,λy=>by simp⟩
 | x :: l,o,h=>by
   simp only[Ii];cases hx:dP o x with
   | true=>
     simp only[if_true];obtain⟨h1,h2⟩:=CP l o h;refine⟨h1,λy=>?_⟩
     rw[h2,ni];have:=oO.1 hx;constructor
     .rintro(h | h)
      .exact .inl h
      .exact .inr (.inr h)
     .rintro(h | rfl | h)
      .exact .inl h
      .exact .inl this
      .exact .inr h
   | false=>
     simp only[acB,NZ];obtain⟨h1,h2⟩:=CP l (vZ o x) (ajR h (oP.1 hx));refine⟨h1,λy=>?_⟩
     rw[h2,ni,CO];constructor
     .rintro((h | h) | h)
      .exact .inr (.inl h)
      .exact .inl h
      .exact .inr (.inr h)
     .rintro(h | h | h)
      .exact .inl (.inr h)
      .exact .inl (.inl h)
      .exact .inr h
theorem zo(l:List Int):SS (bD l):=(CP l [] List.Pairwise.nil).1
theorem zq{x:Int}:x∈bD l↔x∈l:=by
 have:=(CP l [] List.Pairwise.nil).2 x;simpa[bD]using this
theorem L9{d:Array Int} (hs:∀i j,i < j->j < d.size->d[i]!<=d[j]!):∀m,m<=d.size ->
 SS (Lib.compactUpTo d m)/\(∀x,x∈Lib.compactUpTo d m↔∃j < m,d[j]! = x)
 | 0,_=>⟨by simp[Lib.compactUpTo,SS],λx=>by simp[Lib.compactUpTo]⟩
 | m+1,hm=>by
   obtain⟨h1,h2⟩:=L9 hs m (by omega)
   rw[Lib.compactUpTo_succ];have le:∀x∈Lib.compactUpTo d m,∃j < m,d[j]! = x:=λx hx=>(h2 x).1 hx
   cases hk:Lib.keeps d m with
   | true=>
     simp only[if_true];constructor
     .refine TW.2 ⟨h1,by simp,λa ha b hb=>?_⟩
      simp only[A82]at hb;subst hb;obtain⟨j,hj,rfl⟩:=le a ha;have h3:m≠0:=by omega
      simp only[Lib.keeps,dH,h3,false_or]at hk;have h4:=hs (m - 1) m (by omega) (by omega)
      by_cases hj2:j=m - 1
      .subst hj2;omega
      .have:=hs j (m - 1) (by omega) (by omega);omega
     .intro x;rw[FI,h2,A82];constructor
      .rintro(⟨j,hj,e⟩ | e)
       .exact⟨j,by omega,e⟩
       .exact⟨m,by omega,e.symm⟩
      .rintro⟨j,hj,e⟩
       by_cases hj2:j=m
       .subst hj2;exact .inr e.symm
       .exact .inl ⟨j,by omega,e⟩
   | false=>
     simp only[acB,NZ,Qo];refine⟨h1,λx=>?_⟩
     rw[h2];have h3:m≠0/\d[m]! = d[m - 1]!:=by simpa[Lib.keeps]using hk
     constructor
     .rintro⟨j,hj,e⟩;exact⟨j,by omega,e⟩
     .rintro⟨j,hj,e⟩
      by_cases hj2:j=m
      .subst hj2;exact⟨j - 1,by omega,by rw[<-h3.2];exact e⟩
      .exact⟨j,by omega,e⟩
theorem Mc(l:List Int):(jD l).Pairwise (·<=·):=by
 have h:(jD l).Pairwise (λx y=>decide (x<=y)=true):=List.pairwise_mergeSort (λa b c h1 h2=>by simp at *;omega) (λa b=>by simp;omega) l
 exact h.imp λh=>by simpa using h
theorem Zl{x:Int}:x∈jD l↔x∈l:=(List.mergeSort_perm l _).mem_iff
theorem Md(l:List Int):SS (Lib.compact (jD l))/\∀x,x∈Lib.compact (jD l)↔x∈l:=by
 have hs:∀i j,i < j->j < (jD l).toArray.size->(jD l).toArray[i]!<=(jD l).toArray[j]!:=by
  intro i j hij hj;have hj':j < (jD l).length:=by simpa using hj
  have:=ahO.1 (Mc l) i j (by omega) hj' hij
  rw[getElem!_pos _ i (by simp;omega),getElem!_pos _ j (by simpa using hj)]
  simpa using this
 obtain⟨h1,h2⟩:=L9 hs (jD l).length (by simp)
 refine⟨h1,λx=>?_⟩
 show x∈Lib.compactUpTo (jD l).toArray (jD l).length↔_;rw[h2,<-Zl,List.mem_iff_getElem];constructor
 .rintro⟨j,hj,e⟩;exact⟨j,hj,by rw[getElem!_pos _ j (by simpa using hj)]at e;simpa using e⟩
 .rintro⟨j,hj,e⟩;exact⟨j,hj,by rw[getElem!_pos _ j (by simpa using hj)];simpa using e⟩
theorem aes(l:List Int):Lib.compact (jD l)=bD l:=
 Pq (Md l).1 (zo l) λx=>by rw[(Md l).2,zq]
end Go.Proofs.YtjhenjhcbcalpaaGreatDoor
namespace Go.Proofs
open Go.Shelf
def Tryz.lays189_ren:Go.Shelf.Ren:=⟨fun | 189=>200 | 125=>213 | 257=>212 | 128=>225 | 129=>226 | 294=>216 | 295=>217 | 296=>218 | 297=>219 | 298=>220 | 299=>221 | 216=>222 | 300=>223 | 301=>224 | 328=>227 | 329=>228 | 330=>229 | 331=>230 | 332=>231 | 215=>232 | 343=>233 | n=>n,fun | 28=>31 | 3=>3 | 46=>217 | 0=>0 | 51=>167 | 53=>230 | 4=>4 | 183=>222 | 182=>221 | 131=>95 | 5=>5 | 9=>9 | 218=>231 | 222=>235 | 228=>237 | 229=>165 | n=>n,fun | n=>n⟩
theorem Tryz.lays189:Go.Proofs.Lays.n189 Tryz.prog Tryz.lays189_ren:={
 mixed:=by kernel_rfl
 f125:=Tryz.func213.trans (rJ some (by kernel_rfl))
 f128:=Tryz.func225.trans (rJ some (by kernel_rfl))
 f129:=Tryz.func226.trans (rJ some (by kernel_rfl))
 f189:=Tryz.func200.trans (rJ some (by kernel_rfl))
 f215:=Tryz.func232.trans (rJ some (by kernel_rfl))
 f216:=Tryz.func222.trans (rJ some (by kernel_rfl))
 f257:=Tryz.func212.trans (rJ some (by kernel_rfl))
 f294:=Tryz.func216.trans (rJ some (by kernel_rfl))
 f295:=Tryz.func217.trans (rJ some (by kernel_rfl))
 f296:=Tryz.func218.trans (rJ some (by kernel_rfl))
 f297:=Tryz.func219.trans (rJ some (by kernel_rfl))
 f298:=Tryz.func220.trans (rJ some (by kernel_rfl))
 f299:=Tryz.func221.trans (rJ some (by kernel_rfl))
 f300:=Tryz.func223.trans (rJ some (by kernel_rfl))
 f301:=Tryz.func224.trans (rJ some (by kernel_rfl))
 f328:=Tryz.func227.trans (rJ some (by kernel_rfl))
 f329:=Tryz.func228.trans (rJ some (by kernel_rfl))
 f330:=Tryz.func229.trans (rJ some (by kernel_rfl))
 f331:=Tryz.func230.trans (rJ some (by kernel_rfl))
 f332:=Tryz.func231.trans (rJ some (by kernel_rfl))
 f343:=Tryz.func233.trans (rJ some (by kernel_rfl))
 t0:=Tryz.underlying0
 a0:=Tryz.isAgg0
 z0:=Tryz.sizeOf0
 v0:=Tryz.zeroValue0
 t3:=Tryz.underlying3
 a3:=Tryz.isAgg3
 z3:=Tryz.sizeOf3
 v3:=Tryz.zeroValue3
 t4:=Tryz.underlying4
 a4:=Tryz.isAgg4
 z4:=Tryz.sizeOf4
 v4:=Tryz.zeroValue4
 t5:=Tryz.underlying5
 a5:=Tryz.isAgg5
 z5:=Tryz.sizeOf5
 v5:=Tryz.zeroValue5
 t9:=Tryz.underlying9
 a9:=Tryz.isAgg9
 z9:=Tryz.sizeOf9
 v9:=Tryz.zeroValue9
 t28:=Tryz.underlying31
 a28:=Tryz.isAgg31
 z28:=Tryz.sizeOf31
 v28:=Tryz.zeroValue31
 t46:=Tryz.underlying217
 a46:=Tryz.isAgg217
 z46:=Tryz.sizeOf217
 v46:=Tryz.zeroValue217
 t51:=Tryz.underlying167
 a51:=Tryz.isAgg167
 z51:=Tryz.sizeOf167
 v51:=Tryz.zeroValue167
 t53:=Tryz.underlying230
 a53:=Tryz.isAgg230
 z53:=Tryz.sizeOf230
 v53:=Tryz.zeroValue230
 t131:=Tryz.underlying95
 a131:=Tryz.isAgg95
 z131:=Tryz.sizeOf95
 v131:=Tryz.zeroValue95
 t182:=Tryz.underlying221
 a182:=Tryz.isAgg221
 z182:=Tryz.sizeOf221
 v182:=Tryz.zeroValue221
 t183:=Tryz.underlying222
 a183:=Tryz.isAgg222
 z183:=Tryz.sizeOf222
 v183:=Tryz.zeroValue222
 t218:=Tryz.underlying231
 a218:=Tryz.isAgg231
 z218:=Tryz.sizeOf231
 v218:=Tryz.zeroValue231
 t222:=Tryz.underlying235
 a222:=Tryz.isAgg235
 z222:=Tryz.sizeOf235
 v222:=Tryz.zeroValue235
 t228:=Tryz.underlying237
 a228:=Tryz.isAgg237
 z228:=Tryz.sizeOf237
 v228:=Tryz.zeroValue237
 t229:=Tryz.underlying165
 a229:=Tryz.isAgg165
 z229:=Tryz.sizeOf165
 v229:=Tryz.zeroValue165 }
open Go.Sort Go.RowKit in
theorem Tryz.slices_Sort_int(blk off cap:Nat) (zs:List Int) (w:World) (hH:Holds (Value.int .i64) w blk off zs.toArray) (hblk:blk < w.heap.size) (hsz:zs.length < 4611686018427387904):
 Calls Tryz.prog 200 #[.slice (some ⟨blk,off,none⟩) zs.length cap] w λe w'=>
  e=.returned (.tuple #[])/\∃n os,w'=grow (putRow (Value.int .i64) (Sort.ahead w n) blk off (zs.mergeSort λx y=>decide (x<=y)).toArray) os:=Any.slices_Sort_int Tryz.lays189 blk off cap zs w hH hblk hsz
def Tryz.laysNm220_ren:Go.Shelf.Ren:=⟨fun | 20=>201 | n=>n,fun | 22=>31 | 3=>3 | 4=>4 | 0=>0 | n=>n,fun | n=>n⟩
theorem Tryz.laysNm220:Go.Proofs.Lays2.n20 Tryz.prog Tryz.laysNm220_ren:={
 mixed:=by kernel_rfl
 f20:=Tryz.func201.trans (rJ some (by kernel_rfl))
 t0:=Tryz.underlying0
 a0:=Tryz.isAgg0
 z0:=Tryz.sizeOf0
 v0:=Tryz.zeroValue0
 t3:=Tryz.underlying3
 a3:=Tryz.isAgg3
 z3:=Tryz.sizeOf3
 v3:=Tryz.zeroValue3
 t4:=Tryz.underlying4
 a4:=Tryz.isAgg4
 z4:=Tryz.sizeOf4
 v4:=Tryz.zeroValue4
 t22:=Tryz.underlying31
 a22:=Tryz.isAgg31
 z22:=Tryz.sizeOf31
 v22:=Tryz.zeroValue31
 i3:=by kernel_rfl }
open Go.RowKit Go.Lib Go.Sort in
theorem Tryz.slices_Compact_int(blk off cap:Nat) (zs:List Int) (w:World) (hH:Holds (Value.int .i64) w blk off zs.toArray) (hsz:zs.length<=9223372036854775807) (hcap:zs.length<=cap):
 Calls Tryz.prog 201 #[.slice (some ⟨blk,off,none⟩) zs.length cap] w λe w'=>e=.returned (.slice (some ⟨blk,off,none⟩) (Lib.compact zs).length cap)/\∃q,w'=putRow (Value.int .i64) (Sort.ahead w q) blk off (Lib.compact zs++List.replicate (zs.length - (Lib.compact zs).length) 0).toArray:=Any.slices_Compact_int Tryz.laysNm220 blk off cap zs w hH hsz hcap
open Go.RowKit Go.Lib Go.Sort in
theorem Tryz.slices_Compact_int_empty(a:Option Addr) (cap:Nat) (w:World):
 Calls Tryz.prog 201 #[.slice a 0 cap] w λe w'=>e=.returned (.slice a 0 cap)/\w'=w:=Any.slices_Compact_int_empty Tryz.laysNm220 a cap w
end Go.Proofs
namespace Go.Proofs.YtjhenjhcbcalpaaGreatDoor
open Go Go.jf
variable {k:Nat}
def Mt(l:List Int):Prop:=l=[]
theorem Mt.nil:Mt []:=rfl
abbrev ahp:CT:={ ps:=[.int .u64],pre:=λd=>d.1=0,res:=λd=>([],.one (.c (.v (.int .i64 0)))) }
abbrev ajS  : Nat->Option (St->jv):=λ_=>none
theorem aeu :
 let z1:=[(8:UInt8),(8:UInt8),(8:UInt8),(8:UInt8),(8:UInt8),(8:UInt8),(8:UInt8),(8:UInt8),(8:UInt8),(8:UInt8),(8:UInt8),(8:UInt8),(8:UInt8),(8:UInt8),(8:UInt8),(8:UInt8),(8:UInt8),(8:UInt8),(8:UInt8),(8:UInt8),(8:UInt8),(8:UInt8),(8:UInt8),(8:UInt8),(8:UInt8),(8:UInt8),(8:UInt8),(8:UInt8),(8:UInt8),(8:UInt8),(8:UInt8),(8:UInt8),(8:UInt8),(8:UInt8),(8:UInt8),(8:UInt8),(8:UInt8),(8:UInt8),(8:UInt8),(8:UInt8),(8:UInt8),(8:UInt8),(8:UInt8),(8:UInt8),(8:UInt8),(8:UInt8),(8:UInt8),(8:UInt8),(8:UInt8),(8:UInt8),(8:UInt8),(8:UInt8),(8:UInt8),(8:UInt8),(8:UInt8),(8:UInt8),(8:UInt8),(8:UInt8),(8:UInt8),(8:UInt8),(8:UInt8),(8:UInt8),(8:UInt8),(8:UInt8)];((0:Int)<=(0:Int)/\(0:Int) < (256:Int))/\∀(u:UInt8),{ data:=(([(0:UInt8),(1:UInt8),(2:UInt8),(2:UInt8),(3:UInt8),(3:UInt8),(3:UInt8),(3:UInt8),(4:UInt8),(4:UInt8),(4:UInt8),(4:UInt8),(4:UInt8),(4:UInt8),(4:UInt8),(4:UInt8),(5:UInt8),(5:UInt8),(5:UInt8),(5:UInt8),(5:UInt8),(5:UInt8),(5:UInt8),(5:UInt8),(5:UInt8),(5:UInt8),(5:UInt8),(5:UInt8),(5:UInt8),(5:UInt8),(5:UInt8),(5:UInt8),(6:UInt8),(6:UInt8),(6:UInt8),(6:UInt8),(6:UInt8),(6:UInt8),(6:UInt8),(6:UInt8),(6:UInt8),(6:UInt8),(6:UInt8),(6:UInt8),(6:UInt8),(6:UInt8),(6:UInt8),(6:UInt8),(6:UInt8),(6:UInt8),(6:UInt8),(6:UInt8),(6:UInt8),(6:UInt8),(6:UInt8),(6:UInt8),(6:UInt8),(6:UInt8),(6:UInt8),(6:UInt8),(6:UInt8),(6:UInt8),(6:UInt8),(6:UInt8)].append [(7:UInt8),(7:UInt8),(7:UInt8),(7:UInt8),(7:UInt8),(7:UInt8),(7:UInt8),(7:UInt8),(7:UInt8),(7:UInt8),(7:UInt8),(7:UInt8),(7:UInt8),(7:UInt8),(7:UInt8),(7:UInt8),(7:UInt8),(7:UInt8),(7:UInt8),(7:UInt8),(7:UInt8),(7:UInt8),(7:UInt8),(7:UInt8),(7:UInt8),(7:UInt8),(7:UInt8),(7:UInt8),(7:UInt8),(7:UInt8),(7:UInt8),(7:UInt8),(7:UInt8),(7:UInt8),(7:UInt8),(7:UInt8),(7:UInt8),(7:UInt8),(7:UInt8),(7:UInt8),(7:UInt8),(7:UInt8),(7:UInt8),(7:UInt8),(7:UInt8),(7:UInt8),(7:UInt8),(7:UInt8),(7:UInt8),(7:UInt8),(7:UInt8),(7:UInt8),(7:UInt8),(7:UInt8),(7:UInt8),(7:UInt8),(7:UInt8),(7:UInt8),(7:UInt8),(7:UInt8),(7:UInt8),(7:UInt8),(7:UInt8),(7:UInt8)]).append (z1.append z1)).toArray:ByteArray }[0]?=some u->iR (u.toNat:Int)/\iR (0+(u.toNat:Int))/\qI 0 (0+(u.toNat:Int)):=by
 conv=>zeta
 delta qI iR;refine⟨by omega,λu hu=>?_⟩
 have hu:some (0:UInt8)=some u:=hu;cases hu;exact⟨ak.2 (by decide),ak.2 (by decide),rfl,rfl⟩
theorem Zm:aU aT.gd 226 ahp:=
 jG (cx:=aT) (n:=25) (cl:=[]) au trivial Tryz.func226 λd hd=>by
  obtain⟨x,⟨⟩⟩:=d;simp only at hd;subst hd;exact⟨ajS ,cast (by kernel_rfl) (aeu )⟩
abbrev ahq:CT:={ ps:=[.int .u64],pre:=λd=>d.1=0,res:=λd=>([],.one (.c (.v (.int .i64 0)))) }
abbrev ajT  : Nat->Option (St->jv):=λ_=>none
theorem aev :
 (0:(Sh.int IntKind.u64).den)=(0:(Sh.int IntKind.u64).den)/\qI 0 (0:Int):=by
 delta qI;exact⟨rfl,rfl,rfl⟩
theorem Zn:aU aT.gd 213 ahq:=
 jG (cx:=aT) (n:=8) (cl:=[(226,ahp)]) au ⟨Zm,trivial⟩ Tryz.func213 λd hd=>by
  obtain⟨x,⟨⟩⟩:=d;simp only at hd;subst hd;exact⟨ajT ,cast (by kernel_rfl) (aev )⟩
abbrev ahr:CT:={ ps:=[.sl (.int .i64),.int .i64,.int .i64],pre:=λd=>Mt d.1/\d.2.1=0/\d.2.2.1=0,res:=λd=>([],.gV []) }
abbrev ajU  : Nat->Option (St->jv):=λ_=>some λ_=>.Ej 1
theorem aew :
 iR (1:Int)/\rT [] []:=by
 delta rT iR;exact⟨ak.2 (by omega),rfl,rfl⟩
theorem Zo:aU aT.gd 216 ahr:=
 jG (cx:=aT) (n:=49) (cl:=[]) au trivial Tryz.func216 λd hd=>by
  obtain⟨l,a,b,⟨⟩⟩:=d;obtain⟨h1,h2,h3⟩:=hd;simp only at h1 h2 h3;have h1:l=[]:=h1;subst h1;subst h2;subst h3;exact⟨ajU ,cast (by kernel_rfl) (aew )⟩
abbrev ahs:CT:={ ps:=[.sl (.int .i64),.int .i64,.int .i64,.int .i64],pre:=λd=>Mt d.1/\d.2.1=0/\d.2.2.1=0,res:=λd=>([],.gV []) }
abbrev ajV(m:Int):Nat->Option (St->jv):=λ_=>some λ_=>.Ej 1
theorem aex(m:Int):
 iR (0:Int)/\(Mt []/\(0:Int)=(0:Int)/\(0:Int)=(0:Int))/\rT [] []:=by
 delta rT iR;exact⟨ak.2 (by omega),⟨rfl,rfl,rfl⟩,rfl,rfl⟩
theorem Zp:aU aT.gd 212 ahs:=
 jG (cx:=aT) (n:=134) (cl:=[(216,ahr)]) au ⟨Zo,trivial⟩ Tryz.func212 λd hd=>by
  obtain⟨l,a,b,m,⟨⟩⟩:=d;obtain⟨h1,h2,h3⟩:=hd;simp only at h1 h2 h3;have h1:l=[]:=h1;subst h1;subst h2;subst h3;exact⟨ajV m,cast (by kernel_rfl) (aex m)⟩
abbrev anM:CT:={ ps:=[.sl (.int .i64)],pre:=λd=>Mt d.1,res:=λd=>([],.gV []) }
abbrev ajW  : Nat->Option (St->jv):=λ_=>none
theorem aey :
 (0:Int)=(0:(Sh.int IntKind.u64).den)/\(Mt []/\(0:Int)=(0:Int)/\(0:Int)=(0:Int))/\rT [] []:=by
 delta rT;exact⟨rfl,⟨rfl,rfl,rfl⟩,rfl,rfl⟩
theorem Me:aU aT.gd 200 anM:=
 jG (cx:=aT) (n:=11) (cl:=[(212,ahs),(213,ahq)]) au ⟨Zp,Zn,trivial⟩ Tryz.func200 λd hd=>by
  obtain⟨l,⟨⟩⟩:=d;have hd:l=[]:=hd;subst hd;exact⟨ajW ,cast (by kernel_rfl) (aey )⟩
abbrev vU:CT:={ ps:=[.sl (.int .i64)],pre:=λd=>d.1.length<=1000000,res:=λd=>([.row 3 (.int .i64) (d.1)],.one (.c (.row 0))) }
abbrev Zq:List (Nat×IP):=[]
abbrev je:=Sh.int IntKind.i64
theorem ajX(l:List Int) (aF:vU.pre (l,())):
 let z1:=[ay.row (3:TypeId) je l];∀(b:Bool),(b=true->l=[])->br b (z1=[ay.row (3:TypeId) je []]/\aZ.one rC=aZ.one rC) (nR ((0:Nat)+List.length (l)) (8:Nat)/\z1=[ay.row (3:TypeId) je ([]++l)]/\aZ.one rC=aZ.one rC):=by
 conv=>zeta
 delta je rC;have hp:l.length<=1000000:=aF;intro b hb;refine ah.2 ⟨λh=>by rw[hb h];exact⟨rfl,rfl⟩,λh=>⟨?_,by simp,rfl⟩⟩
 rw[eH];omega
theorem CQ:aU aT.gd 58 vU:=
 Pg (il:=Zq) (rc:=[.row 3 (.int .i64)]) (cx:=aT) (n:=8) (cl:=[]) (by kernel_rfl) au trivial trivial Tryz.func58 (by kernel_rfl) (by kernel_rfl) rfl (by kernel_rfl) (by kernel_rfl) λd hd=>by
  obtain⟨l,⟨⟩⟩:=d;exact⟨λ_=>none,cast (by kernel_rfl) (ajX l hd)⟩
def Gh(l:List Int) (x:Int):Int:=match l.findIdx? (λy=>decide (y=x)) with | some k=>(k:Int) | none=>-1
theorem Pv{l:List Int}{x:Int} (hd:l[k]?=some x) (hn:∀j < k,∀y,l[j]?=some y->y≠x):Gh l x=k:=by
 have iQ:k < l.length:=(A8.1 hd).1;have:l.findIdx? (λy=>decide (y=x))=some k:=by
  rw[A50];refine⟨iQ,by have:=(A8.1 hd).2;simp[this],λj hj=>?_⟩
  have:=hn j hj l[j] (lN (by omega))
  simpa using this
 simp[Gh,this]
theorem Vm{l:List Int}{x:Int} (hn:∀(j:Nat) y,l[j]?=some y->y≠x):Gh l x = -1:=by
 have:l.findIdx? (λy=>decide (y=x))=none:=by
  rw[A73];intro y hy;obtain⟨j,hj⟩:=yu hy;simpa using hn j y hj
 simp[Gh,this]
abbrev Zr:CT:={ ps:=[.sl (.int .i64),.int .i64],pre:=λd=>d.1.length<=4611686018427387904,res:=λd=>([],.one (.c (.v (.int .i64 (Gh d.1 d.2.1))))) }
abbrev ajY(l:List Int) (x:Int):Nat->Option (St->jv):=λ_=>some λ_=>.inv { α:=Nat,slots:=λk=>[(8,.c (.v (.int .i64 k)))],res:=λ_=>[],inv:=λk=>k<=l.length/\∀j < k,∀y,l[j]?=some y->y≠x,meas:=λk=>l.length - k }
abbrev dJ:=Go.jf.Gd×Go.jf.ay
theorem aez(l:List Int) (x:Int) (aF:Zr.pre (l,x,())):
 let z1:=λ(x_1:Nat)=>(x_1<=l.length/\∀(j:Nat),j < x_1->∀(y:Int),l[j]?=some y->y≠x);(∃x_1,(z1 x_1)/\(cI 0=cI (x_1:Int)/\True)/\([]:List dJ)=[])/\∀(x_1:Nat),(z1 x_1)->br (decide ((x_1:Int) < (l.length:Int))) ((0<=(x_1:Int)/\(x_1:Int) < (l.length:Int))/\∀(d:Int),l[(x_1:Int).toNat]?=some d->br (decide (x=d)) (qI (Gh l x) (x_1:Int)) (iR ((x_1:Int)+(1:Int))/\∃x',(x'<=l.length/\∀(j:Nat),j < x'->∀(y:Int),l[j]?=some y->y≠x)/\(cI ((x_1:Int)+(1:Int))=cI (x':Int)/\True)/\([]:List dJ)=[]/\l.length - x' < l.length - x_1)) (qI (Gh l x) (-1:Int)):=by
 conv=>zeta
 delta dJ cI qI iR;refine⟨⟨0,⟨by omega,λj hj=>by omega⟩,⟨rfl,trivial⟩,rfl⟩,λk hk=>ah.2 ⟨λh=>?_,λh=>?_⟩⟩
 .simp only[dH]at h;have hp:l.length<=4611686018427387904:=aF;refine⟨by omega,λd hd=>?_⟩
  have hd:l[k]?=some d:=by simpa using hd
  refine ah.2 ⟨λhe=>?_,λhe=>⟨ak.2 (by omega),k+1,⟨by omega,λj hj y hy=>?_⟩,⟨rfl,trivial⟩,rfl,by omega⟩⟩
  .have he:x=d:=by simpa using he
   rw[Pv (by rw[hd,he]) hk.2];exact⟨rfl,rfl⟩
  .by_cases gU:j=k
   .subst gU;rw[hd]at hy;cases hy;intro hh;simp[hh]at he
   .exact hk.2 j (by omega) y hy
 .simp only[eX]at h;rw[Vm (λj y hy=>hk.2 j (by have:=(A8.1 hy).1;omega) y hy)];exact⟨rfl,rfl⟩
theorem Zt:aU aT.gd 162 Zr:=
 jG (cx:=aT) (n:=19) (cl:=[]) au trivial Tryz.func162 λd hd=>by
  obtain⟨l,x,⟨⟩⟩:=d;exact⟨ajY l x,cast (by kernel_rfl) (aez l x hd)⟩
theorem Zu(l:List Int) (x:Int):dP l x=decide (0<=Gh l x):=by
 have h:=List.findIdx?_isSome (xs:=l) (p:=λy=>decide (y=x))
 unfold dP Gh;rw[<-h];cases l.findIdx? (λy=>decide (y=x)) with
 | none=>rfl
 | some k=>simp
abbrev EO:CT:={ ps:=[.sl (.int .i64),.int .i64],pre:=λd=>d.1.length<=4611686018427387904,res:=λd=>([],vB (dP d.1 d.2.1)) }
theorem ajZ(l:List Int) (x:Int) (aF:EO.pre (l,x,())):
 l.length<=4611686018427387904/\qB (dP l x) (decide (0<=Gh l x)):=by
 delta qB;refine⟨aF,rfl,?_⟩;rw[Zu]
theorem zu:aU aT.gd 98 EO:=
 jG (cx:=aT) (n:=9) (cl:=[(162,Zr)]) au ⟨Zt,trivial⟩ Tryz.func98 λd hd=>by
  obtain⟨l,x,⟨⟩⟩:=d;exact⟨λ_=>none,cast (by kernel_rfl) (ajZ l x hd)⟩
theorem Vo(l:List Int):(jD l).length=l.length:=by simp[jD]
theorem Zv(l:List Int):(bD l).length<=l.length:=Hf l
theorem aeA:Rq Tryz.prog aT.gd 200 EK:=⟨Vg Me.1 rfl (λblk cap zs w hH hb hz=>Tryz.slices_Sort_int blk 0 cap zs w hH hb hz),Me.2⟩
theorem aeB:Rq Tryz.prog aT.gd 201 AL:=⟨Js (λa cap w=>Tryz.slices_Compact_int_empty a cap w) (λblk cap zs w hH h1 h2=>Tryz.slices_Compact_int blk 0 cap zs w hH h1 h2),⟨_,Tryz.func201,rfl,by kernel_rfl⟩⟩
abbrev zx:CT:={ ps:=[.sl (.int .i64)],pre:=λd=>d.1.length<=1000000,res:=λd=>([.row 3 (.int .i64) (bD d.1)],.one (.c (.row 0))) }
abbrev anN:List (Nat×IP):=[(200,EK),(201,AL)]
theorem aeC(l:List Int) (aF:zx.pre (l,())):
 l.length<=(1000000:Nat)/\List.length (l) < (4611686018427387904:Nat)/\List.length (jD (l)) < (4611686018427387904:Nat)/\[ay.row (3:TypeId) je (bD l)]=[ay.row (3:TypeId) je (Lib.compact (jD (l)))]/\aZ.one rC=aZ.one rC:=by
 delta je rC;have hp:l.length<=1000000:=aF;exact⟨hp,by omega,by rw[Vo];omega,by rw[aes],rfl⟩
theorem MB:aU aT.gd 169 zx:=
 Pg (il:=anN) (rc:=[]) (cx:=aT) (n:=10) (cl:=[(58,vU)]) (by kernel_rfl) au ⟨CQ,trivial⟩ ⟨aeA,aeB,trivial⟩ Tryz.func169 (by kernel_rfl) (by kernel_rfl) rfl (by kernel_rfl) (by kernel_rfl) λd hd=>by
  obtain⟨l,⟨⟩⟩:=d;exact⟨λ_=>none,cast (by kernel_rfl) (aeC l hd)⟩
abbrev Hg:CT:={ ps:=[.sl (.int .i64),.int .i64],pre:=λd=>d.1.length<=1000000,res:=λd=>([],vB (dP d.1 d.2.1)) }
theorem aeD(l:List Int) (x:Int) (aF:Hg.pre (l,x,())):
 l.length<=4611686018427387904/\qB (dP l x) (dP l x):=by
 delta qB;have hp:l.length<=1000000:=aF;exact⟨by omega,rfl,rfl⟩
theorem zy:aU aT.gd 165 Hg:=
 jG (cx:=aT) (n:=8) (cl:=[(98,EO)]) au ⟨zu,trivial⟩ Tryz.func165 λd hd=>by
  obtain⟨l,x,⟨⟩⟩:=d;exact⟨λ_=>none,cast (by kernel_rfl) (aeD l x hd)⟩
abbrev MC:CT:={ ps:=[.sl (.int .i64),.int .i64],pre:=λd=>d.1.length<=999999,res:=λd=>([.row 3 (.int .i64) (bD (d.1++[d.2.1]))],.one (.c (.row 0))) }
theorem aeE(l:List Int) (x:Int) (aF:MC.pre (l,x,())):
 let z1:=[ay.row (3:TypeId) je (bD (l++[x]))];l.length<=(1000000:Nat)/\nR (List.length (l)+List.length ([x])) (8:Nat)/\List.length (l++[x])<=(1000000:Nat)/\z1=z1/\aZ.one rC=aZ.one rC:=by
 conv=>zeta
 delta je rC;have hp:l.length<=999999:=aF;refine⟨by omega,?_,?_,rfl,rfl⟩
 .rw[eH];simp;omega
 .simp;omega
theorem EP:aU aT.gd 111 MC:=
 jG (cx:=aT) (n:=11) (cl:=[(58,vU),(169,zx)]) au ⟨CQ,MB,trivial⟩ Tryz.func111 λd hd=>by
  obtain⟨l,x,⟨⟩⟩:=d;exact⟨λ_=>none,cast (by kernel_rfl) (aeE l x hd)⟩
abbrev ER:Sh:=.pair .str (.pair (.int .i64) .unit)
abbrev BA:Sh:=.pair .str (.pair (.sl lJ) .unit)
abbrev lU:Sh:=.pair (.int .i64) (.pair (.int .i64) .unit)
abbrev o9:Sh:=.pair (.sl ER) (.pair (.sl .str) (.pair (.sl .str) (.pair (.sl BA) (.pair (.sl lU) .unit))))
abbrev ID:=Int×Int×Int×Int×Int×Int×Int×Int×Unit
abbrev VD:=ByteArray×Int×Unit
abbrev FD:=ByteArray×List ID×Unit
abbrev SD:=Int×Int×Unit
abbrev PD:=List VD×List ByteArray×List ByteArray×List FD×List SD×Unit
def qj(f:Nat) (x:FD):List (bU [lU,lJ]):=x.2.1.zipIdx.map λp=>(((f:Int),(p.2:Int),()),p.1,())
def jM:Nat->List FD->List (bU [lU,lJ])
 | _,[]=>[]
 | n,x :: l=>qj n x++jM (n+1) l
def dN(fs:List FD):List (bU [lU,lJ]):=jM 0 fs
theorem Hl(f:Nat) (x:FD):(qj f x).length=x.2.1.length:=by simp[qj]
theorem Ho{f:Nat}{x:FD}{j:Nat}{e:ID} (h:x.2.1[j]?=some e):(qj f x)[j]?=some (((f:Int),(j:Int),()),e,()):=by
 unfold qj;rw[Dj,acA,h];simp
theorem sG:∀(l m:List FD) (n:Nat),jM n (l++m)=jM n l++jM (n+l.length) m
 | [],m,n=>by simp[jM]
 | x :: l,m,n=>by
   simp only[List.cons_append,jM,sG l m,zX,wV];rw[show n+1+l.length=n+(l.length+1) by omega]
theorem Vp{fs:List FD}{d:FD} (h:fs[k]?=some d):dN fs=dN (fs.take k)++(qj k d++jM (k+1) (fs.drop (k+1))):=by
 have hk:k < fs.length:=(A8.1 h).1;have e:fs=fs.take k++(d :: fs.drop (k+1)):=by
  have h2:=List.drop_eq_getElem_cons hk;rw[(A8.1 h).2]at h2;rw[<-h2,VL]
 unfold dN
 conv=>lhs;rw[e]
 rw[sG];rw[show 0+(fs.take k).length=k by simp;omega]
 rfl
theorem Px{fs:List FD}{d:FD} (h:fs[k]?=some d):dN (fs.take (k+1))=dN (fs.take k)++qj k d:=by
 have hk:k < fs.length:=(A8.1 h).1;rw[NQ,h];unfold dN;rw[sG];rw[show 0+(fs.take k).length=k by simp;omega]
 simp[jM]
theorem Vq{fs:List FD}{j:Nat}{d:FD}{e:ID} (h:fs[k]?=some d) (h2:d.2.1[j]?=some e):(dN fs)[(dN (fs.take k)).length+j]?=some (((k:Int),(j:Int),()),e,()):=by
 have hj:j < d.2.1.length:=(A8.1 h2).1;rw[Vp h,NM (by omega),VJ (by rw[Hl];omega)]
 rw[show(dN (fs.take k)).length+j - (dN (fs.take k)).length=j by omega]
 exact Ho h2
noncomputable abbrev aj0:MK:={ ss:=[o9],f:=λd=>.seq Tryz.prog [lU,lJ] (dN d.1.2.2.2.1),pre:=λd=>d.1.2.2.2.1.length<=1000000/\∀x∈d.1.2.2.2.1,x.2.1.length<=1000000 }
abbrev anO:List (Nat×CT):=[]
abbrev aj1(vs:List VD) (ms cs:List ByteArray) (fs:List FD) (ts:List SD):Nat->Option (St->jv):=λk=>match k with
 | 1=>some λ_=>.gen { α:=Nat,slots:=λk=>[(10,.c (.v (.int .i64 k)))],res:=λ_=>[],inv:=λk=>k<=fs.length,meas:=λk=>fs.length - k } λk=>(dN (fs.take k)).length
 | 4=>some λs=>.gen { α:=Nat,slots:=λk=>[(18,.c (.v (.int .i64 k)))],res:=λ_=>[],inv:=λk=>k<=(slotL lJ s 16).length,meas:=λk=>(slotL lJ s 16).length - k } λk=>(dN (fs.take (Ri s 10).toNat)).length+k
 | _=>none
abbrev hlN:List (Nat×Nat×CT):=[]
abbrev mlN:List (Nat×MK):=[]
theorem aeG(vs:List VD) (ms cs:List ByteArray) (fs:List FD) (ts:List SD) (l:Nat) (aF:aj0.pre ((vs,ms,cs,fs,ts,()),())):
 let z2:=λ(x:Nat)=>dN (List.take x fs);let z1:=λ(x:Nat)=>dN (List.take (x:Int).toNat fs);let z3:=λ(x_1:Nat)=>(x_1:Int)+(1:Int);(∃x,x<=fs.length/\(z2 x).length=0/\(cI 0=cI (x:Int)/\True)/\([]:List dJ)=[])/\∀(x:Nat),x<=fs.length->br (decide ((x:Int) < (fs.length:Int))) ((0<=(x:Int)/\(x:Int) < (fs.length:Int))/\∀(d:ByteArray×(lJ.sl.pair Sh.unit).den),fs[(x:Int).toNat]?=some d->(∃x_1,x_1<=List.length (d.snd.fst)/\(z1 x).length+x_1=(z2 x).length/\(cI 0=cI (x_1:Int)/\True)/\sm [g0 (ay.blk 77 [SC.v (Value.string d.fst),SC.sl lJ d.snd.fst])])/\∀(x_1:Nat),x_1<=List.length (d.snd.fst)->br (decide ((x_1:Int) < ((List.length d.snd.fst):Int))) ((0<=(x_1:Int)/\(x_1:Int) < ((List.length d.snd.fst):Int))/\∀(dI:ID),d.snd.fst[(x_1:Int).toNat]?=some dI->l=l/\(dN fs)[(z1 x).length+x_1]?=some (((x:Int),(x_1:Int),()),dI,())/\(iR (z3 x_1)/\∃x',x'<=List.length (d.snd.fst)/\(z1 x).length+x'=(z1 x).length+x_1+1/\(cI (z3 x_1)=cI (x':Int)/\True)/\sm [g0 (ay.blk 77 [SC.v (Value.string d.fst),SC.sl lJ d.snd.fst])]/\List.length (d.snd.fst) - x' < List.length (d.snd.fst) - x_1)/\True) (iR (z3 x)/\∃x',x'<=fs.length/\(z2 x').length=(z1 x).length+x_1/\(cI (z3 x)=cI (x':Int)/\True)/\([]:List dJ)=[]/\fs.length - x' < fs.length - x)) ((z2 x).length=aQ (dN fs)):=by
 conv=>zeta
 delta dJ cI g0 sm I6 iR;have hp1:fs.length<=1000000:=aF.1;have hp2:∀x∈fs,x.2.1.length<=1000000:=aF.2;refine⟨⟨0,by omega,by simp[dN,jM],⟨rfl,trivial⟩,rfl⟩,λx hx=>ah.2 ⟨λh=>?_,λh=>?_⟩⟩
 .simp only[dH]at h;have hN:(x:Int).toNat=x:=by omega
  rw[hN];refine⟨by omega,λd hd=>?_⟩
  have hd:fs[x]?=some d:=by simpa using hd
  have hst:=Px hd;refine⟨⟨0,Ko _,by omega,⟨rfl,trivial⟩,rfl⟩,λy hy=>ah.2 ⟨λh2=>?_,λh2=>?_⟩⟩
  .simp only[dH]at h2;refine⟨by omega,λe he=>?_⟩
   have he:d.2.1[y]?=some e:=by simpa using he
   refine⟨rfl,Vq hd he,⟨?_,y+1,?_,?_,⟨rfl,trivial⟩,rfl,?_⟩,trivial⟩
   .have:=hp2 d (iy hd);exact ak.2 (by omega)
   .omega
   .omega
   .omega
  .simp only[eX]at h2;refine⟨ak.2 (by omega),x+1,by omega,?_,⟨rfl,trivial⟩,rfl,by omega⟩
   have hq:=hp2 d (iy hd);have hy:y=d.2.1.length:=by omega
   rw[hst,kC,Hl,hy]
 .simp only[eX]at h;rw[wB (by omega),bF]
theorem aeH:Ye Tryz.prog aT.gd 210 aj0:=by
 intro d h lb hd hg cap;obtain⟨⟨vs,ms,cs,fs,ts,⟨⟩⟩,⟨⟩⟩:=d;exact Yj (E:=Yf Tryz.prog aT 32 anO Zq hlN mlN [] [] λ_=>none) (Rt (by kernel_rfl) au trivial trivial trivial trivial) rfl Tryz.func210 (body:=jL Tryz.f210) (by kernel_rfl) (by kernel_rfl) rfl rfl rfl rfl ⟨aj1 vs ms cs fs ts,λl=>cast (by kernel_rfl) (aeG vs ms cs fs ts l hd)⟩ hg cap
noncomputable abbrev Ju:CT:={ ps:=[o9],pre:=λd=>d.1.2.2.2.1.length<=1000000/\∀x∈d.1.2.2.2.1,x.2.1.length<=1000000,res:=λd=>([],.one (.c (.abs (.seq Tryz.prog [lU,lJ] (dN d.1.2.2.2.1))))) }
noncomputable abbrev anP:List (Nat×MK):=[(210,aj0)]
theorem aeI(vs:List VD) (ms cs:List ByteArray) (fs:List FD) (ts:List SD) (aF:Ju.pre ((vs,ms,cs,fs,ts,()),())):
 let z1:=aZ.one (SV.c (SC.abs (FN.seq Tryz.prog [I6.pair (I6.pair Sh.unit),I6.pair (I6.pair (I6.pair (I6.pair (I6.pair (I6.pair lU)))))] (dN fs))));(fs.length<=1000000/\∀(x:ByteArray×(lJ.sl.pair Sh.unit).den),x∈fs->List.length x.snd.fst<=1000000)/\rE z1 z1:=by
 conv=>zeta
 delta rE I6;exact⟨aF,rfl,rfl⟩
theorem Zw:aU aT.gd 189 Ju:=
 (nT (cx:=aT) (n:=4) (cl:=[]) (il:=Zq) (hl:=hlN) (ml:=anP) (rc:=[]) (lits:=[]) (suf:=[]) (by kernel_rfl) au trivial trivial trivial ⟨aeH,trivial⟩ Tryz.func189 (by kernel_rfl) (by kernel_rfl) rfl (by kernel_rfl) (by kernel_rfl) (by simp) λd hd=>by
  obtain⟨⟨vs,ms,cs,fs,ts,⟨⟩⟩,⟨⟩⟩:=d;exact⟨λ_=>none,cast (by kernel_rfl) (aeI vs ms cs fs ts hd)⟩).met
def sH(c:Int):Bool:=decide (97<=c/\c<=122\/65<=c/\c<=90)
abbrev aht:CT:={ ps:=[.int .u8],pre:=λd=>True,res:=λd=>([],vB (sH d.1)) }
theorem aeJ(c:Int):
 qB (sH c) (decide (97<=c) && decide (c<=122) || decide (65<=c) && decide (c<=90)):=by
 delta qB;refine⟨rfl,?_⟩;rw[show sH c=(decide (97<=c) && decide (c<=122) || decide (65<=c) && decide (c<=90)) by unfold sH;rw[FK];simp]
theorem Zx:aU aT.gd 214 aht:=
 jG (cx:=aT) (n:=17) (cl:=[]) au trivial Tryz.func214 λd hd=>by
  obtain⟨c,⟨⟩⟩:=d;exact⟨λ_=>none,cast (by kernel_rfl) (aeJ c)⟩
def bW(n:Int):Bool:=decide (-2147483648<=n/\n<=2147483647)
abbrev Zy:CT:={ ps:=[.int .i64],pre:=λd=>True,res:=λd=>([],vB (bW d.1)) }
theorem aeK(n:Int):
 qB (bW n) (decide ((-2147483648)<=n) && decide (n<=2147483647)):=by
 delta qB;refine⟨rfl,?_⟩;rw[show bW n=(decide (-2147483648<=n) && decide (n<=2147483647)) by unfold bW;rw[FK];simp]
theorem MF:aU aT.gd 186 Zy:=
 jG (cx:=aT) (n:=9) (cl:=[]) au trivial Tryz.func186 λd hd=>by
  obtain⟨n,⟨⟩⟩:=d;exact⟨λ_=>none,cast (by kernel_rfl) (aeK n)⟩
abbrev Py:CT:={ ps:=[.int .i64],pre:=λd=>True,res:=λd=>([],vB (bW d.1)) }
theorem aeL(n:Int):
 qB (bW n) (decide ((-2147483648)<=n) && decide (n<=2147483647)):=by
 delta qB;refine⟨rfl,?_⟩;rw[show bW n=(decide (-2147483648<=n) && decide (n<=2147483647)) by unfold bW;rw[FK];simp]
theorem MG:aU aT.gd 134 Py:=
 jG (cx:=aT) (n:=9) (cl:=[]) au trivial Tryz.func134 λd hd=>by
  obtain⟨n,⟨⟩⟩:=d;exact⟨λ_=>none,cast (by kernel_rfl) (aeL n)⟩
def oQ(vs:List VD) (ms cs:List ByteArray) (fs:List FD) (op:Int):Int:=
 if op=8\/op=9\/op=10\/op=11\/op=12\/op=14 then vs.length else if op=15\/op=16\/op=17 then ms.length else if op=18\/op=19\/op=20 then cs.length else if op=21 then fs.length else -1
abbrev ahu:CT:={ ps:=[o9,.int .i64],pre:=λd=>True,res:=λd=>([],.one (.c (.v (.int .i64 (oQ d.1.1 d.1.2.1 d.1.2.2.1 d.1.2.2.2.1 d.2.1))))) }
theorem aeM(vs:List VD) (ms cs:List ByteArray) (fs:List FD) (ts:List SD) (op:Int):
 let z7:=oQ vs ms cs fs op;let z4:=qI z7 (vs.length:Int);let z5:=qI z7 (ms.length:Int);let z6:=qI z7 (cs.length:Int);let z3:=br (decide (op=21)) (qI z7 (fs.length:Int)) (qI z7 (-1:Int));let z2:=br (decide (op=18)) (br (decide (op=18)) z6 z3) (br (decide (op=19)) (br (decide (op=19)) z6 z3) (br (decide (op=20)) z6 z3));let z1:=br (decide (op=15)) (br (decide (op=15)) z5 z2) (br (decide (op=16)) (br (decide (op=16)) z5 z2) (br (decide (op=17)) z5 z2));br (decide (op=8)) (br (decide (op=8)) z4 z1) (br (decide (op=9)) (br (decide (op=9)) z4 z1) (br (decide (op=10)) (br (decide (op=10)) z4 z1) (br (decide (op=11)) (br (decide (op=11)) z4 z1) (br (decide (op=12)) (br (decide (op=12)) z4 z1) (br (decide (op=14)) z4 z1))))):=by
 conv=>zeta
 delta qI;unfold oQ;simp only[ah]
 repeat' (first | (refine And.intro ?_ ?_) | (intro _))
 all_goals first | rfl | (simp_all;done) | (simp_all;omega) | grind
theorem Zz:aU aT.gd 211 ahu:=
 jG (cx:=aT) (n:=35) (cl:=[]) au trivial Tryz.func211 λd hd=>by
  obtain⟨⟨vs,ms,cs,fs,ts,⟨⟩⟩,op,⟨⟩⟩:=d;exact⟨λ_=>none,cast (by kernel_rfl) (aeM vs ms cs fs ts op)⟩
def iq(vs:List VD):List ByteArray:=vs.map λv=>v.1
def jo(fs:List FD):List ByteArray:=fs.map λf=>f.1
abbrev Pz:CT:={ ps:=[o9],pre:=λd=>d.1.1.length<=1000000,res:=λd=>([.row 9 .str (iq d.1.1)],.one (.c (.row 0))) }
abbrev aj2(vs:List VD) (ms cs:List ByteArray) (fs:List FD) (ts:List SD):Nat->Option (St->jv):=λk=>match k with
 | 3=>some λ_=>.inv { α:=Nat,slots:=λk=>[(9,.c (.v (.int .i64 k))),(3,.c (.row 1))],res:=λk=>[(1,.row 9 .str (iq (vs.take k)))],inv:=λk=>k<=(vs).length,meas:=λk=>(vs).length - k,nil:=[(3,9,.str)] }
 | _=>none
theorem aeN(vs:List VD) (ms cs:List ByteArray) (fs:List FD) (ts:List SD) (aF:Pz.pre ((vs,ms,cs,fs,ts,()),())):
 let z2:=[SC.sl ER vs,SC.sl Sh.str ms,SC.sl Sh.str cs,SC.sl BA fs,SC.sl lU ts];let z1:=λ(x:Nat)=>[g0 (ay.blk 27 z2),g0 (ay.row 9 Sh.str (iq (List.take x vs)))];(∃x,x<=vs.length/\(cI 0=cI (x:Int)/\SV.c (SC.row (Nat.succ 0))=SV.c (SC.row 1)/\True)/\[g0 (ay.blk 27 z2),g0 (ay.row 9 Sh.str [])]=(z1 x))/\∀(x:Nat),x<=vs.length->br (decide ((x:Int) < (vs.length:Int))) ((0<=(x:Int)/\(x:Int) < (vs.length:Int))/\∀(d:ByteArray×(I6.pair Sh.unit).den),vs[(x:Int).toNat]?=some d->nR (List.length (iq (List.take x vs))+List.length ([d.fst])) 16/\iR ((x:Int)+(1:Int))/\∃x',x'<=vs.length/\(cI ((x:Int)+(1:Int))=cI (x':Int)/\SV.c (SC.row 1)=SV.c (SC.row 1)/\True)/\[g0 (ay.blk 27 z2),g0 (ay.row 9 Sh.str (iq (List.take x vs)++[d.fst]))]=(z1 x')/\vs.length - x' < vs.length - x) ([ay.row 9 Sh.str (iq vs)]=[ay.row 9 Sh.str (iq (List.take x vs))]/\aZ.one (SV.c (SC.row 0))=aZ.one (SV.c (SC.row 0))):=by
 conv=>zeta
 delta cI g0 I6 iR;have hp:(vs).length<=1000000:=aF;refine⟨⟨0,by omega,⟨rfl,rfl,trivial⟩,rfl⟩,λk hk=>ah.2 ⟨λh=>?_,λh=>?_⟩⟩
 .simp only[dH]at h;refine⟨by omega,λd hd=>?_⟩
  have hd:(vs)[k]?=some d:=by simpa using hd
  have e:iq ((vs).take (k+1))=iq ((vs).take k)++[d.1]:=by
   unfold iq;rw[NQ,hd];simp
  refine⟨?_,ak.2 (by omega),k+1,by omega,⟨rfl,rfl,trivial⟩,?_,by omega⟩
  .have:(iq ((vs).take k)).length<=1000000:=by simp[iq];omega
   exact eH.2 (by simp only[wV,J9];omega)
  .rw[e]
 .simp only[eX]at h;rw[wB (by omega)];exact⟨rfl,rfl⟩
theorem ZA:aU aT.gd 183 Pz:=
 jG (cx:=aT) (n:=20) (cl:=[]) au trivial Tryz.func183 λd hd=>by
  obtain⟨⟨vs,ms,cs,fs,ts,⟨⟩⟩,⟨⟩⟩:=d;exact⟨aj2 vs ms cs fs ts,cast (by kernel_rfl) (aeN vs ms cs fs ts hd)⟩
abbrev PE:CT:={ ps:=[o9],pre:=λd=>d.1.2.2.2.1.length<=1000000,res:=λd=>([.row 9 .str (jo d.1.2.2.2.1)],.one (.c (.row 0))) }
abbrev aj3(vs:List VD) (ms cs:List ByteArray) (fs:List FD) (ts:List SD):Nat->Option (St->jv):=λk=>match k with
 | 3=>some λ_=>.inv { α:=Nat,slots:=λk=>[(9,.c (.v (.int .i64 k))),(3,.c (.row 1))],res:=λk=>[(1,.row 9 .str (jo (fs.take k)))],inv:=λk=>k<=(fs).length,meas:=λk=>(fs).length - k,nil:=[(3,9,.str)] }
 | _=>none
theorem aeO(vs:List VD) (ms cs:List ByteArray) (fs:List FD) (ts:List SD) (aF:PE.pre ((vs,ms,cs,fs,ts,()),())):
 let z2:=[SC.sl ER vs,SC.sl Sh.str ms,SC.sl Sh.str cs,SC.sl BA fs,SC.sl lU ts];let z1:=λ(x:Nat)=>[g0 (ay.blk 27 z2),g0 (ay.row 9 Sh.str (jo (List.take x fs)))];(∃x,x<=fs.length/\(cI 0=cI (x:Int)/\SV.c (SC.row (Nat.succ 0))=SV.c (SC.row 1)/\True)/\[g0 (ay.blk 27 z2),g0 (ay.row 9 Sh.str [])]=(z1 x))/\∀(x:Nat),x<=fs.length->br (decide ((x:Int) < (fs.length:Int))) ((0<=(x:Int)/\(x:Int) < (fs.length:Int))/\∀(d:ByteArray×(lJ.sl.pair Sh.unit).den),fs[(x:Int).toNat]?=some d->nR (List.length (jo (List.take x fs))+List.length ([d.fst])) 16/\iR ((x:Int)+(1:Int))/\∃x',x'<=fs.length/\(cI ((x:Int)+(1:Int))=cI (x':Int)/\SV.c (SC.row 1)=SV.c (SC.row 1)/\True)/\[g0 (ay.blk 27 z2),g0 (ay.row 9 Sh.str (jo (List.take x fs)++[d.fst]))]=(z1 x')/\fs.length - x' < fs.length - x) ([ay.row 9 Sh.str (jo fs)]=[ay.row 9 Sh.str (jo (List.take x fs))]/\aZ.one (SV.c (SC.row 0))=aZ.one (SV.c (SC.row 0))):=by
 conv=>zeta
 delta cI g0 I6 iR;have hp:(fs).length<=1000000:=aF;refine⟨⟨0,by omega,⟨rfl,rfl,trivial⟩,rfl⟩,λk hk=>ah.2 ⟨λh=>?_,λh=>?_⟩⟩
 .simp only[dH]at h;refine⟨by omega,λd hd=>?_⟩
  have hd:(fs)[k]?=some d:=by simpa using hd
  have e:jo ((fs).take (k+1))=jo ((fs).take k)++[d.1]:=by
   unfold jo;rw[NQ,hd];simp
  refine⟨?_,ak.2 (by omega),k+1,by omega,⟨rfl,rfl,trivial⟩,?_,by omega⟩
  .have:(jo ((fs).take k)).length<=1000000:=by simp[jo];omega
   exact eH.2 (by simp only[wV,J9];omega)
  .rw[e]
 .simp only[eX]at h;rw[wB (by omega)];exact⟨rfl,rfl⟩
theorem ZB:aU aT.gd 185 PE:=
 jG (cx:=aT) (n:=20) (cl:=[]) au trivial Tryz.func185 λd hd=>by
  obtain⟨⟨vs,ms,cs,fs,ts,⟨⟩⟩,⟨⟩⟩:=d;exact⟨aj3 vs ms cs fs ts,cast (by kernel_rfl) (aeO vs ms cs fs ts hd)⟩
def Gi(l:List ByteArray) (x:ByteArray):Int:=match l.findIdx? (λy=>decide (y=x)) with | some k=>(k:Int) | none=>-1
theorem PG{l:List ByteArray}{x:ByteArray} (hd:l[k]?=some x) (hn:∀j < k,∀y,l[j]?=some y->y≠x):Gi l x=k:=by
 have iQ:k < l.length:=(A8.1 hd).1;have:l.findIdx? (λy=>decide (y=x))=some k:=by
  rw[A50];refine⟨iQ,by have:=(A8.1 hd).2;simp[this],λj hj=>?_⟩
  have:=hn j hj l[j] (lN (by omega))
  simpa using this
 simp[Gi,this]
theorem Vr{l:List ByteArray}{x:ByteArray} (hn:∀(j:Nat) y,l[j]?=some y->y≠x):Gi l x = -1:=by
 have:l.findIdx? (λy=>decide (y=x))=none:=by
  rw[A73];intro y hy;obtain⟨j,hj⟩:=yu hy;simpa using hn j y hj
 simp[Gi,this]
abbrev PI:CT:={ ps:=[.sl .str,.str],pre:=λd=>d.1.length<=1000000,res:=λd=>([],.one (.c (.v (.int .i64 (Gi d.1 d.2.1))))) }
abbrev aj6(l:List ByteArray) (x:ByteArray):Nat->Option (St->jv):=λk=>match k with
 | 2=>some λ_=>.inv { α:=Nat,slots:=λk=>[(8,.c (.v (.int .i64 k)))],res:=λk=>[],inv:=λk=>k<=(l).length/\∀j < k,∀y,l[j]?=some y->y≠x,meas:=λk=>(l).length - k }
 | _=>none
theorem aeP(l:List ByteArray) (x:ByteArray) (aF:PI.pre (l,x,())):
 let z1:=λ(x_1:Nat)=>(x_1<=l.length/\∀(j:Nat),j < x_1->∀(y:ByteArray),l[j]?=some y->y≠x);(∃x_1,(z1 x_1)/\(cI 0=cI (x_1:Int)/\True)/\([]:List dJ)=[])/\∀(x_1:Nat),(z1 x_1)->br (decide ((x_1:Int) < (l.length:Int))) ((0<=(x_1:Int)/\(x_1:Int) < (l.length:Int))/\∀(d:ByteArray),l[(x_1:Int).toNat]?=some d->br (decide (x=d)) (qI (Gi l x) (x_1:Int)) (iR ((x_1:Int)+(1:Int))/\∃x',(x'<=l.length/\∀(j:Nat),j < x'->∀(y:ByteArray),l[j]?=some y->y≠x)/\(cI ((x_1:Int)+(1:Int))=cI (x':Int)/\True)/\([]:List dJ)=[]/\l.length - x' < l.length - x_1)) (qI (Gi l x) (-1:Int)):=by
 conv=>zeta
 delta dJ cI qI iR;refine⟨⟨0,⟨by omega,λj hj=>by omega⟩,⟨rfl,trivial⟩,rfl⟩,λk hk=>ah.2 ⟨λh=>?_,λh=>?_⟩⟩
 .simp only[dH]at h;have hp:l.length<=1000000:=aF;refine⟨by omega,λd hd=>?_⟩
  have hd:l[k]?=some d:=by simpa using hd
  refine ah.2 ⟨λhe=>?_,λhe=>⟨ak.2 (by omega),k+1,⟨by omega,λj hj y hy=>?_⟩,⟨rfl,trivial⟩,rfl,by omega⟩⟩
  .have he:x=d:=by simpa using he
   rw[PG (by rw[hd,he]) hk.2];exact⟨rfl,rfl⟩
  .by_cases gU:j=k
   .subst gU;rw[hd]at hy;cases hy;intro hh;simp[hh]at he
   .exact hk.2 j (by omega) y hy
 .simp only[eX]at h;rw[Vr (λj y hy=>hk.2 j (by have:=(A8.1 hy).1;omega) y hy)];exact⟨rfl,rfl⟩
theorem ZC:aU aT.gd 215 PI:=
 jG (cx:=aT) (n:=19) (cl:=[]) au trivial Tryz.func215 λd hd=>by
  obtain⟨l,x,⟨⟩⟩:=d;exact⟨aj6 l x,cast (by kernel_rfl) (aeP l x hd)⟩
def uf(l:List ByteArray) (x:ByteArray):Bool:=l.any λy=>decide (y=x)
theorem ZE(l:List ByteArray) (x:ByteArray):uf l x=decide (0<=Gi l x):=by
 have h:=List.findIdx?_isSome (xs:=l) (p:=λy=>decide (y=x))
 unfold uf Gi;rw[<-h];cases l.findIdx? (λy=>decide (y=x)) with
 | none=>rfl
 | some k=>simp
abbrev PK:CT:={ ps:=[.sl .str,.str],pre:=λd=>d.1.length<=1000000,res:=λd=>([],vB (uf d.1 d.2.1)) }
theorem aeQ(l:List ByteArray) (x:ByteArray) (aF:PK.pre (l,x,())):
 l.length<=1000000/\qB (uf l x) (decide (0<=Gi l x)):=by
 delta qB;refine⟨aF,rfl,?_⟩;rw[ZE]
theorem ZF:aU aT.gd 209 PK:=
 jG (cx:=aT) (n:=9) (cl:=[(215,PI)]) au ⟨ZC,trivial⟩ Tryz.func209 λd hd=>by
  obtain⟨l,x,⟨⟩⟩:=d;exact⟨λ_=>none,cast (by kernel_rfl) (aeQ l x hd)⟩
end Go.Proofs.YtjhenjhcbcalpaaGreatDoor
