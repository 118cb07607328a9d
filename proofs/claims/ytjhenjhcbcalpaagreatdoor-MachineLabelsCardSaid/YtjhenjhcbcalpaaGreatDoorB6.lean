/- Part 6 of the proof. Conditions: the rows'. -/
import Derived.Test.YtjhenjhcbcalpaaGreatDoorB5
import Derived.Test.YtjhenjhcbcalpaaGreatDoorProg
import Derived.Shelf.Small.Bits
import Derived.Shelf.Strconv.Itoa0
import Derived.Shelf.Sort.Plain
import Derived.Shelf.Slices.Turned
import Derived.Shelf.Slices.Equal
import Derived.Ground.Names2Prog
import Derived.Shelf.Slices.Clone
import Derived.Shelf.Slices.CompactI
import Derived.Shelf.Slices.SearchI
import Derived.Shelf.Slices.Cells
import Derived.Shelf.Slices.In.SortNone
import Derived.Shelf.Slices.Empties2
import Derived.Ground.SlgnProg
import Derived.Shelf.SlicesE.Clone
set_option linter.unusedSimpArgs false
set_option linter.unusedVariables false
set_option maxRecDepth 1000000
set_option maxHeartbeats 8000000
namespace Go.Proofs.YtjhenjhcbcalpaaGreatDoor
open Go Go.jl
abbrev aT:=Go.jl.Met Tryz.prog
variable {l:List Int}
abbrev ti3:TI:={ desc:=.int .i64,size:=1,bytes:=8,zero:=[.int .i64 0],iJ:=some (.int .i64) }
theorem aiP:aN Tryz.prog 3 ti3:=aN.of_eq (by kernel_rfl) (by kernel_rfl) rfl rfl (aJ (i:=ti3) (s0:=(.int .i64)) rfl rfl rfl rfl)
abbrev ti4:TI:={ desc:=.bool,size:=1,bytes:=1,zero:=[.bool false],iJ:=some .bool }
theorem aiQ:aN Tryz.prog 4 ti4:=aN.of_eq (by kernel_rfl) (by kernel_rfl) rfl rfl (aJ (i:=ti4) (s0:=.bool) rfl rfl rfl rfl)
abbrev ti5:TI:={ desc:=.int .u8,size:=1,bytes:=1,zero:=[.int .u8 0],iJ:=some (.int .u8) }
theorem aiR:aN Tryz.prog 5 ti5:=aN.of_eq (by kernel_rfl) (by kernel_rfl) rfl rfl (aJ (i:=ti5) (s0:=(.int .u8)) rfl rfl rfl rfl)
abbrev ti9:TI:={ desc:=.string,size:=1,bytes:=16,zero:=[.string ⟨#[]⟩],iJ:=some .str }
theorem aiS:aN Tryz.prog 9 ti9:=aN.of_eq (by kernel_rfl) (by kernel_rfl) rfl rfl (aJ (i:=ti9) (s0:=.str) rfl rfl rfl rfl)
abbrev aiT:TI:={ desc:=.int .i32,size:=1,bytes:=4,zero:=[.int .i32 0],iJ:=some (.int .i32) }
theorem adt:aN Tryz.prog 21 aiT:=aN.of_eq (by kernel_rfl) (by kernel_rfl) rfl rfl (aJ (i:=aiT) (s0:=(.int .i32)) rfl rfl rfl rfl)
abbrev aiU:TI:={ desc:=.slice 118,size:=1,bytes:=24,zero:=[.slice none 0 0],iJ:=some (.sl (.pair .str (.pair (.int .i64) .unit))) }
theorem adu:aN Tryz.prog 22 aiU:=aN.of_eq (by kernel_rfl) (by kernel_rfl) rfl rfl (aJ (i:=aiU) (s0:=(.sl (.pair .str (.pair (.int .i64) .unit)))) rfl rfl rfl rfl)
abbrev aiV:TI:={ desc:=.slice 9,size:=1,bytes:=24,zero:=[.slice none 0 0],iJ:=some (.sl .str) }
theorem adv:aN Tryz.prog 23 aiV:=aN.of_eq (by kernel_rfl) (by kernel_rfl) rfl rfl (aJ (i:=aiV) (s0:=(.sl .str)) rfl rfl rfl rfl)
abbrev aiW:TI:={ desc:=.slice 77,size:=1,bytes:=24,zero:=[.slice none 0 0],iJ:=some (.sl (.pair .str (.pair (.sl (.pair (.int .i64) (.pair (.int .i64) (.pair (.int .i64) (.pair (.int .i64) (.pair (.int .i64) (.pair (.int .i64) (.pair (.int .i64) (.pair (.int .i64) .unit))))))))) .unit))) }
theorem adw:aN Tryz.prog 24 aiW:=aN.of_eq (by kernel_rfl) (by kernel_rfl) rfl rfl (aJ (i:=aiW) (s0:=(.sl (.pair .str (.pair (.sl (.pair (.int .i64) (.pair (.int .i64) (.pair (.int .i64) (.pair (.int .i64) (.pair (.int .i64) (.pair (.int .i64) (.pair (.int .i64) (.pair (.int .i64) .unit))))))))) .unit)))) rfl rfl rfl rfl)
abbrev aiX:TI:={ desc:=.slice 82,size:=1,bytes:=24,zero:=[.slice none 0 0],iJ:=some (.sl (.pair (.int .i64) (.pair (.int .i64) .unit))) }
theorem adx:aN Tryz.prog 25 aiX:=aN.of_eq (by kernel_rfl) (by kernel_rfl) rfl rfl (aJ (i:=aiX) (s0:=(.sl (.pair (.int .i64) (.pair (.int .i64) .unit)))) rfl rfl rfl rfl)
abbrev aiY:TI:={ desc:=.struct #[dU 22 0,dU 23 1,dU 23 2,dU 24 3,dU 25 4],size:=5,bytes:=120,zero:=[.slice none 0 0,.slice none 0 0,.slice none 0 0,.slice none 0 0,.slice none 0 0],iJ:=some (.pair (.sl (.pair .str (.pair (.int .i64) .unit))) (.pair (.sl .str) (.pair (.sl .str) (.pair (.sl (.pair .str (.pair (.sl (.pair (.int .i64) (.pair (.int .i64) (.pair (.int .i64) (.pair (.int .i64) (.pair (.int .i64) (.pair (.int .i64) (.pair (.int .i64) (.pair (.int .i64) .unit))))))))) .unit))) (.pair (.sl (.pair (.int .i64) (.pair (.int .i64) .unit))) .unit))))) }
theorem ady:aN Tryz.prog 26 aiY:=aN.of_eq (by kernel_rfl) (by kernel_rfl) rfl rfl (aJ (i:=aiY) (s0:=(.pair (.sl (.pair .str (.pair (.int .i64) .unit))) (.pair (.sl .str) (.pair (.sl .str) (.pair (.sl (.pair .str (.pair (.sl (.pair (.int .i64) (.pair (.int .i64) (.pair (.int .i64) (.pair (.int .i64) (.pair (.int .i64) (.pair (.int .i64) (.pair (.int .i64) (.pair (.int .i64) .unit))))))))) .unit))) (.pair (.sl (.pair (.int .i64) (.pair (.int .i64) .unit))) .unit)))))) rfl rfl rfl rfl)
abbrev aiZ:TI:={ desc:=.struct #[dU 22 0,dU 23 1,dU 23 2,dU 24 3,dU 25 4],size:=5,bytes:=120,zero:=[.slice none 0 0,.slice none 0 0,.slice none 0 0,.slice none 0 0,.slice none 0 0],iJ:=some (.pair (.sl (.pair .str (.pair (.int .i64) .unit))) (.pair (.sl .str) (.pair (.sl .str) (.pair (.sl (.pair .str (.pair (.sl (.pair (.int .i64) (.pair (.int .i64) (.pair (.int .i64) (.pair (.int .i64) (.pair (.int .i64) (.pair (.int .i64) (.pair (.int .i64) (.pair (.int .i64) .unit))))))))) .unit))) (.pair (.sl (.pair (.int .i64) (.pair (.int .i64) .unit))) .unit))))) }
theorem adz:aN Tryz.prog 27 aiZ:=aN.of_eq (by kernel_rfl) (by kernel_rfl) rfl rfl (aJ (i:=aiZ) (s0:=(.pair (.sl (.pair .str (.pair (.int .i64) .unit))) (.pair (.sl .str) (.pair (.sl .str) (.pair (.sl (.pair .str (.pair (.sl (.pair (.int .i64) (.pair (.int .i64) (.pair (.int .i64) (.pair (.int .i64) (.pair (.int .i64) (.pair (.int .i64) (.pair (.int .i64) (.pair (.int .i64) .unit))))))))) .unit))) (.pair (.sl (.pair (.int .i64) (.pair (.int .i64) .unit))) .unit)))))) rfl rfl rfl rfl)
abbrev ai0:TI:={ desc:=.slice 56,size:=1,bytes:=24,zero:=[.slice none 0 0],iJ:=some (.sl (.pair (.int .i64) (.pair (.int .i64) (.pair (.int .i64) (.pair (.arr 8 (.int .i64)) (.pair (.int .i64) (.pair (.int .i64) (.pair (.int .i64) (.pair (.int .i64) (.pair (.int .i64) (.pair (.sl (.int .i64)) .unit))))))))))) }
theorem adA:aN Tryz.prog 30 ai0:=aN.of_eq (by kernel_rfl) (by kernel_rfl) rfl rfl (aJ (i:=ai0) (s0:=(.sl (.pair (.int .i64) (.pair (.int .i64) (.pair (.int .i64) (.pair (.arr 8 (.int .i64)) (.pair (.int .i64) (.pair (.int .i64) (.pair (.int .i64) (.pair (.int .i64) (.pair (.int .i64) (.pair (.sl (.int .i64)) .unit)))))))))))) rfl rfl rfl rfl)
abbrev ai1:TI:={ desc:=.slice 3,size:=1,bytes:=24,zero:=[.slice none 0 0],iJ:=some (.sl (.int .i64)) }
theorem adB:aN Tryz.prog 31 ai1:=aN.of_eq (by kernel_rfl) (by kernel_rfl) rfl rfl (aJ (i:=ai1) (s0:=(.sl (.int .i64))) rfl rfl rfl rfl)
abbrev ai2:TI:={ desc:=.slice 31,size:=1,bytes:=24,zero:=[.slice none 0 0],iJ:=some (.sl (.sl (.int .i64))) }
theorem adC:aN Tryz.prog 32 ai2:=aN.of_eq (by kernel_rfl) (by kernel_rfl) rfl rfl (aJ (i:=ai2) (s0:=(.sl (.sl (.int .i64)))) rfl rfl rfl rfl)
abbrev ai3:TI:={ desc:=.struct #[dU 31 0,dU 31 1,dU 32 2,dU 31 3],size:=4,bytes:=96,zero:=[.slice none 0 0,.slice none 0 0,.slice none 0 0,.slice none 0 0],iJ:=some (.pair (.sl (.int .i64)) (.pair (.sl (.int .i64)) (.pair (.sl (.sl (.int .i64))) (.pair (.sl (.int .i64)) .unit)))) }
theorem adD:aN Tryz.prog 33 ai3:=aN.of_eq (by kernel_rfl) (by kernel_rfl) rfl rfl (aJ (i:=ai3) (s0:=(.pair (.sl (.int .i64)) (.pair (.sl (.int .i64)) (.pair (.sl (.sl (.int .i64))) (.pair (.sl (.int .i64)) .unit))))) rfl rfl rfl rfl)
abbrev ai4:TI:={ desc:=.struct #[dU 31 0,dU 31 1,dU 32 2,dU 31 3],size:=4,bytes:=96,zero:=[.slice none 0 0,.slice none 0 0,.slice none 0 0,.slice none 0 0],iJ:=some (.pair (.sl (.int .i64)) (.pair (.sl (.int .i64)) (.pair (.sl (.sl (.int .i64))) (.pair (.sl (.int .i64)) .unit)))) }
theorem adE:aN Tryz.prog 34 ai4:=aN.of_eq (by kernel_rfl) (by kernel_rfl) rfl rfl (aJ (i:=ai4) (s0:=(.pair (.sl (.int .i64)) (.pair (.sl (.int .i64)) (.pair (.sl (.sl (.int .i64))) (.pair (.sl (.int .i64)) .unit))))) rfl rfl rfl rfl)
abbrev ai5:TI:={ desc:=.slice 65,size:=1,bytes:=24,zero:=[.slice none 0 0],iJ:=some (.sl (.pair (.int .i64) (.pair (.int .i64) (.pair (.sl (.pair (.int .i64) (.pair (.int .i64) .unit))) .unit)))) }
theorem adF:aN Tryz.prog 35 ai5:=aN.of_eq (by kernel_rfl) (by kernel_rfl) rfl rfl (aJ (i:=ai5) (s0:=(.sl (.pair (.int .i64) (.pair (.int .i64) (.pair (.sl (.pair (.int .i64) (.pair (.int .i64) .unit))) .unit))))) rfl rfl rfl rfl)
abbrev ai6:TI:={ desc:=.struct #[dU 30 0,dU 34 1,dU 35 5],size:=6,bytes:=144,zero:=[.slice none 0 0,.slice none 0 0,.slice none 0 0,.slice none 0 0,.slice none 0 0,.slice none 0 0],iJ:=some (.pair (.sl (.pair (.int .i64) (.pair (.int .i64) (.pair (.int .i64) (.pair (.arr 8 (.int .i64)) (.pair (.int .i64) (.pair (.int .i64) (.pair (.int .i64) (.pair (.int .i64) (.pair (.int .i64) (.pair (.sl (.int .i64)) .unit))))))))))) (.pair (.pair (.sl (.int .i64)) (.pair (.sl (.int .i64)) (.pair (.sl (.sl (.int .i64))) (.pair (.sl (.int .i64)) .unit)))) (.pair (.sl (.pair (.int .i64) (.pair (.int .i64) (.pair (.sl (.pair (.int .i64) (.pair (.int .i64) .unit))) .unit)))) .unit))) }
theorem adG:aN Tryz.prog 36 ai6:=aN.of_eq (by kernel_rfl) (by kernel_rfl) rfl rfl (aJ (i:=ai6) (s0:=(.pair (.sl (.pair (.int .i64) (.pair (.int .i64) (.pair (.int .i64) (.pair (.arr 8 (.int .i64)) (.pair (.int .i64) (.pair (.int .i64) (.pair (.int .i64) (.pair (.int .i64) (.pair (.int .i64) (.pair (.sl (.int .i64)) .unit))))))))))) (.pair (.pair (.sl (.int .i64)) (.pair (.sl (.int .i64)) (.pair (.sl (.sl (.int .i64))) (.pair (.sl (.int .i64)) .unit)))) (.pair (.sl (.pair (.int .i64) (.pair (.int .i64) (.pair (.sl (.pair (.int .i64) (.pair (.int .i64) .unit))) .unit)))) .unit)))) rfl rfl rfl rfl)
abbrev ai7:TI:={ desc:=.struct #[dU 30 0,dU 34 1,dU 35 5],size:=6,bytes:=144,zero:=[.slice none 0 0,.slice none 0 0,.slice none 0 0,.slice none 0 0,.slice none 0 0,.slice none 0 0],iJ:=some (.pair (.sl (.pair (.int .i64) (.pair (.int .i64) (.pair (.int .i64) (.pair (.arr 8 (.int .i64)) (.pair (.int .i64) (.pair (.int .i64) (.pair (.int .i64) (.pair (.int .i64) (.pair (.int .i64) (.pair (.sl (.int .i64)) .unit))))))))))) (.pair (.pair (.sl (.int .i64)) (.pair (.sl (.int .i64)) (.pair (.sl (.sl (.int .i64))) (.pair (.sl (.int .i64)) .unit)))) (.pair (.sl (.pair (.int .i64) (.pair (.int .i64) (.pair (.sl (.pair (.int .i64) (.pair (.int .i64) .unit))) .unit)))) .unit))) }
theorem adH:aN Tryz.prog 37 ai7:=aN.of_eq (by kernel_rfl) (by kernel_rfl) rfl rfl (aJ (i:=ai7) (s0:=(.pair (.sl (.pair (.int .i64) (.pair (.int .i64) (.pair (.int .i64) (.pair (.arr 8 (.int .i64)) (.pair (.int .i64) (.pair (.int .i64) (.pair (.int .i64) (.pair (.int .i64) (.pair (.int .i64) (.pair (.sl (.int .i64)) .unit))))))))))) (.pair (.pair (.sl (.int .i64)) (.pair (.sl (.int .i64)) (.pair (.sl (.sl (.int .i64))) (.pair (.sl (.int .i64)) .unit)))) (.pair (.sl (.pair (.int .i64) (.pair (.int .i64) (.pair (.sl (.pair (.int .i64) (.pair (.int .i64) .unit))) .unit)))) .unit)))) rfl rfl rfl rfl)
abbrev ai8:TI:={ desc:=.int .i64,size:=1,bytes:=8,zero:=[.int .i64 0],iJ:=some (.int .i64) }
theorem adI:aN Tryz.prog 38 ai8:=aN.of_eq (by kernel_rfl) (by kernel_rfl) rfl rfl (aJ (i:=ai8) (s0:=(.int .i64)) rfl rfl rfl rfl)
abbrev ai9:TI:={ desc:=.struct #[dU 27 0,dU 3 5,dU 3 6,dU 37 7],size:=13,bytes:=280,zero:=[.slice none 0 0,.slice none 0 0,.slice none 0 0,.slice none 0 0,.slice none 0 0,.int .i64 0,.int .i64 0,.slice none 0 0,.slice none 0 0,.slice none 0 0,.slice none 0 0,.slice none 0 0,.slice none 0 0],iJ:=some (.pair (.pair (.sl (.pair .str (.pair (.int .i64) .unit))) (.pair (.sl .str) (.pair (.sl .str) (.pair (.sl (.pair .str (.pair (.sl (.pair (.int .i64) (.pair (.int .i64) (.pair (.int .i64) (.pair (.int .i64) (.pair (.int .i64) (.pair (.int .i64) (.pair (.int .i64) (.pair (.int .i64) .unit))))))))) .unit))) (.pair (.sl (.pair (.int .i64) (.pair (.int .i64) .unit))) .unit))))) (.pair (.int .i64) (.pair (.int .i64) (.pair (.pair (.sl (.pair (.int .i64) (.pair (.int .i64) (.pair (.int .i64) (.pair (.arr 8 (.int .i64)) (.pair (.int .i64) (.pair (.int .i64) (.pair (.int .i64) (.pair (.int .i64) (.pair (.int .i64) (.pair (.sl (.int .i64)) .unit))))))))))) (.pair (.pair (.sl (.int .i64)) (.pair (.sl (.int .i64)) (.pair (.sl (.sl (.int .i64))) (.pair (.sl (.int .i64)) .unit)))) (.pair (.sl (.pair (.int .i64) (.pair (.int .i64) (.pair (.sl (.pair (.int .i64) (.pair (.int .i64) .unit))) .unit)))) .unit))) .unit)))) }
theorem adJ:aN Tryz.prog 43 ai9:=aN.of_eq (by kernel_rfl) (by kernel_rfl) rfl rfl (aJ (i:=ai9) (s0:=(.pair (.pair (.sl (.pair .str (.pair (.int .i64) .unit))) (.pair (.sl .str) (.pair (.sl .str) (.pair (.sl (.pair .str (.pair (.sl (.pair (.int .i64) (.pair (.int .i64) (.pair (.int .i64) (.pair (.int .i64) (.pair (.int .i64) (.pair (.int .i64) (.pair (.int .i64) (.pair (.int .i64) .unit))))))))) .unit))) (.pair (.sl (.pair (.int .i64) (.pair (.int .i64) .unit))) .unit))))) (.pair (.int .i64) (.pair (.int .i64) (.pair (.pair (.sl (.pair (.int .i64) (.pair (.int .i64) (.pair (.int .i64) (.pair (.arr 8 (.int .i64)) (.pair (.int .i64) (.pair (.int .i64) (.pair (.int .i64) (.pair (.int .i64) (.pair (.int .i64) (.pair (.sl (.int .i64)) .unit))))))))))) (.pair (.pair (.sl (.int .i64)) (.pair (.sl (.int .i64)) (.pair (.sl (.sl (.int .i64))) (.pair (.sl (.int .i64)) .unit)))) (.pair (.sl (.pair (.int .i64) (.pair (.int .i64) (.pair (.sl (.pair (.int .i64) (.pair (.int .i64) .unit))) .unit)))) .unit))) .unit))))) rfl rfl rfl rfl)
abbrev aja:TI:={ desc:=.struct #[dU 27 0,dU 3 5,dU 3 6,dU 37 7],size:=13,bytes:=280,zero:=[.slice none 0 0,.slice none 0 0,.slice none 0 0,.slice none 0 0,.slice none 0 0,.int .i64 0,.int .i64 0,.slice none 0 0,.slice none 0 0,.slice none 0 0,.slice none 0 0,.slice none 0 0,.slice none 0 0],iJ:=some (.pair (.pair (.sl (.pair .str (.pair (.int .i64) .unit))) (.pair (.sl .str) (.pair (.sl .str) (.pair (.sl (.pair .str (.pair (.sl (.pair (.int .i64) (.pair (.int .i64) (.pair (.int .i64) (.pair (.int .i64) (.pair (.int .i64) (.pair (.int .i64) (.pair (.int .i64) (.pair (.int .i64) .unit))))))))) .unit))) (.pair (.sl (.pair (.int .i64) (.pair (.int .i64) .unit))) .unit))))) (.pair (.int .i64) (.pair (.int .i64) (.pair (.pair (.sl (.pair (.int .i64) (.pair (.int .i64) (.pair (.int .i64) (.pair (.arr 8 (.int .i64)) (.pair (.int .i64) (.pair (.int .i64) (.pair (.int .i64) (.pair (.int .i64) (.pair (.int .i64) (.pair (.sl (.int .i64)) .unit))))))))))) (.pair (.pair (.sl (.int .i64)) (.pair (.sl (.int .i64)) (.pair (.sl (.sl (.int .i64))) (.pair (.sl (.int .i64)) .unit)))) (.pair (.sl (.pair (.int .i64) (.pair (.int .i64) (.pair (.sl (.pair (.int .i64) (.pair (.int .i64) .unit))) .unit)))) .unit))) .unit)))) }
theorem adK:aN Tryz.prog 44 aja:=aN.of_eq (by kernel_rfl) (by kernel_rfl) rfl rfl (aJ (i:=aja) (s0:=(.pair (.pair (.sl (.pair .str (.pair (.int .i64) .unit))) (.pair (.sl .str) (.pair (.sl .str) (.pair (.sl (.pair .str (.pair (.sl (.pair (.int .i64) (.pair (.int .i64) (.pair (.int .i64) (.pair (.int .i64) (.pair (.int .i64) (.pair (.int .i64) (.pair (.int .i64) (.pair (.int .i64) .unit))))))))) .unit))) (.pair (.sl (.pair (.int .i64) (.pair (.int .i64) .unit))) .unit))))) (.pair (.int .i64) (.pair (.int .i64) (.pair (.pair (.sl (.pair (.int .i64) (.pair (.int .i64) (.pair (.int .i64) (.pair (.arr 8 (.int .i64)) (.pair (.int .i64) (.pair (.int .i64) (.pair (.int .i64) (.pair (.int .i64) (.pair (.int .i64) (.pair (.sl (.int .i64)) .unit))))))))))) (.pair (.pair (.sl (.int .i64)) (.pair (.sl (.int .i64)) (.pair (.sl (.sl (.int .i64))) (.pair (.sl (.int .i64)) .unit)))) (.pair (.sl (.pair (.int .i64) (.pair (.int .i64) (.pair (.sl (.pair (.int .i64) (.pair (.int .i64) .unit))) .unit)))) .unit))) .unit))))) rfl rfl rfl rfl)
abbrev ajb:TI:={ desc:=.int .i64,size:=1,bytes:=8,zero:=[.int .i64 0],iJ:=some (.int .i64) }
theorem adL:aN Tryz.prog 46 ajb:=aN.of_eq (by kernel_rfl) (by kernel_rfl) rfl rfl (aJ (i:=ajb) (s0:=(.int .i64)) rfl rfl rfl rfl)
abbrev ajc:TI:={ desc:=.int .i64,size:=1,bytes:=8,zero:=[.int .i64 0],iJ:=some (.int .i64) }
theorem adM:aN Tryz.prog 47 ajc:=aN.of_eq (by kernel_rfl) (by kernel_rfl) rfl rfl (aJ (i:=ajc) (s0:=(.int .i64)) rfl rfl rfl rfl)
abbrev ajd:TI:={ desc:=.struct #[dU 3 0,dU 3 1,dU 46 2,dU 3 3,dU 3 4,dU 3 5,dU 47 6,dU 3 7,dU 3 8],size:=9,bytes:=72,zero:=[.int .i64 0,.int .i64 0,.int .i64 0,.int .i64 0,.int .i64 0,.int .i64 0,.int .i64 0,.int .i64 0,.int .i64 0],iJ:=some (.pair (.int .i64) (.pair (.int .i64) (.pair (.int .i64) (.pair (.int .i64) (.pair (.int .i64) (.pair (.int .i64) (.pair (.int .i64) (.pair (.int .i64) (.pair (.int .i64) .unit))))))))),zQ:=[.i,.i,.i,.i,.i,.i,.i,.i,.i] }
theorem adN:aN Tryz.prog 48 ajd:=aN.of_eq (by kernel_rfl) (by kernel_rfl) rfl rfl (aJ (i:=ajd) (s0:=(.pair (.int .i64) (.pair (.int .i64) (.pair (.int .i64) (.pair (.int .i64) (.pair (.int .i64) (.pair (.int .i64) (.pair (.int .i64) (.pair (.int .i64) (.pair (.int .i64) .unit)))))))))) rfl rfl rfl rfl) (λ_=>by kernel_rfl)
abbrev aje:TI:={ desc:=.struct #[dU 3 0,dU 3 1,dU 46 2,dU 3 3,dU 3 4,dU 3 5,dU 47 6,dU 3 7,dU 3 8],size:=9,bytes:=72,zero:=[.int .i64 0,.int .i64 0,.int .i64 0,.int .i64 0,.int .i64 0,.int .i64 0,.int .i64 0,.int .i64 0,.int .i64 0],iJ:=some (.pair (.int .i64) (.pair (.int .i64) (.pair (.int .i64) (.pair (.int .i64) (.pair (.int .i64) (.pair (.int .i64) (.pair (.int .i64) (.pair (.int .i64) (.pair (.int .i64) .unit))))))))),zQ:=[.i,.i,.i,.i,.i,.i,.i,.i,.i] }
theorem adO:aN Tryz.prog 49 aje:=aN.of_eq (by kernel_rfl) (by kernel_rfl) rfl rfl (aJ (i:=aje) (s0:=(.pair (.int .i64) (.pair (.int .i64) (.pair (.int .i64) (.pair (.int .i64) (.pair (.int .i64) (.pair (.int .i64) (.pair (.int .i64) (.pair (.int .i64) (.pair (.int .i64) .unit)))))))))) rfl rfl rfl rfl) (λ_=>by kernel_rfl)
abbrev ajf:TI:={ desc:=.array 8 3,size:=8,bytes:=64,zero:=[.int .i64 0,.int .i64 0,.int .i64 0,.int .i64 0,.int .i64 0,.int .i64 0,.int .i64 0,.int .i64 0],iJ:=some (.arr 8 (.int .i64)),zQ:=[.i] }
theorem adP:aN Tryz.prog 52 ajf:=aN.of_eq (by kernel_rfl) (by kernel_rfl) rfl rfl (aJ (i:=ajf) (s0:=(.arr 8 (.int .i64))) rfl rfl rfl rfl) (λ_=>by kernel_rfl)
abbrev ajg:TI:={ desc:=.int .i64,size:=1,bytes:=8,zero:=[.int .i64 0],iJ:=some (.int .i64) }
theorem adQ:aN Tryz.prog 53 ajg:=aN.of_eq (by kernel_rfl) (by kernel_rfl) rfl rfl (aJ (i:=ajg) (s0:=(.int .i64)) rfl rfl rfl rfl)
abbrev ajh:TI:={ desc:=.int .i64,size:=1,bytes:=8,zero:=[.int .i64 0],iJ:=some (.int .i64) }
theorem adR:aN Tryz.prog 54 ajh:=aN.of_eq (by kernel_rfl) (by kernel_rfl) rfl rfl (aJ (i:=ajh) (s0:=(.int .i64)) rfl rfl rfl rfl)
abbrev aji:TI:={ desc:=.struct #[dU 3 0,dU 3 1,dU 3 2,dU 52 3,dU 3 11,dU 3 12,dU 53 13,dU 54 14,dU 38 15,dU 31 16],size:=17,bytes:=152,zero:=[.int .i64 0,.int .i64 0,.int .i64 0,.int .i64 0,.int .i64 0,.int .i64 0,.int .i64 0,.int .i64 0,.int .i64 0,.int .i64 0,.int .i64 0,.int .i64 0,.int .i64 0,.int .i64 0,.int .i64 0,.int .i64 0,.slice none 0 0],iJ:=some (.pair (.int .i64) (.pair (.int .i64) (.pair (.int .i64) (.pair (.arr 8 (.int .i64)) (.pair (.int .i64) (.pair (.int .i64) (.pair (.int .i64) (.pair (.int .i64) (.pair (.int .i64) (.pair (.sl (.int .i64)) .unit)))))))))) }
theorem adS:aN Tryz.prog 55 aji:=aN.of_eq (by kernel_rfl) (by kernel_rfl) rfl rfl (aJ (i:=aji) (s0:=(.pair (.int .i64) (.pair (.int .i64) (.pair (.int .i64) (.pair (.arr 8 (.int .i64)) (.pair (.int .i64) (.pair (.int .i64) (.pair (.int .i64) (.pair (.int .i64) (.pair (.int .i64) (.pair (.sl (.int .i64)) .unit))))))))))) rfl rfl rfl rfl)
abbrev ajj:TI:={ desc:=.struct #[dU 3 0,dU 3 1,dU 3 2,dU 52 3,dU 3 11,dU 3 12,dU 53 13,dU 54 14,dU 38 15,dU 31 16],size:=17,bytes:=152,zero:=[.int .i64 0,.int .i64 0,.int .i64 0,.int .i64 0,.int .i64 0,.int .i64 0,.int .i64 0,.int .i64 0,.int .i64 0,.int .i64 0,.int .i64 0,.int .i64 0,.int .i64 0,.int .i64 0,.int .i64 0,.int .i64 0,.slice none 0 0],iJ:=some (.pair (.int .i64) (.pair (.int .i64) (.pair (.int .i64) (.pair (.arr 8 (.int .i64)) (.pair (.int .i64) (.pair (.int .i64) (.pair (.int .i64) (.pair (.int .i64) (.pair (.int .i64) (.pair (.sl (.int .i64)) .unit)))))))))) }
theorem adT:aN Tryz.prog 56 ajj:=aN.of_eq (by kernel_rfl) (by kernel_rfl) rfl rfl (aJ (i:=ajj) (s0:=(.pair (.int .i64) (.pair (.int .i64) (.pair (.int .i64) (.pair (.arr 8 (.int .i64)) (.pair (.int .i64) (.pair (.int .i64) (.pair (.int .i64) (.pair (.int .i64) (.pair (.int .i64) (.pair (.sl (.int .i64)) .unit))))))))))) rfl rfl rfl rfl)
abbrev ajk:TI:={ desc:=.slice 67,size:=1,bytes:=24,zero:=[.slice none 0 0],iJ:=some (.sl (.pair (.int .i64) (.pair (.int .i64) .unit))) }
theorem adU:aN Tryz.prog 63 ajk:=aN.of_eq (by kernel_rfl) (by kernel_rfl) rfl rfl (aJ (i:=ajk) (s0:=(.sl (.pair (.int .i64) (.pair (.int .i64) .unit)))) rfl rfl rfl rfl)
abbrev ajl:TI:={ desc:=.struct #[dU 3 0,dU 3 1,dU 63 2],size:=3,bytes:=40,zero:=[.int .i64 0,.int .i64 0,.slice none 0 0],iJ:=some (.pair (.int .i64) (.pair (.int .i64) (.pair (.sl (.pair (.int .i64) (.pair (.int .i64) .unit))) .unit))) }
theorem adV:aN Tryz.prog 64 ajl:=aN.of_eq (by kernel_rfl) (by kernel_rfl) rfl rfl (aJ (i:=ajl) (s0:=(.pair (.int .i64) (.pair (.int .i64) (.pair (.sl (.pair (.int .i64) (.pair (.int .i64) .unit))) .unit)))) rfl rfl rfl rfl)
abbrev ajm:TI:={ desc:=.struct #[dU 3 0,dU 3 1,dU 63 2],size:=3,bytes:=40,zero:=[.int .i64 0,.int .i64 0,.slice none 0 0],iJ:=some (.pair (.int .i64) (.pair (.int .i64) (.pair (.sl (.pair (.int .i64) (.pair (.int .i64) .unit))) .unit))) }
theorem adW:aN Tryz.prog 65 ajm:=aN.of_eq (by kernel_rfl) (by kernel_rfl) rfl rfl (aJ (i:=ajm) (s0:=(.pair (.int .i64) (.pair (.int .i64) (.pair (.sl (.pair (.int .i64) (.pair (.int .i64) .unit))) .unit)))) rfl rfl rfl rfl)
abbrev ajn:TI:={ desc:=.struct #[dU 3 0,dU 3 1],size:=2,bytes:=16,zero:=[.int .i64 0,.int .i64 0],iJ:=some (.pair (.int .i64) (.pair (.int .i64) .unit)),zQ:=[.i,.i] }
theorem adX:aN Tryz.prog 66 ajn:=aN.of_eq (by kernel_rfl) (by kernel_rfl) rfl rfl (aJ (i:=ajn) (s0:=(.pair (.int .i64) (.pair (.int .i64) .unit))) rfl rfl rfl rfl) (λ_=>by kernel_rfl)
abbrev ajo:TI:={ desc:=.struct #[dU 3 0,dU 3 1],size:=2,bytes:=16,zero:=[.int .i64 0,.int .i64 0],iJ:=some (.pair (.int .i64) (.pair (.int .i64) .unit)),zQ:=[.i,.i] }
theorem adY:aN Tryz.prog 67 ajo:=aN.of_eq (by kernel_rfl) (by kernel_rfl) rfl rfl (aJ (i:=ajo) (s0:=(.pair (.int .i64) (.pair (.int .i64) .unit))) rfl rfl rfl rfl) (λ_=>by kernel_rfl)
abbrev ajp:TI:={ desc:=.slice 91,size:=1,bytes:=24,zero:=[.slice none 0 0],iJ:=some (.sl (.pair (.int .i64) (.pair (.int .i64) (.pair (.int .i64) (.pair (.int .i64) (.pair (.int .i64) (.pair (.int .i64) (.pair (.int .i64) (.pair (.int .i64) .unit))))))))) }
theorem adZ:aN Tryz.prog 75 ajp:=aN.of_eq (by kernel_rfl) (by kernel_rfl) rfl rfl (aJ (i:=ajp) (s0:=(.sl (.pair (.int .i64) (.pair (.int .i64) (.pair (.int .i64) (.pair (.int .i64) (.pair (.int .i64) (.pair (.int .i64) (.pair (.int .i64) (.pair (.int .i64) .unit)))))))))) rfl rfl rfl rfl)
abbrev ajq:TI:={ desc:=.struct #[dU 9 0,dU 75 1],size:=2,bytes:=40,zero:=[.string ⟨#[]⟩,.slice none 0 0],iJ:=some (.pair .str (.pair (.sl (.pair (.int .i64) (.pair (.int .i64) (.pair (.int .i64) (.pair (.int .i64) (.pair (.int .i64) (.pair (.int .i64) (.pair (.int .i64) (.pair (.int .i64) .unit))))))))) .unit)) }
theorem ad1:aN Tryz.prog 76 ajq:=aN.of_eq (by kernel_rfl) (by kernel_rfl) rfl rfl (aJ (i:=ajq) (s0:=(.pair .str (.pair (.sl (.pair (.int .i64) (.pair (.int .i64) (.pair (.int .i64) (.pair (.int .i64) (.pair (.int .i64) (.pair (.int .i64) (.pair (.int .i64) (.pair (.int .i64) .unit))))))))) .unit))) rfl rfl rfl rfl)
abbrev ajr:TI:={ desc:=.struct #[dU 9 0,dU 75 1],size:=2,bytes:=40,zero:=[.string ⟨#[]⟩,.slice none 0 0],iJ:=some (.pair .str (.pair (.sl (.pair (.int .i64) (.pair (.int .i64) (.pair (.int .i64) (.pair (.int .i64) (.pair (.int .i64) (.pair (.int .i64) (.pair (.int .i64) (.pair (.int .i64) .unit))))))))) .unit)) }
theorem ad2:aN Tryz.prog 77 ajr:=aN.of_eq (by kernel_rfl) (by kernel_rfl) rfl rfl (aJ (i:=ajr) (s0:=(.pair .str (.pair (.sl (.pair (.int .i64) (.pair (.int .i64) (.pair (.int .i64) (.pair (.int .i64) (.pair (.int .i64) (.pair (.int .i64) (.pair (.int .i64) (.pair (.int .i64) .unit))))))))) .unit))) rfl rfl rfl rfl)
abbrev ajs:TI:={ desc:=.struct #[dU 3 0,dU 3 1],size:=2,bytes:=16,zero:=[.int .i64 0,.int .i64 0],iJ:=some (.pair (.int .i64) (.pair (.int .i64) .unit)),zQ:=[.i,.i] }
theorem ad3:aN Tryz.prog 81 ajs:=aN.of_eq (by kernel_rfl) (by kernel_rfl) rfl rfl (aJ (i:=ajs) (s0:=(.pair (.int .i64) (.pair (.int .i64) .unit))) rfl rfl rfl rfl) (λ_=>by kernel_rfl)
abbrev ajt:TI:={ desc:=.struct #[dU 3 0,dU 3 1],size:=2,bytes:=16,zero:=[.int .i64 0,.int .i64 0],iJ:=some (.pair (.int .i64) (.pair (.int .i64) .unit)),zQ:=[.i,.i] }
theorem ad4:aN Tryz.prog 82 ajt:=aN.of_eq (by kernel_rfl) (by kernel_rfl) rfl rfl (aJ (i:=ajt) (s0:=(.pair (.int .i64) (.pair (.int .i64) .unit))) rfl rfl rfl rfl) (λ_=>by kernel_rfl)
abbrev aju:TI:={ desc:=.int .i64,size:=1,bytes:=8,zero:=[.int .i64 0],iJ:=some (.int .i64) }
theorem ad5:aN Tryz.prog 88 aju:=aN.of_eq (by kernel_rfl) (by kernel_rfl) rfl rfl (aJ (i:=aju) (s0:=(.int .i64)) rfl rfl rfl rfl)
abbrev ajv:TI:={ desc:=.int .i64,size:=1,bytes:=8,zero:=[.int .i64 0],iJ:=some (.int .i64) }
theorem ad6:aN Tryz.prog 89 ajv:=aN.of_eq (by kernel_rfl) (by kernel_rfl) rfl rfl (aJ (i:=ajv) (s0:=(.int .i64)) rfl rfl rfl rfl)
abbrev ajw:TI:={ desc:=.struct #[dU 88 0,dU 3 1,dU 3 2,dU 3 3,dU 3 4,dU 3 5,dU 89 6,dU 47 7],size:=8,bytes:=64,zero:=[.int .i64 0,.int .i64 0,.int .i64 0,.int .i64 0,.int .i64 0,.int .i64 0,.int .i64 0,.int .i64 0],iJ:=some (.pair (.int .i64) (.pair (.int .i64) (.pair (.int .i64) (.pair (.int .i64) (.pair (.int .i64) (.pair (.int .i64) (.pair (.int .i64) (.pair (.int .i64) .unit)))))))),zQ:=[.i,.i,.i,.i,.i,.i,.i,.i] }
theorem ad7:aN Tryz.prog 90 ajw:=aN.of_eq (by kernel_rfl) (by kernel_rfl) rfl rfl (aJ (i:=ajw) (s0:=(.pair (.int .i64) (.pair (.int .i64) (.pair (.int .i64) (.pair (.int .i64) (.pair (.int .i64) (.pair (.int .i64) (.pair (.int .i64) (.pair (.int .i64) .unit))))))))) rfl rfl rfl rfl) (λ_=>by kernel_rfl)
abbrev ajx:TI:={ desc:=.struct #[dU 88 0,dU 3 1,dU 3 2,dU 3 3,dU 3 4,dU 3 5,dU 89 6,dU 47 7],size:=8,bytes:=64,zero:=[.int .i64 0,.int .i64 0,.int .i64 0,.int .i64 0,.int .i64 0,.int .i64 0,.int .i64 0,.int .i64 0],iJ:=some (.pair (.int .i64) (.pair (.int .i64) (.pair (.int .i64) (.pair (.int .i64) (.pair (.int .i64) (.pair (.int .i64) (.pair (.int .i64) (.pair (.int .i64) .unit)))))))),zQ:=[.i,.i,.i,.i,.i,.i,.i,.i] }
theorem ad8:aN Tryz.prog 91 ajx:=aN.of_eq (by kernel_rfl) (by kernel_rfl) rfl rfl (aJ (i:=ajx) (s0:=(.pair (.int .i64) (.pair (.int .i64) (.pair (.int .i64) (.pair (.int .i64) (.pair (.int .i64) (.pair (.int .i64) (.pair (.int .i64) (.pair (.int .i64) .unit))))))))) rfl rfl rfl rfl) (λ_=>by kernel_rfl)
abbrev Yg:TI:={ desc:=.struct #[dU 9 0,dU 3 1],size:=2,bytes:=24,zero:=[.string ⟨#[]⟩,.int .i64 0],iJ:=some (.pair .str (.pair (.int .i64) .unit)),zQ:=[.s,.i] }
theorem Yh:aN Tryz.prog 117 Yg:=aN.of_eq (by kernel_rfl) (by kernel_rfl) rfl rfl (aJ (i:=Yg) (s0:=(.pair .str (.pair (.int .i64) .unit))) rfl rfl rfl rfl) (λ_=>by kernel_rfl)
abbrev Yi:TI:={ desc:=.struct #[dU 9 0,dU 3 1],size:=2,bytes:=24,zero:=[.string ⟨#[]⟩,.int .i64 0],iJ:=some (.pair .str (.pair (.int .i64) .unit)),zQ:=[.s,.i] }
theorem Yj:aN Tryz.prog 118 Yi:=aN.of_eq (by kernel_rfl) (by kernel_rfl) rfl rfl (aJ (i:=Yi) (s0:=(.pair .str (.pair (.int .i64) .unit))) rfl rfl rfl rfl) (λ_=>by kernel_rfl)
abbrev Yk:TI:={ desc:=.int .i64,size:=1,bytes:=8,zero:=[.int .i64 0],iJ:=some (.int .i64) }
theorem Ym:aN Tryz.prog 151 Yk:=aN.of_eq (by kernel_rfl) (by kernel_rfl) rfl rfl (aJ (i:=Yk) (s0:=(.int .i64)) rfl rfl rfl rfl)
abbrev Yn:TI:={ desc:=.struct #[dU 3 0,dU 4 1,dU 3 2,dU 3 3,dU 4 4,dU 3 5,dU 151 6,dU 4 7],size:=8,bytes:=64,zero:=[.int .i64 0,.bool false,.int .i64 0,.int .i64 0,.bool false,.int .i64 0,.int .i64 0,.bool false],iJ:=some (.pair (.int .i64) (.pair .bool (.pair (.int .i64) (.pair (.int .i64) (.pair .bool (.pair (.int .i64) (.pair (.int .i64) (.pair .bool .unit)))))))),zQ:=[.i,.b,.i,.i,.b,.i,.i,.b] }
theorem Yo:aN Tryz.prog 152 Yn:=aN.of_eq (by kernel_rfl) (by kernel_rfl) rfl rfl (aJ (i:=Yn) (s0:=(.pair (.int .i64) (.pair .bool (.pair (.int .i64) (.pair (.int .i64) (.pair .bool (.pair (.int .i64) (.pair (.int .i64) (.pair .bool .unit))))))))) rfl rfl rfl rfl) (λ_=>by kernel_rfl)
abbrev Yp:TI:={ desc:=.struct #[dU 3 0,dU 4 1,dU 3 2,dU 3 3,dU 4 4,dU 3 5,dU 151 6,dU 4 7],size:=8,bytes:=64,zero:=[.int .i64 0,.bool false,.int .i64 0,.int .i64 0,.bool false,.int .i64 0,.int .i64 0,.bool false],iJ:=some (.pair (.int .i64) (.pair .bool (.pair (.int .i64) (.pair (.int .i64) (.pair .bool (.pair (.int .i64) (.pair (.int .i64) (.pair .bool .unit)))))))),zQ:=[.i,.b,.i,.i,.b,.i,.i,.b] }
theorem Yq:aN Tryz.prog 153 Yp:=aN.of_eq (by kernel_rfl) (by kernel_rfl) rfl rfl (aJ (i:=Yp) (s0:=(.pair (.int .i64) (.pair .bool (.pair (.int .i64) (.pair (.int .i64) (.pair .bool (.pair (.int .i64) (.pair (.int .i64) (.pair .bool .unit))))))))) rfl rfl rfl rfl) (λ_=>by kernel_rfl)
abbrev Yr:TI:={ desc:=.array 17 153,size:=136,bytes:=1088,zero:=[.int .i64 0,.bool false,.int .i64 0,.int .i64 0,.bool false,.int .i64 0,.int .i64 0,.bool false,.int .i64 0,.bool false,.int .i64 0,.int .i64 0,.bool false,.int .i64 0,.int .i64 0,.bool false,.int .i64 0,.bool false,.int .i64 0,.int .i64 0,.bool false,.int .i64 0,.int .i64 0,.bool false,.int .i64 0,.bool false,.int .i64 0,.int .i64 0,.bool false,.int .i64 0,.int .i64 0,.bool false,.int .i64 0,.bool false,.int .i64 0,.int .i64 0,.bool false,.int .i64 0,.int .i64 0,.bool false,.int .i64 0,.bool false,.int .i64 0,.int .i64 0,.bool false,.int .i64 0,.int .i64 0,.bool false,.int .i64 0,.bool false,.int .i64 0,.int .i64 0,.bool false,.int .i64 0,.int .i64 0,.bool false,.int .i64 0,.bool false,.int .i64 0,.int .i64 0,.bool false,.int .i64 0,.int .i64 0,.bool false,.int .i64 0,.bool false,.int .i64 0,.int .i64 0,.bool false,.int .i64 0,.int .i64 0,.bool false,.int .i64 0,.bool false,.int .i64 0,.int .i64 0,.bool false,.int .i64 0,.int .i64 0,.bool false,.int .i64 0,.bool false,.int .i64 0,.int .i64 0,.bool false,.int .i64 0,.int .i64 0,.bool false,.int .i64 0,.bool false,.int .i64 0,.int .i64 0,.bool false,.int .i64 0,.int .i64 0,.bool false,.int .i64 0,.bool false,.int .i64 0,.int .i64 0,.bool false,.int .i64 0,.int .i64 0,.bool false,.int .i64 0,.bool false,.int .i64 0,.int .i64 0,.bool false,.int .i64 0,.int .i64 0,.bool false,.int .i64 0,.bool false,.int .i64 0,.int .i64 0,.bool false,.int .i64 0,.int .i64 0,.bool false,.int .i64 0,.bool false,.int .i64 0,.int .i64 0,.bool false,.int .i64 0,.int .i64 0,.bool false,.int .i64 0,.bool false,.int .i64 0,.int .i64 0,.bool false,.int .i64 0,.int .i64 0,.bool false],iJ:=some (.arr 17 (.pair (.int .i64) (.pair .bool (.pair (.int .i64) (.pair (.int .i64) (.pair .bool (.pair (.int .i64) (.pair (.int .i64) (.pair .bool .unit))))))))) }
theorem Yt:aN Tryz.prog 154 Yr:=aN.of_eq (by kernel_rfl) (by kernel_rfl) rfl rfl (aJ (i:=Yr) (s0:=(.arr 17 (.pair (.int .i64) (.pair .bool (.pair (.int .i64) (.pair (.int .i64) (.pair .bool (.pair (.int .i64) (.pair (.int .i64) (.pair .bool .unit)))))))))) rfl rfl rfl rfl)
abbrev Yu:TI:={ desc:=.slice 158,size:=1,bytes:=24,zero:=[.slice none 0 0],iJ:=some (.sl (.pair (.int .i64) (.pair (.int .i64) (.pair (.int .i64) (.pair .bool .unit))))) }
theorem Yv:aN Tryz.prog 155 Yu:=aN.of_eq (by kernel_rfl) (by kernel_rfl) rfl rfl (aJ (i:=Yu) (s0:=(.sl (.pair (.int .i64) (.pair (.int .i64) (.pair (.int .i64) (.pair .bool .unit)))))) rfl rfl rfl rfl)
abbrev Yw:TI:={ desc:=.struct #[dU 151 0,dU 3 1,dU 3 2,dU 4 3],size:=4,bytes:=32,zero:=[.int .i64 0,.int .i64 0,.int .i64 0,.bool false],iJ:=some (.pair (.int .i64) (.pair (.int .i64) (.pair (.int .i64) (.pair .bool .unit)))),zQ:=[.i,.i,.i,.b] }
theorem Yx:aN Tryz.prog 157 Yw:=aN.of_eq (by kernel_rfl) (by kernel_rfl) rfl rfl (aJ (i:=Yw) (s0:=(.pair (.int .i64) (.pair (.int .i64) (.pair (.int .i64) (.pair .bool .unit))))) rfl rfl rfl rfl) (λ_=>by kernel_rfl)
abbrev Yy:TI:={ desc:=.struct #[dU 151 0,dU 3 1,dU 3 2,dU 4 3],size:=4,bytes:=32,zero:=[.int .i64 0,.int .i64 0,.int .i64 0,.bool false],iJ:=some (.pair (.int .i64) (.pair (.int .i64) (.pair (.int .i64) (.pair .bool .unit)))),zQ:=[.i,.i,.i,.b] }
theorem Yz:aN Tryz.prog 158 Yy:=aN.of_eq (by kernel_rfl) (by kernel_rfl) rfl rfl (aJ (i:=Yy) (s0:=(.pair (.int .i64) (.pair (.int .i64) (.pair (.int .i64) (.pair .bool .unit))))) rfl rfl rfl rfl) (λ_=>by kernel_rfl)
abbrev YA:TI:={ desc:=.slice 4,size:=1,bytes:=24,zero:=[.slice none 0 0],iJ:=some (.sl .bool) }
theorem YB:aN Tryz.prog 159 YA:=aN.of_eq (by kernel_rfl) (by kernel_rfl) rfl rfl (aJ (i:=YA) (s0:=(.sl .bool)) rfl rfl rfl rfl)
abbrev YC:TI:={ desc:=.struct #[dU 3 0,dU 3 1],size:=2,bytes:=16,zero:=[.int .i64 0,.int .i64 0],iJ:=some (.pair (.int .i64) (.pair (.int .i64) .unit)),zQ:=[.i,.i] }
theorem YD:aN Tryz.prog 161 YC:=aN.of_eq (by kernel_rfl) (by kernel_rfl) rfl rfl (aJ (i:=YC) (s0:=(.pair (.int .i64) (.pair (.int .i64) .unit))) rfl rfl rfl rfl) (λ_=>by kernel_rfl)
abbrev YE:TI:={ desc:=.struct #[dU 3 0,dU 3 1],size:=2,bytes:=16,zero:=[.int .i64 0,.int .i64 0],iJ:=some (.pair (.int .i64) (.pair (.int .i64) .unit)),zQ:=[.i,.i] }
theorem YF:aN Tryz.prog 162 YE:=aN.of_eq (by kernel_rfl) (by kernel_rfl) rfl rfl (aJ (i:=YE) (s0:=(.pair (.int .i64) (.pair (.int .i64) .unit))) rfl rfl rfl rfl) (λ_=>by kernel_rfl)
abbrev YG:TI:={ desc:=.int .u32,size:=1,bytes:=4,zero:=[.int .u32 0],iJ:=some (.int .u32) }
theorem YH:aN Tryz.prog 167 YG:=aN.of_eq (by kernel_rfl) (by kernel_rfl) rfl rfl (aJ (i:=YG) (s0:=(.int .u32)) rfl rfl rfl rfl)
abbrev YJ:TI:={ desc:=.array 7 4,size:=7,bytes:=7,zero:=[.bool false,.bool false,.bool false,.bool false,.bool false,.bool false,.bool false],iJ:=some (.arr 7 .bool) }
theorem YK:aN Tryz.prog 180 YJ:=aN.of_eq (by kernel_rfl) (by kernel_rfl) rfl rfl (aJ (i:=YJ) (s0:=(.arr 7 .bool)) rfl rfl rfl rfl)
abbrev YL:TI:={ desc:=.struct #[dU 9 0,dU 180 1],size:=8,bytes:=24,zero:=[.string ⟨#[]⟩,.bool false,.bool false,.bool false,.bool false,.bool false,.bool false,.bool false],iJ:=some (.pair .str (.pair (.arr 7 .bool) .unit)) }
theorem YM:aN Tryz.prog 181 YL:=aN.of_eq (by kernel_rfl) (by kernel_rfl) rfl rfl (aJ (i:=YL) (s0:=(.pair .str (.pair (.arr 7 .bool) .unit))) rfl rfl rfl rfl)
abbrev YN:TI:={ desc:=.struct #[dU 9 0,dU 180 1],size:=8,bytes:=24,zero:=[.string ⟨#[]⟩,.bool false,.bool false,.bool false,.bool false,.bool false,.bool false,.bool false],iJ:=some (.pair .str (.pair (.arr 7 .bool) .unit)) }
theorem YO:aN Tryz.prog 182 YN:=aN.of_eq (by kernel_rfl) (by kernel_rfl) rfl rfl (aJ (i:=YN) (s0:=(.pair .str (.pair (.arr 7 .bool) .unit))) rfl rfl rfl rfl)
abbrev YP:TI:={ desc:=.array 22 182,size:=176,bytes:=528,zero:=[.string ⟨#[]⟩,.bool false,.bool false,.bool false,.bool false,.bool false,.bool false,.bool false,.string ⟨#[]⟩,.bool false,.bool false,.bool false,.bool false,.bool false,.bool false,.bool false,.string ⟨#[]⟩,.bool false,.bool false,.bool false,.bool false,.bool false,.bool false,.bool false,.string ⟨#[]⟩,.bool false,.bool false,.bool false,.bool false,.bool false,.bool false,.bool false,.string ⟨#[]⟩,.bool false,.bool false,.bool false,.bool false,.bool false,.bool false,.bool false,.string ⟨#[]⟩,.bool false,.bool false,.bool false,.bool false,.bool false,.bool false,.bool false,.string ⟨#[]⟩,.bool false,.bool false,.bool false,.bool false,.bool false,.bool false,.bool false,.string ⟨#[]⟩,.bool false,.bool false,.bool false,.bool false,.bool false,.bool false,.bool false,.string ⟨#[]⟩,.bool false,.bool false,.bool false,.bool false,.bool false,.bool false,.bool false,.string ⟨#[]⟩,.bool false,.bool false,.bool false,.bool false,.bool false,.bool false,.bool false,.string ⟨#[]⟩,.bool false,.bool false,.bool false,.bool false,.bool false,.bool false,.bool false,.string ⟨#[]⟩,.bool false,.bool false,.bool false,.bool false,.bool false,.bool false,.bool false,.string ⟨#[]⟩,.bool false,.bool false,.bool false,.bool false,.bool false,.bool false,.bool false,.string ⟨#[]⟩,.bool false,.bool false,.bool false,.bool false,.bool false,.bool false,.bool false,.string ⟨#[]⟩,.bool false,.bool false,.bool false,.bool false,.bool false,.bool false,.bool false,.string ⟨#[]⟩,.bool false,.bool false,.bool false,.bool false,.bool false,.bool false,.bool false,.string ⟨#[]⟩,.bool false,.bool false,.bool false,.bool false,.bool false,.bool false,.bool false,.string ⟨#[]⟩,.bool false,.bool false,.bool false,.bool false,.bool false,.bool false,.bool false,.string ⟨#[]⟩,.bool false,.bool false,.bool false,.bool false,.bool false,.bool false,.bool false,.string ⟨#[]⟩,.bool false,.bool false,.bool false,.bool false,.bool false,.bool false,.bool false,.string ⟨#[]⟩,.bool false,.bool false,.bool false,.bool false,.bool false,.bool false,.bool false,.string ⟨#[]⟩,.bool false,.bool false,.bool false,.bool false,.bool false,.bool false,.bool false],iJ:=some (.arr 22 (.pair .str (.pair (.arr 7 .bool) .unit))) }
theorem YQ:aN Tryz.prog 183 YP:=aN.of_eq (by kernel_rfl) (by kernel_rfl) rfl rfl (aJ (i:=YP) (s0:=(.arr 22 (.pair .str (.pair (.arr 7 .bool) .unit)))) rfl rfl rfl rfl)
abbrev YR:TI:={ desc:=.slice 23,size:=1,bytes:=24,zero:=[.slice none 0 0],iJ:=some (.sl (.sl .str)) }
theorem YT:aN Tryz.prog 194 YR:=aN.of_eq (by kernel_rfl) (by kernel_rfl) rfl rfl (aJ (i:=YR) (s0:=(.sl (.sl .str))) rfl rfl rfl rfl)
abbrev YU:TI:={ desc:=.array 4 3,size:=4,bytes:=32,zero:=[.int .i64 0,.int .i64 0,.int .i64 0,.int .i64 0],iJ:=some (.arr 4 (.int .i64)),zQ:=[.i] }
theorem YV:aN Tryz.prog 203 YU:=aN.of_eq (by kernel_rfl) (by kernel_rfl) rfl rfl (aJ (i:=YU) (s0:=(.arr 4 (.int .i64))) rfl rfl rfl rfl) (λ_=>by kernel_rfl)
abbrev YW:TI:={ desc:=.array 7 3,size:=7,bytes:=56,zero:=[.int .i64 0,.int .i64 0,.int .i64 0,.int .i64 0,.int .i64 0,.int .i64 0,.int .i64 0],iJ:=some (.arr 7 (.int .i64)),zQ:=[.i] }
theorem YX:aN Tryz.prog 204 YW:=aN.of_eq (by kernel_rfl) (by kernel_rfl) rfl rfl (aJ (i:=YW) (s0:=(.arr 7 (.int .i64))) rfl rfl rfl rfl) (λ_=>by kernel_rfl)
abbrev YZ:TI:={ desc:=.array 3 3,size:=3,bytes:=24,zero:=[.int .i64 0,.int .i64 0,.int .i64 0],iJ:=some (.arr 3 (.int .i64)),zQ:=[.i] }
theorem Y0:aN Tryz.prog 206 YZ:=aN.of_eq (by kernel_rfl) (by kernel_rfl) rfl rfl (aJ (i:=YZ) (s0:=(.arr 3 (.int .i64))) rfl rfl rfl rfl) (λ_=>by kernel_rfl)
abbrev Y1:TI:={ desc:=.array 10 9,size:=10,bytes:=160,zero:=[.string ⟨#[]⟩,.string ⟨#[]⟩,.string ⟨#[]⟩,.string ⟨#[]⟩,.string ⟨#[]⟩,.string ⟨#[]⟩,.string ⟨#[]⟩,.string ⟨#[]⟩,.string ⟨#[]⟩,.string ⟨#[]⟩],iJ:=some (.arr 10 .str) }
theorem Y2:aN Tryz.prog 214 Y1:=aN.of_eq (by kernel_rfl) (by kernel_rfl) rfl rfl (aJ (i:=Y1) (s0:=(.arr 10 .str)) rfl rfl rfl rfl)
abbrev Y3:TI:={ desc:=.int .u64,size:=1,bytes:=8,zero:=[.int .u64 0],iJ:=some (.int .u64) }
theorem Y4:aN Tryz.prog 217 Y3:=aN.of_eq (by kernel_rfl) (by kernel_rfl) rfl rfl (aJ (i:=Y3) (s0:=(.int .u64)) rfl rfl rfl rfl)
abbrev Y5:TI:={ desc:=.int .u64,size:=1,bytes:=8,zero:=[.int .u64 0],iJ:=some (.int .u64) }
theorem Y6:aN Tryz.prog 230 Y5:=aN.of_eq (by kernel_rfl) (by kernel_rfl) rfl rfl (aJ (i:=Y5) (s0:=(.int .u64)) rfl rfl rfl rfl)
abbrev tis:List (Nat×TI):=[(3,ti3),(4,ti4),(5,ti5),(9,ti9),(21,aiT),(22,aiU),(23,aiV),(24,aiW),(25,aiX),(26,aiY),(27,aiZ),(30,ai0),(31,ai1),(32,ai2),(33,ai3),(34,ai4),(35,ai5),(36,ai6),(37,ai7),(38,ai8),(43,ai9),(44,aja),(46,ajb),(47,ajc),(48,ajd),(49,aje),(52,ajf),(53,ajg),(54,ajh),(55,aji),(56,ajj),(63,ajk),(64,ajl),(65,ajm),(66,ajn),(67,ajo),(75,ajp),(76,ajq),(77,ajr),(81,ajs),(82,ajt),(88,aju),(89,ajv),(90,ajw),(91,ajx),(117,Yg),(118,Yi),(151,Yk),(152,Yn),(153,Yp),(154,Yr),(155,Yu),(157,Yw),(158,Yy),(159,YA),(161,YC),(162,YE),(167,YG),(180,YJ),(181,YL),(182,YN),(183,YP),(194,YR),(203,YU),(204,YW),(206,YZ),(214,Y1),(217,Y3),(230,Y5)]
theorem au:bQ Tryz.prog tis:=⟨aiP,aiQ,aiR,aiS,adt,adu,adv,adw,adx,ady,adz,adA,adB,adC,adD,adE,adF,adG,adH,adI,adJ,adK,adL,adM,adN,adO,adP,adQ,adR,adS,adT,adU,adV,adW,adX,adY,adZ,ad1,ad2,ad3,ad4,ad5,ad6,ad7,ad8,Yh,Yj,Ym,Yo,Yq,Yt,Yv,Yx,Yz,YB,YD,YF,YH,YK,YM,YO,YQ,YT,YV,YX,Y0,Y2,Y4,Y6,trivial⟩
abbrev I6:Sh:=.int .i64
abbrev iR(n:Int):Prop:=mP IntKind.i64 n
abbrev iU:Int:=4294967296
abbrev iN:SC:=SC.v (Value.slice none 0 0)
abbrev v6(n:Int):SC:=.v (.int .i64 n)
abbrev cI(n:Int):SV:=.c (.v (.int .i64 n))
abbrev cB(b:Bool):SV:=.c (.v (.bool b))
abbrev g0(r:ay):Go.jl.Gd×ay:=([],r)
abbrev rE(a b:aZ):Prop:=([]:List ay)=[]/\a=b
abbrev rT(a b:List SV):Prop:=([]:List ay)=[]/\aZ.iq a=aZ.iq b
abbrev qI(a b:Int):Prop:=([]:List ay)=[]/\aZ.one (.c (.v (.int .i64 a)))=aZ.one (.c (.v (.int .i64 b)))
abbrev qB(a b:Bool):Prop:=([]:List ay)=[]/\aZ.one (.c (.v (.bool a)))=aZ.one (.c (.v (.bool b)))
abbrev sm{α:Type} (a:α):Prop:=a=a
def ajy:List (List Bool):=[[true,false,false,false,true,false,false],[true,true,false,false,false,false,false],[true,true,true,false,false,true,false],[false,false,false,false,true,false,false],[false,true,false,false,true,false,false],[false,true,false,false,false,false,false],[false,false,false,false,false,false,false],[true,false,false,true,false,false,true],[false,true,false,true,false,false,true],[true,true,false,true,false,false,true],[true,true,false,true,false,false,true],[true,true,true,true,false,false,true],[false,false,false,false,false,false,false],[true,true,false,true,false,true,true],[false,false,false,true,false,false,false],[false,false,false,true,false,false,false],[true,false,false,true,false,false,false],[false,false,false,true,true,false,false],[false,false,false,true,false,false,false],[false,false,false,true,false,false,false],[true,true,false,true,false,false,false],[false,true,false,false,false,false,false]]
def fieldsD:List ByteArray:=[⟨#[65,78]⟩,⟨#[65,66]⟩,⟨#[70,65,66,67]⟩,⟨#[78]⟩,⟨#[66,78]⟩,⟨#[66]⟩,⟨#[]⟩,⟨#[65,79,82]⟩,⟨#[79,66,82]⟩,⟨#[65,79,66,82]⟩,⟨#[65,79,66,82]⟩,⟨#[65,79,66,67,82]⟩,⟨#[]⟩,⟨#[65,79,70,66,82]⟩,⟨#[79]⟩,⟨#[79]⟩,⟨#[65,79]⟩,⟨#[79,78]⟩,⟨#[79]⟩,⟨#[79]⟩,⟨#[65,79,66]⟩,⟨#[66]⟩]
def Jm:List ByteArray:=[⟨#[97,100,100]⟩,⟨#[115,117,98]⟩,⟨#[109,117,108]⟩,⟨#[97,110,100]⟩,⟨#[111,114]⟩,⟨#[120,111,114]⟩,⟨#[101,113]⟩,⟨#[110,101]⟩,⟨#[108,116]⟩,⟨#[108,101]⟩]
def LV:List (ByteArray×List Bool×Unit):=[(⟨#[99,111,110,115,116]⟩,[true,false,false,false,true,false,false],()),(⟨#[99,111,112,121]⟩,[true,true,false,false,false,false,false],()),(⟨#[99,97,108,99]⟩,[true,true,true,false,false,true,false],()),(⟨#[106,117,109,112]⟩,[false,false,false,false,true,false,false],()),(⟨#[98,114,97,110,99,104]⟩,[false,true,false,false,true,false,false],()),(⟨#[97,115,115,101,114,116]⟩,[false,true,false,false,false,false,false],()),(⟨#[115,116,111,112]⟩,[false,false,false,false,false,false,false],()),(⟨#[108,111,97,100]⟩,[true,false,false,true,false,false,true],()),(⟨#[115,116,111,114,101]⟩,[false,true,false,true,false,false,true],()),(⟨#[115,119,97,112]⟩,[true,true,false,true,false,false,true],()),(⟨#[102,101,116,99,104,97,100,100]⟩,[true,true,false,true,false,false,true],()),(⟨#[99,97,115]⟩,[true,true,true,true,false,false,true],()),(⟨#[102,101,110,99,101]⟩,[false,false,false,false,false,false,false],()),(⟨#[97,119,97,105,116]⟩,[true,true,false,true,false,true,true],()),(⟨#[108,111,99,107]⟩,[false,false,false,true,false,false,false],()),(⟨#[117,110,108,111,99,107]⟩,[false,false,false,true,false,false,false],()),(⟨#[116,114,121,108,111,99,107]⟩,[true,false,false,true,false,false,false],()),(⟨#[119,97,105,116]⟩,[false,false,false,true,true,false,false],()),(⟨#[115,105,103,110,97,108]⟩,[false,false,false,true,false,false,false],()),(⟨#[98,114,111,97,100,99,97,115,116]⟩,[false,false,false,true,false,false,false],()),(⟨#[115,112,97,119,110]⟩,[true,true,false,true,false,false,false],()),(⟨#[106,111,105,110]⟩,[false,true,false,false,false,false,false],())]
abbrev gd0:Nat->Option (Sigma Sh.den):=λg=>match g with
 | 1=>some ⟨.arr 22 (.pair .str (.pair (.arr 7 .bool) .unit)),LV⟩
 | 2=>some ⟨.arr 10 .str,Jm⟩
 | _=>none
abbrev aS:Cx:={ ti:=tis,gd:=gd0 }
abbrev lG:Sh:=.pair (.int .i64) (.pair (.int .i64) (.pair (.int .i64) (.pair (.int .i64) (.pair (.int .i64) (.pair (.int .i64) (.pair (.int .i64) (.pair (.int .i64) .unit)))))))
def use(op:Int) (k:Nat):Bool:=decide (1<=op) && decide (op<=22) && (ajy.getD (op - 1).toNat []).getD k false
def rZ(op:Int):Bool:=decide (1<=op) && decide (op<=22)
def wL(f:Int):ByteArray:=if 1<=f/\f<=10 then Jm.getD (f - 1).toNat ByteArray.empty else ByteArray.empty
abbrev ana:CT:={ ps:=[],pre:=λd=>True,res:=λd=>([.row 9 .str fieldsD],.one (.c (.row 0))) }
abbrev ajz  : Nat->Option (St->jq):=λ_=>none
abbrev qZ:=SV.c (SC.row (0:Nat))
theorem ad9 :
 [ay.row (9:TypeId) Sh.str fieldsD]=[ay.row (9:TypeId) Sh.str [{ data:=#[(65:UInt8),78]:ByteArray },{ data:=#[(65:UInt8),66]:ByteArray },{ data:=#[(70:UInt8),65,66,67]:ByteArray },{ data:=#[(78:UInt8)]:ByteArray },{ data:=#[(66:UInt8),78]:ByteArray },{ data:=#[(66:UInt8)]:ByteArray },{ data:=#[]:ByteArray },{ data:=#[(65:UInt8),79,82]:ByteArray },{ data:=#[(79:UInt8),66,82]:ByteArray },{ data:=#[(65:UInt8),79,66,82]:ByteArray },{ data:=#[(65:UInt8),79,66,82]:ByteArray },{ data:=#[(65:UInt8),79,66,67,82]:ByteArray },{ data:=#[]:ByteArray },{ data:=#[(65:UInt8),79,70,66,82]:ByteArray },{ data:=#[(79:UInt8)]:ByteArray },{ data:=#[(79:UInt8)]:ByteArray },{ data:=#[(65:UInt8),79]:ByteArray },{ data:=#[(79:UInt8),78]:ByteArray },{ data:=#[(79:UInt8)]:ByteArray },{ data:=#[(79:UInt8)]:ByteArray },{ data:=#[(65:UInt8),79,66]:ByteArray },{ data:=#[(66:UInt8)]:ByteArray }]]/\aZ.one qZ=aZ.one qZ:=by
 delta qZ;exact⟨rfl,rfl⟩
theorem Y7:aT aS.gd 206 ana:=
 jD (cx:=aS) (n:=2) (cl:=[]) au trivial Tryz.func206 λd hd=>by
  obtain⟨⟩:=d;exact⟨ajz ,cast (by kernel_rfl) (ad9 )⟩
abbrev anb:CT:={ ps:=[.int .i64],pre:=λd=>True,res:=λd=>([],vB (rZ d.1)) }
theorem aea(op:Int):
 qB (rZ op) (decide (1<=op) && decide (op<=22)):=by
 delta qB;exact⟨rfl,rfl⟩
theorem Y8:aT aS.gd 197 anb:=
 jD (cx:=aS) (n:=9) (cl:=[]) au trivial Tryz.func197 λd hd=>by
  obtain⟨op,⟨⟩⟩:=d;exact⟨λ_=>none,cast (by kernel_rfl) (aea op)⟩
abbrev anc:CT:={ ps:=[.int .i64],pre:=λd=>True,res:=λd=>([],vB (decide (0<=d.1) && decide (d.1 < 8))) }
theorem aeb(r:Int):
 let z1:=decide (0<=r) && decide (r < 8);qB z1 z1:=by
 conv=>zeta
 delta qB;exact⟨rfl,rfl⟩
theorem Y9:aT aS.gd 204 anc:=
 jD (cx:=aS) (n:=9) (cl:=[]) au trivial Tryz.func204 λd hd=>by
  obtain⟨r,⟨⟩⟩:=d;exact⟨λ_=>none,cast (by kernel_rfl) (aeb r)⟩
abbrev ane:CT:={ ps:=[lG],pre:=λd=>True,res:=λd=>([],.one (.dat (.arr 7 (.int .i64)) [d.1.2.1,d.1.2.2.1,d.1.2.2.2.1,d.1.2.2.2.2.1,d.1.2.2.2.2.2.1,d.1.2.2.2.2.2.2.1,d.1.2.2.2.2.2.2.2.1])) }
theorem aec(op a b c obj n fn ord:Int):
 let z1:=[a,b,c,obj,n,fn,ord];rE (aZ.one (SV.dat (Sh.arr 7 I6) z1)) (aZ.one (SV.dat (Sh.arr 7 I6) z1)):=by
 conv=>zeta
 delta rE I6;exact⟨rfl,rfl⟩
theorem Za:aT aS.gd 198 ane:=
 jD (cx:=aS) (n:=18) (cl:=[]) au trivial Tryz.func198 λd hd=>by
  obtain⟨⟨op,a,b,c,obj,n,fn,ord,⟨⟩⟩,⟨⟩⟩:=d;exact⟨λ_=>none,cast (by kernel_rfl) (aec op a b c obj n fn ord)⟩
abbrev anf:CT:={ ps:=[.int .i64],pre:=λd=>True,res:=λd=>([],.one (.c (.v (.string (wL d.1))))) }
theorem aed(f:Int):
 let z1:=aZ.one (SV.c (SC.v (Value.string (wL f))));br (decide (f < 1) || decide (10 < f)) (rE z1 (aZ.one (SV.c (SC.v (Value.string { data:=#[]:ByteArray }))))) (iR (f - 1)/\(0<=f - 1/\f - 1 < (10:Int))/\∀(d:ByteArray),Jm[(f - 1).toNat]?=some d->rE z1 (aZ.one (SV.c (SC.v (Value.string d))))):=by
 conv=>zeta
 delta rE iR;refine ah.2 ⟨λh=>?_,λh=>?_⟩
 .simp only[wz,dH]at h;rw[show wL f=ByteArray.empty from if_neg (by omega)]
  exact⟨rfl,rfl⟩
 .simp only[lX,eH]at h;refine⟨ak.2 (by omega),by omega,λd hd=>⟨rfl,?_⟩⟩
  rw[show wL f=Jm.getD (f - 1).toNat ByteArray.empty from if_pos (by omega),List.getD,hd];rfl
theorem Zb:aT aS.gd 199 anf:=
 jD (cx:=aS) (n:=13) (cl:=[]) au trivial Tryz.func199 λd hd=>by
  obtain⟨f,⟨⟩⟩:=d;exact⟨λ_=>none,cast (by kernel_rfl) (aed f)⟩
abbrev ang:CT:={ ps:=[.int .i64],pre:=λd=>True,res:=λd=>([],.one (.c (.v (.string (wL d.1))))) }
theorem aee(f:Int):
 let z1:=aZ.one (SV.c (SC.v (Value.string (wL f))));br (decide (f=1)) (rE z1 (aZ.one (SV.c (SC.v (Value.string { data:=#[(97:UInt8),100,100]:ByteArray }))))) (br (decide (f=2)) (rE z1 (aZ.one (SV.c (SC.v (Value.string { data:=#[(115:UInt8),117,98]:ByteArray }))))) (br (decide (f=3)) (rE z1 (aZ.one (SV.c (SC.v (Value.string { data:=#[(109:UInt8),117,108]:ByteArray }))))) (br (decide (f=4)) (rE z1 (aZ.one (SV.c (SC.v (Value.string { data:=#[(97:UInt8),110,100]:ByteArray }))))) (br (decide (f=5)) (rE z1 (aZ.one (SV.c (SC.v (Value.string { data:=#[(111:UInt8),114]:ByteArray }))))) (br (decide (f=6)) (rE z1 (aZ.one (SV.c (SC.v (Value.string { data:=#[(120:UInt8),111,114]:ByteArray }))))) (br (decide (f=7)) (rE z1 (aZ.one (SV.c (SC.v (Value.string { data:=#[(101:UInt8),113]:ByteArray }))))) (br (decide (f=8)) (rE z1 (aZ.one (SV.c (SC.v (Value.string { data:=#[(110:UInt8),101]:ByteArray }))))) (br (decide (f=9)) (rE z1 (aZ.one (SV.c (SC.v (Value.string { data:=#[(108:UInt8),116]:ByteArray }))))) (br (decide (f=10)) (rE z1 (aZ.one (SV.c (SC.v (Value.string { data:=#[(108:UInt8),101]:ByteArray }))))) (rE z1 (aZ.one (SV.c (SC.v (Value.string { data:=#[]:ByteArray })))))))))))))):=by
 conv=>zeta
 delta rE
 by_cases h:1<=f/\f<=10
 .have:f=1\/f=2\/f=3\/f=4\/f=5\/f=6\/f=7\/f=8\/f=9\/f=10:=by omega
  rcases this with rfl | rfl | rfl | rfl | rfl | rfl | rfl | rfl | rfl | rfl<;>exact⟨rfl,rfl⟩
 .have e:wL f=ByteArray.empty:=if_neg h;rw[e];rw[show decide (f=1)=false from yh (by omega)]
  rw[show decide (f=2)=false from yh (by omega)]
  rw[show decide (f=3)=false from yh (by omega)]
  rw[show decide (f=4)=false from yh (by omega)]
  rw[show decide (f=5)=false from yh (by omega)]
  rw[show decide (f=6)=false from yh (by omega)]
  rw[show decide (f=7)=false from yh (by omega)]
  rw[show decide (f=8)=false from yh (by omega)]
  rw[show decide (f=9)=false from yh (by omega)]
  rw[show decide (f=10)=false from yh (by omega)]
  exact⟨rfl,rfl⟩
theorem Zc:aT aS.gd 205 ang:=
 jD (cx:=aS) (n:=24) (cl:=[]) au trivial Tryz.func205 λd hd=>by
  obtain⟨f,⟨⟩⟩:=d;exact⟨λ_=>none,cast (by kernel_rfl) (aee f)⟩
def gI(op c:Int):Bool:=decide (1<=op) && decide (op<=22) && ((fieldsD.getD (op - 1).toNat ByteArray.empty).data.toList.any λb=>decide ((b.toNat:Int)=c))
abbrev anh:CT:={ ps:=[.int .i64,.int .u8],pre:=λd=>True,res:=λd=>([],vB (gI d.1 d.2.1)) }
abbrev ajA(op c:Int):Nat->Option (St->jq):=λk=>match k with
 | 5=>some λs=>.inv { α:=Nat,slots:=λk=>[(6,.c (.v (.int .i64 k)))],res:=λ_=>[],inv:=λk=>k<=(XQ s 5).size/\∀j,j < k->∀b,(XQ s 5)[j]?=some b->¬((b.toNat:Int)=c),meas:=λk=>(XQ s 5).size - k }
 | _=>none
theorem aef(op c:Int):
 let z1:=λ(x:Nat) (d:ByteArray)=>(x<=d.size/\∀(j:Nat),j < x->∀(b:UInt8),d[j]?=some b->¬(b.toNat:Int)=c);let z2:=[g0 (ay.row 9 Sh.str fieldsD)];br (decide (op < 1) || decide (22 < op)) (qB (gI op c) false) (True/\iR (op - 1)/\(0<=op - 1/\op - 1 < (22:Int))/\(op - 1).toNat < 22/\∀(d:ByteArray),fieldsD[(op - 1).toNat]?=some d->(∃x,(z1 x d)/\(cI 0=cI (x:Int)/\True)/\sm z2)/\∀(x:Nat),(z1 x d)->br (decide ((x:Int) < (d.size:Int))) ((0<=(x:Int)/\(x:Int) < (d.size:Int))/\∀(u:UInt8),d[(x:Int).toNat]?=some u->br (decide ((u.toNat:Int)=c)) (qB (gI op c) true) (iR ((x:Int)+(1:Int))/\∃x',(z1 x' d)/\(cI ((x:Int)+(1:Int))=cI (x':Int)/\True)/\sm z2/\d.size - x' < d.size - x)) (qB (gI op c) false)):=by
 conv=>zeta
 delta cI g0 qB sm iR;refine ah.2 ⟨λh=>?_,λh=>?_⟩
 .simp only[wz,dH]at h;have:gI op c=false:=by
   unfold gI
   by_cases h1:1<=op<;>by_cases h2:op<=22<;>simp[h1,h2]
   omega
  rw[this];exact⟨rfl,rfl⟩
 .simp only[lX,eH]at h;refine⟨trivial,ak.2 (by omega),by omega,by omega,λd hd=>⟨⟨0,⟨by omega,λj hj=>by omega⟩,⟨rfl,trivial⟩,rfl⟩,λx hx=>?_⟩⟩
  have e:gI op c=d.data.toList.any λb=>decide ((b.toNat:Int)=c):=by
   unfold gI;rw[List.getD,hd];simp[show 1<=op by omega,show op<=22 by omega]
  have hs:d.size<=9:=(show∀d∈fieldsD,d.size<=9 by decide) d (ig hd)
  have get:∀j:Nat,d[j]?=d.data.toList[j]?:=aiN d;refine ah.2 ⟨λiO=>⟨by simp only[dH]at iO;omega,λu hu=>ah.2 ⟨λhc=>?_,λhc=>?_⟩⟩,λhge=>?_⟩
  .simp only[dH]at hc;have hm:u∈d.data.toList:=ig (i:=x) (by rw[<-get];simpa using hu)
   rw[e,J9.2 ⟨u,hm,by simpa using hc⟩]
   exact⟨rfl,rfl⟩
  .simp only[eH]at hc;simp only[dH]at iO;refine⟨ak.2 (by omega),x+1,⟨by omega,λj hj b hb=>?_⟩,⟨by simp,trivial⟩,rfl,by omega⟩
   by_cases hjx:j=x
   .subst hjx;have:some u=some b:=by rw[<-hu,<-hb];simp
    cases this;exact hc
   .exact hx.2 j (by omega) b hb
  .simp only[eH]at hge;have:gI op c=false:=by
    rw[e,TV];intro b hb;obtain⟨j,hj⟩:=yg hb;have hj':j < d.data.toList.length:=(A8.1 hj).1;have hsz:d.data.toList.length=d.size:=by cases d;simp[ByteArray.size]
    simpa using hx.2 j (by omega) b (by rw[get];exact hj)
   rw[this];exact⟨rfl,rfl⟩
theorem Zd:aT aS.gd 177 anh:=
 jD (cx:=aS) (n:=29) (cl:=[(206,ana)]) au ⟨Y7,trivial⟩ Tryz.func177 λd hd=>by
  obtain⟨op,c,⟨⟩⟩:=d;exact⟨ajA op c,cast (by kernel_rfl) (aef op c)⟩
def Vf(r:Int):Bool:=decide (0<=r) && decide (r < 8)
def qw(op a b c obj n fn ord:Int):Int:=
 if rZ op=false then 8 else
 if(!use op 0 && a != 0 || !use op 1 && b != 0 || !use op 2 && c != 0 || !use op 3 && obj != 0 || !use op 4 && n != 0 || !use op 5 && fn != 0 || !use op 6 && ord != 0)=true then 9 else
 if(!Vf a || !Vf b || !Vf c)=true then 10 else
 if(decide (ord < 0) || decide (2 < ord))=true then 13 else
 if(use op 5 && decide (wL fn=(⟨#[]⟩:ByteArray)))=true then 8 else
 if(decide (op=1) && (decide (n < -2147483648) || decide (2147483647 < n)))=true then 2 else 0
theorem LW{op:Int}{nm:ByteArray}{us:List Bool}{u:Unit} (hb:1<=op/\op<=22) (hd:LV[(op - 1).toNat]?=some (nm,us,u)):
 us=[use op 0,use op 1,use op 2,use op 3,use op 4,use op 5,use op 6]:=by
 have key:∀k:Fin 22,(LV[k.1]?).map (λr=>r.2.1)=some ([0,1,2,3,4,5,6].map λj=>(ajy.getD k.1 []).getD j false):=by decide
 have h1:=key ⟨(op - 1).toNat,by omega⟩
 simp only at h1;rw[hd]at h1;simp only[VI,A94]at h1;rw[h1];simp[use,hb.1,hb.2]
abbrev ajB:CT:={ ps:=[lG],pre:=λd=>True,res:=λd=>([],.one (.c (.v (.int .i64 (qw d.1.1 d.1.2.1 d.1.2.2.1 d.1.2.2.2.1 d.1.2.2.2.2.1 d.1.2.2.2.2.2.1 d.1.2.2.2.2.2.2.1 d.1.2.2.2.2.2.2.2.1))))) }
abbrev ajC(op a b c obj n fn ord:Int):Nat->Option (St->jq):=λk=>match k with
 | 5=>some λ_=>.Ee 8
 | 11=>some λ_=>.Ee 4
 | _=>none
theorem aeg(op a b c obj n fn ord:Int):
 let z11:=qw op a b c obj n fn ord;let z8:=qI z11 (8:Int);let z12:=[a,b,c,obj,n,fn,ord];let z2:=(0:Int)<=(0:Int)/\(0:Int) < (7:Int);let z10:=λ(nS:Bool) (dI:Int)=>!nS && !decide (dI=(0:Int));let z9:=qI z11 (9:Int);let z3:=(0:Int)<=(1:Int)/\(1:Int) < (7:Int);let z4:=(0:Int)<=(2:Int)/\(2:Int) < (7:Int);let z5:=(0:Int)<=(5:Int)/\(5:Int) < (7:Int);let z6:=(0:Int)<=(6:Int)/\(6:Int) < (7:Int);let z1:=λ(aeh:Bool) (Ze:Int)=>aeh && (decide (Ze < (0:Int)) || decide (8<=Ze));let z7:=qI z11 (10:Int);True/\br (!rZ op) z8 (iR (op - 1)/\(0<=op - 1/\op - 1 < (22:Int))/\∀(d:ByteArray×((Sh.arr 7 Sh.bool).pair Sh.unit).den),LV[(op - 1).toNat]?=some d->True/\((0:Int)<=(0:Int)/\0 < (z12.length:Int))/\∀(dI:Int),z12[0]?=some dI->z2/\0 < 7/\∀(nS:Bool),(d.snd.fst)[0]?=some nS->br (z10 nS dI) z9 (iR (1:Int)/\((0:Int)<=(1:Int)/\1 < (z12.length:Int))/\∀(d_3:Int),z12[1]?=some d_3->z3/\1 < 7/\∀(d_4:Bool),(d.snd.fst)[1]?=some d_4->br (z10 d_4 d_3) z9 (iR (2:Int)/\((0:Int)<=(2:Int)/\2 < (z12.length:Int))/\∀(d_5:Int),z12[2]?=some d_5->z4/\2 < 7/\∀(d_6:Bool),(d.snd.fst)[2]?=some d_6->br (z10 d_6 d_5) z9 (iR (3:Int)/\((0:Int)<=(3:Int)/\3 < (z12.length:Int))/\∀(d_7:Int),z12[3]?=some d_7->((0:Int)<=(3:Int)/\(3:Int) < (7:Int))/\3 < 7/\∀(d_8:Bool),(d.snd.fst)[3]?=some d_8->br (z10 d_8 d_7) z9 (iR (4:Int)/\((0:Int)<=(4:Int)/\4 < (z12.length:Int))/\∀(d_9:Int),z12[4]?=some d_9->((0:Int)<=(4:Int)/\(4:Int) < (7:Int))/\4 < 7/\∀(ank:Bool),(d.snd.fst)[4]?=some ank->br (z10 ank d_9) z9 (iR (5:Int)/\((0:Int)<=(5:Int)/\5 < (z12.length:Int))/\∀(anl:Int),z12[5]?=some anl->z5/\5 < 7/\∀(anm:Bool),(d.snd.fst)[5]?=some anm->br (z10 anm anl) z9 (iR (6:Int)/\((0:Int)<=(6:Int)/\6 < (z12.length:Int))/\∀(ano:Int),z12[6]?=some ano->z6/\6 < 7/\∀(anp:Bool),(d.snd.fst)[6]?=some anp->br (z10 anp ano) z9 (iR (7:Int)/\((0:Int)<=(0:Int)/\0 < (↑[a,b,c].length:Int))/\∀(Ze:Int),[a,b,c][0]?=some Ze->z2/\0 < 7/\∀(aeh:Bool),(d.snd.fst)[0]?=some aeh->br (z1 aeh Ze) z7 (iR (1:Int)/\((0:Int)<=(1:Int)/\1 < (↑[a,b,c].length:Int))/\∀(anq:Int),[a,b,c][1]?=some anq->z3/\1 < 7/\∀(anr:Bool),(d.snd.fst)[1]?=some anr->br (z1 anr anq) z7 (iR (2:Int)/\((0:Int)<=(2:Int)/\2 < (↑[a,b,c].length:Int))/\∀(ant:Int),[a,b,c][2]?=some ant->z4/\2 < 7/\∀(anu:Bool),(d.snd.fst)[2]?=some anu->br (z1 anu ant) z7 (iR (3:Int)/\z6/\6 < 7/\∀(anv:Bool),(d.snd.fst)[6]?=some anv->br (anv && (decide (ord < 0) || decide (2 < ord))) (qI z11 (13:Int)) (z5/\5 < 7/\∀(ajD:Bool),(d.snd.fst)[5]?=some ajD->(ajD=true->True)/\br (ajD && decide (wL fn={ data:=#[]:ByteArray })) z8 (br (decide (op=1) && (decide (n < (-2147483648)) || decide (2147483647 < n))) (qI z11 (2:Int)) (qI z11 (0:Int))))))))))))))):=by
 conv=>zeta
 delta qI iR;refine⟨trivial,ah.2 ⟨λh=>?_,λh=>?_⟩⟩
 .have hk:rZ op=false:=by simpa using h
  rw[show qw op a b c obj n fn ord=8 by simp[qw,hk]]
  exact⟨rfl,rfl⟩
 .have hk:rZ op=true:=by simpa using h
  have hb:1<=op/\op<=22:=by simpa[rZ]using hk
  refine⟨ak.2 (by omega),by omega,λd hd=>?_⟩
  obtain⟨nm,us,⟨⟩⟩:=d;have hu:=LW hb hd;subst hu;clear hd;simp only[A99,aco,A94,forall_eq',ah,ak,wS,J3,true_and,aZ.one.injEq,SV.c.injEq,SC.v.injEq,Value.int.injEq,qw,hk,Vf];generalize use op 0=u0;generalize use op 1=u1;generalize use op 2=u2;generalize use op 3=u3;generalize use op 4=u4;generalize use op 5=u5;generalize use op 6=u6
  repeat' (first | apply And.intro | intro _)
  all_goals first | omega | decide | skip
  all_goals simp_all
  all_goals grind
theorem LX:aT aS.gd 168 ajB:=
 jD (cx:=aS) (n:=89) (cl:=[(197,anb),(198,ane),(199,anf)]) au ⟨Y8,Za,Zb,trivial⟩ Tryz.func168 λd hd=>by
  obtain⟨⟨op,a,b,c,obj,n,fn,ord,⟨⟩⟩,⟨⟩⟩:=d;exact⟨ajC op a b c obj n fn ord,cast (by kernel_rfl) (aeg op a b c obj n fn ord)⟩
theorem aei(op:Int):gI op 65=use op 0/\gI op 66=use op 1/\gI op 67=use op 2/\gI op 79=use op 3/\gI op 78=use op 4/\gI op 70=use op 5/\gI op 82=use op 6:=by
 by_cases hb:1<=op/\op<=22
 .have key:∀k:Fin 22,([65,66,67,79,78,70,82].map λc:Int=>(fieldsD.getD k.1 ByteArray.empty).data.toList.any λb=>decide ((b.toNat:Int)=c))=[0,1,2,3,4,5,6].map λj=>(ajy.getD k.1 []).getD j false:=by decide
  have h1:=key ⟨(op - 1).toNat,by omega⟩
  simp only[TP,List.map_nil,List.cons.injEq,and_true]at h1;obtain⟨h1,h2,h3,h4,h5,h6,h7⟩:=h1;simp only[gI,use,hb.1,hb.2,decide_true,FB,h1,h2,h3,h4,h5,h6,h7,and_self]
 .have:(decide (1<=op) && decide (op<=22))=false:=by simp only[A70,eH];omega
  simp only[gI,use,this,Bool.false_and,and_self]
abbrev anw:CT:={ ps:=[lG],pre:=λd=>True,res:=λd=>([],.one (.c (.v (.int .i64 (qw d.1.1 d.1.2.1 d.1.2.2.1 d.1.2.2.2.1 d.1.2.2.2.2.1 d.1.2.2.2.2.2.1 d.1.2.2.2.2.2.2.1 d.1.2.2.2.2.2.2.2.1))))) }
theorem aej(op a b c obj n fn ord:Int):
 let z4:=qw op a b c obj n fn ord;let z1:=qI z4 (8:Int);let z2:=decide (0<=a) && decide (a < 8);let z3:=decide (0<=b) && decide (b < 8);br (decide (op < 1) || decide (22 < op)) z1 (True/\((!(!gI op (65:Int) && !decide (a=0)))=true->True)/\((!(!gI op (65:Int) && !decide (a=0) || !gI op (66:Int) && !decide (b=0)))=true->True)/\((!(!gI op (65:Int) && !decide (a=0) || !gI op (66:Int) && !decide (b=0) || !gI op (67:Int) && !decide (c=0)))=true->True)/\((!(!gI op (65:Int) && !decide (a=0) || !gI op (66:Int) && !decide (b=0) || !gI op (67:Int) && !decide (c=0) || !gI op (79:Int) && !decide (obj=0)))=true->True)/\((!(!gI op (65:Int) && !decide (a=0) || !gI op (66:Int) && !decide (b=0) || !gI op (67:Int) && !decide (c=0) || !gI op (79:Int) && !decide (obj=0) || !gI op (78:Int) && !decide (n=0)))=true->True)/\((!(!gI op (65:Int) && !decide (a=0) || !gI op (66:Int) && !decide (b=0) || !gI op (67:Int) && !decide (c=0) || !gI op (79:Int) && !decide (obj=0) || !gI op (78:Int) && !decide (n=0) || !gI op (70:Int) && !decide (fn=0)))=true->True)/\br (!gI op (65:Int) && !decide (a=0) || !gI op (66:Int) && !decide (b=0) || !gI op (67:Int) && !decide (c=0) || !gI op (79:Int) && !decide (obj=0) || !gI op (78:Int) && !decide (n=0) || !gI op (70:Int) && !decide (fn=0) || !gI op (82:Int) && !decide (ord=0)) (qI z4 (9:Int)) (True/\((!!z2)=true->True)/\((!(!z2 || !z3))=true->True)/\br (!z2 || !z3 || !(decide (0<=c) && decide (c < 8))) (qI z4 (10:Int)) (br (decide (ord < 0) || decide (2 < ord)) (qI z4 (13:Int)) (True/\(gI op 70=true->True)/\br (gI op (70:Int) && decide (wL fn={ data:=#[]:ByteArray })) z1 (br (decide (op=1) && (decide (n < (-2147483648)) || decide (2147483647 < n))) (qI z4 (2:Int)) (qI z4 (0:Int))))))):=by
 conv=>zeta
 delta qI;obtain⟨e0,e1,e2,e3,e4,e5,e6⟩:=aei op;rw[e0,e1,e2,e3,e4,e5,e6];simp only[ah,ak,true_and,aZ.one.injEq,SV.c.injEq,SC.v.injEq,Value.int.injEq,qw,rZ,Vf];generalize use op 0=u0;generalize use op 1=u1;generalize use op 2=u2;generalize use op 3=u3;generalize use op 4=u4;generalize use op 5=u5;generalize use op 6=u6
 repeat' (first | apply And.intro | intro _)
 all_goals first | trivial | omega | skip
 all_goals first | grind | (simp_all<;>grind)
theorem Zf:aT aS.gd 176 anw:=
 jD (cx:=aS) (n:=132) (cl:=[(177,anh),(204,anc),(205,ang)]) au ⟨Zd,Y9,Zc,trivial⟩ Tryz.func176 λd hd=>by
  obtain⟨⟨op,a,b,c,obj,n,fn,ord,⟨⟩⟩,⟨⟩⟩:=d;exact⟨λ_=>none,cast (by kernel_rfl) (aej op a b c obj n fn ord)⟩
def dP(l:List Int) (x:Int):Bool:=l.any λy=>decide (y=x)
def zl(l:List Int) (x:Int):Nat:=(l.takeWhile λy=>decide (y < x)).length
def vX(l:List Int) (x:Int):List Int:=l.take (zl l x)++[x]++l.drop (zl l x)
def bD(l:List Int):List Int:=l.foldl (λo x=>if dP o x then o else vX o x) []
theorem EI(l:List Int) (x:Int):(vX l x).length=l.length+1:=by
 simp only[vX,ku,kV,yc,wS,J3];omega
theorem G8(l:List Int):(bD l).length<=l.length:=by
 have:∀(l o:List Int),(l.foldl (λo x=>if dP o x then o else vX o x) o).length<=o.length+l.length:=by
  intro l
  induction l with
  | nil=>intro o;simp
  | cons x l ih=>
    intro o;simp only[Ic,wS];refine o8 (ih _) ?_;split
    .omega
    .rw[EI];omega
 have h:=this l [];rw[J3,Dh]at h;exact h
theorem EJ{k:Nat}{d:Int} (hd:l[k]?=some d):bD (l.take (k+1))=if dP (bD (l.take k)) d then bD (l.take k) else vX (bD (l.take k)) d:=by
 rw[NJ,hd];unfold bD;rw[acw,List.foldl_append];rfl
def SS(l:List Int):Prop:=l.Pairwise (· < ·)
theorem Pm:∀{l m:List Int},SS l->SS m->(∀x,x∈l↔x∈m)->l=m
 | [],[],_,_,_=>rfl
 | [],y :: m,_,_,h=>by have:=(h y).2 (by simp);simp at this
 | x :: l,[],_,_,h=>by have:=(h x).1 (by simp);simp at this
 | x :: l,y :: m,hl,hm,h=>by
   obtain⟨h1,h2⟩:=A89.1 hl;obtain⟨h3,h4⟩:=A89.1 hm;have hxy:x=y:=by
    have a:=(h x).1 (by simp)
    have b:=(h y).2 (by simp)
    rcases mY.1 a with a | a
    .exact a
    .rcases mY.1 b with b | b
     .exact b.symm
     .have:=h3 x a;have:=h1 y b;omega
   subst hxy
   congr 1
   refine Pm h2 h4 λz=>?_
   have hz:=h z;simp only[mY]at hz;constructor
   .intro hh;rcases hz.1 (.inr hh) with rfl | h5
    .have:=h1 z hh;omega
    .exact h5
   .intro hh;rcases hz.2 (.inr hh) with rfl | h5
    .have:=h3 z hh;omega
    .exact h5
theorem oM{x:Int}:dP l x=true↔x∈l:=by
 unfold dP;rw[J9];constructor
 .rintro⟨y,h1,h2⟩;simp only[dH]at h2;subst h2;exact h1
 .intro h;exact⟨x,h,by simp⟩
theorem oN{x:Int}:dP l x=false↔x∉l:=by
 rw[<-oM];simp
theorem ajE(l:List Int) (x:Int):l.take (zl l x)=l.takeWhile λy=>decide (y < x):=by
 unfold zl
 induction l with
 | nil=>rfl
 | cons a l ih=>
   simp only[TT];split
   .simp[ih]
   .simp
theorem ajF(l:List Int) (x:Int):l.drop (zl l x)=l.dropWhile λy=>decide (y < x):=by
 unfold zl
 induction l with
 | nil=>rfl
 | cons a l ih=>
   simp only[TT,List.dropWhile_cons];split
   .simp[ih]
   .simp
theorem Ro:∀{l:List Int}{x:Int},SS l->∀y∈l.dropWhile (λy=>decide (y < x)),x<=y
 | [],_,_,y,h=>by simp at h
 | a :: l,x,hl,y,h=>by
   obtain⟨h1,h2⟩:=A89.1 hl;simp only[List.dropWhile_cons]at h;split at h
   .exact Ro h2 y h
   .rename_i hn;simp only[dH]at hn;rcases mY.1 h with rfl | h
    .omega
    .have:=h1 y h;omega
theorem ahh:∀{l:List Int}{x:Int},∀y∈l.takeWhile (λy=>decide (y < x)),y < x
 | [],_,y,h=>by simp at h
 | a :: l,x,y,h=>by
   simp only[TT]at h;split at h
   .rename_i hn;simp only[dH]at hn;rcases mY.1 h with rfl | h
    .exact hn
    .exact ahh y h
   .simp at h
theorem ajG{x:Int} (hl:SS l) (hx:x∉l):SS (vX l x):=by
 unfold vX SS;rw[ajE,ajF];have hp:SS (l.takeWhile (λy=>decide (y < x))++l.dropWhile (λy=>decide (y < x))):=by rw[A92];exact hl
 obtain⟨p1,p2,p3⟩:=TS.1 hp;rw[zW,TS];refine⟨p1,?_,?_⟩
 .rw[ahK,A89];refine⟨λy hy=>?_,p2⟩
  have h1:=Ro hl y hy;have h2:y≠x:=λe=>hx (by rw[<-e];rw[<-A92 (p:=λy=>decide (y < x)) (l:=l)];exact ahL _ hy)
  omega
 .intro a ha b hb;rw[ahK]at hb;rcases mY.1 hb with rfl | hb
  .exact ahh a ha
  .exact p3 a ha b hb
theorem CB{x y:Int}:y∈vX l x↔y=x\/y∈l:=by
 unfold vX;rw[Fv,Fv,A82]
 conv=>rhs;rw[<-VG (zl l x) l,Fv]
 constructor
 .rintro((h | h) | h)
  .exact .inr (.inl h)
  .exact .inl h
  .exact .inr (.inr h)
 .rintro(h | h | h)
  .exact .inl (.inr h)
  .exact .inl (.inl h)
  .exact .inr h
theorem CG:∀(l o:List Int),SS o->SS (l.foldl (λo x=>if dP o x then o else vX o x) o)/\∀y,y∈l.foldl (λo x=>if dP o x then o else vX o x) o↔y∈o\/y∈l
 | [],o,h=>⟨h,λy=>by simp⟩
 | x :: l,o,h=>by
   simp only[Ic];cases hx:dP o x with
   | true=>
     simp only[if_true];obtain⟨h1,h2⟩:=CG l o h;refine⟨h1,λy=>?_⟩
     rw[h2,mY];have:=oM.1 hx;constructor
     .rintro(h | h)
      .exact .inl h
      .exact .inr (.inr h)
     .rintro(h | rfl | h)
      .exact .inl h
      .exact .inl this
      .exact .inr h
   | false=>
     simp only[acv,NU];obtain⟨h1,h2⟩:=CG l (vX o x) (ajG h (oN.1 hx));refine⟨h1,λy=>?_⟩
     rw[h2,mY,CB];constructor
     .rintro((h | h) | h)
      .exact .inr (.inl h)
      .exact .inl h
      .exact .inr (.inr h)
     .rintro(h | h | h)
      .exact .inl (.inr h)
      .exact .inl (.inl h)
      .exact .inr h
theorem zn(l:List Int):SS (bD l):=(CG l [] List.Pairwise.nil).1
theorem zo{x:Int}:x∈bD l↔x∈l:=by
 have:=(CG l [] List.Pairwise.nil).2 x;simpa[bD]using this
theorem LY{d:Array Int} (hs:∀i j,i < j->j < d.size->d[i]!<=d[j]!):∀m,m<=d.size ->
 SS (Lib.compactUpTo d m)/\(∀x,x∈Lib.compactUpTo d m↔∃j < m,d[j]! = x)
 | 0,_=>⟨by simp[Lib.compactUpTo,SS],λx=>by simp[Lib.compactUpTo]⟩
 | m+1,hm=>by
   obtain⟨h1,h2⟩:=LY hs m (by omega)
   rw[Lib.compactUpTo_succ];have le:∀x∈Lib.compactUpTo d m,∃j < m,d[j]! = x:=λx hx=>(h2 x).1 hx
   cases hk:Lib.keeps d m with
   | true=>
     simp only[if_true];constructor
     .refine TS.2 ⟨h1,by simp,λa ha b hb=>?_⟩
      simp only[A82]at hb;subst hb;obtain⟨j,hj,rfl⟩:=le a ha;have h3:m≠0:=by omega
      simp only[Lib.keeps,dH,h3,false_or]at hk;have h4:=hs (m - 1) m (by omega) (by omega)
      by_cases hj2:j=m - 1
      .subst hj2;omega
      .have:=hs j (m - 1) (by omega) (by omega);omega
     .intro x;rw[Fv,h2,A82];constructor
      .rintro(⟨j,hj,e⟩ | e)
       .exact⟨j,by omega,e⟩
       .exact⟨m,by omega,e.symm⟩
      .rintro⟨j,hj,e⟩
       by_cases hj2:j=m
       .subst hj2;exact .inr e.symm
       .exact .inl ⟨j,by omega,e⟩
   | false=>
     simp only[acv,NU,Ql];refine⟨h1,λx=>?_⟩
     rw[h2];have h3:m≠0/\d[m]! = d[m - 1]!:=by simpa[Lib.keeps]using hk
     constructor
     .rintro⟨j,hj,e⟩;exact⟨j,by omega,e⟩
     .rintro⟨j,hj,e⟩
      by_cases hj2:j=m
      .subst hj2;exact⟨j - 1,by omega,by rw[<-h3.2];exact e⟩
      .exact⟨j,by omega,e⟩
theorem LZ(l:List Int):(jB l).Pairwise (·<=·):=by
 have h:(jB l).Pairwise (λx y=>decide (x<=y)=true):=List.pairwise_mergeSort (λa b c h1 h2=>by simp at *;omega) (λa b=>by simp;omega) l
 exact h.imp λh=>by simpa using h
theorem Zg{x:Int}:x∈jB l↔x∈l:=(List.mergeSort_perm l _).mem_iff
theorem L6(l:List Int):SS (Lib.compact (jB l))/\∀x,x∈Lib.compact (jB l)↔x∈l:=by
 have hs:∀i j,i < j->j < (jB l).toArray.size->(jB l).toArray[i]!<=(jB l).toArray[j]!:=by
  intro i j hij hj;have hj':j < (jB l).length:=by simpa using hj
  have:=ahH.1 (LZ l) i j (by omega) hj' hij
  rw[getElem!_pos _ i (by simp;omega),getElem!_pos _ j (by simpa using hj)]
  simpa using this
 obtain⟨h1,h2⟩:=LY hs (jB l).length (by simp)
 refine⟨h1,λx=>?_⟩
 show x∈Lib.compactUpTo (jB l).toArray (jB l).length↔_;rw[h2,<-Zg,List.mem_iff_getElem];constructor
 .rintro⟨j,hj,e⟩;exact⟨j,hj,by rw[getElem!_pos _ j (by simpa using hj)]at e;simpa using e⟩
 .rintro⟨j,hj,e⟩;exact⟨j,hj,by rw[getElem!_pos _ j (by simpa using hj)];simpa using e⟩
theorem aek(l:List Int):Lib.compact (jB l)=bD l:=
 Pm (L6 l).1 (zn l) λx=>by rw[(L6 l).2,zo]
end Go.Proofs.YtjhenjhcbcalpaaGreatDoor
namespace Go.Proofs
open Go.Shelf
def Tryz.lays189_ren:Go.Shelf.Ren:=⟨fun | 189=>200 | 125=>213 | 257=>212 | 128=>225 | 129=>226 | 294=>216 | 295=>217 | 296=>218 | 297=>219 | 298=>220 | 299=>221 | 216=>222 | 300=>223 | 301=>224 | 328=>227 | 329=>228 | 330=>229 | 331=>230 | 332=>231 | 215=>232 | 343=>233 | n=>n,fun | 28=>31 | 3=>3 | 46=>217 | 0=>0 | 51=>167 | 53=>230 | 4=>4 | 183=>222 | 182=>221 | 131=>95 | 5=>5 | 9=>9 | 218=>231 | 222=>235 | 228=>237 | 229=>165 | n=>n,fun | n=>n⟩
theorem Tryz.lays189:Go.Proofs.Lays.n189 Tryz.prog Tryz.lays189_ren:={
 mixed:=by kernel_rfl
 f125:=Tryz.func213.trans (rG some (by kernel_rfl))
 f128:=Tryz.func225.trans (rG some (by kernel_rfl))
 f129:=Tryz.func226.trans (rG some (by kernel_rfl))
 f189:=Tryz.func200.trans (rG some (by kernel_rfl))
 f215:=Tryz.func232.trans (rG some (by kernel_rfl))
 f216:=Tryz.func222.trans (rG some (by kernel_rfl))
 f257:=Tryz.func212.trans (rG some (by kernel_rfl))
 f294:=Tryz.func216.trans (rG some (by kernel_rfl))
 f295:=Tryz.func217.trans (rG some (by kernel_rfl))
 f296:=Tryz.func218.trans (rG some (by kernel_rfl))
 f297:=Tryz.func219.trans (rG some (by kernel_rfl))
 f298:=Tryz.func220.trans (rG some (by kernel_rfl))
 f299:=Tryz.func221.trans (rG some (by kernel_rfl))
 f300:=Tryz.func223.trans (rG some (by kernel_rfl))
 f301:=Tryz.func224.trans (rG some (by kernel_rfl))
 f328:=Tryz.func227.trans (rG some (by kernel_rfl))
 f329:=Tryz.func228.trans (rG some (by kernel_rfl))
 f330:=Tryz.func229.trans (rG some (by kernel_rfl))
 f331:=Tryz.func230.trans (rG some (by kernel_rfl))
 f332:=Tryz.func231.trans (rG some (by kernel_rfl))
 f343:=Tryz.func233.trans (rG some (by kernel_rfl))
 t0:=Tryz.underlying0
 a0:=Tryz.isAgg0
 z0:=Tryz.sizeOf0
 v0:=Tryz.zeroValue0
 t3:=Tryz.underlying3
 a3:=Tryz.isAgg3
 z3:=Tryz.sizeOf3
 v3:=Tryz.zeroValue3
 t4:=Tryz.underlying4
 a4:=Tryz.isAgg4
 z4:=Tryz.sizeOf4
 v4:=Tryz.zeroValue4
 t5:=Tryz.underlying5
 a5:=Tryz.isAgg5
 z5:=Tryz.sizeOf5
 v5:=Tryz.zeroValue5
 t9:=Tryz.underlying9
 a9:=Tryz.isAgg9
 z9:=Tryz.sizeOf9
 v9:=Tryz.zeroValue9
 t28:=Tryz.underlying31
 a28:=Tryz.isAgg31
 z28:=Tryz.sizeOf31
 v28:=Tryz.zeroValue31
 t46:=Tryz.underlying217
 a46:=Tryz.isAgg217
 z46:=Tryz.sizeOf217
 v46:=Tryz.zeroValue217
 t51:=Tryz.underlying167
 a51:=Tryz.isAgg167
 z51:=Tryz.sizeOf167
 v51:=Tryz.zeroValue167
 t53:=Tryz.underlying230
 a53:=Tryz.isAgg230
 z53:=Tryz.sizeOf230
 v53:=Tryz.zeroValue230
 t131:=Tryz.underlying95
 a131:=Tryz.isAgg95
 z131:=Tryz.sizeOf95
 v131:=Tryz.zeroValue95
 t182:=Tryz.underlying221
 a182:=Tryz.isAgg221
 z182:=Tryz.sizeOf221
 v182:=Tryz.zeroValue221
 t183:=Tryz.underlying222
 a183:=Tryz.isAgg222
 z183:=Tryz.sizeOf222
 v183:=Tryz.zeroValue222
 t218:=Tryz.underlying231
 a218:=Tryz.isAgg231
 z218:=Tryz.sizeOf231
 v218:=Tryz.zeroValue231
 t222:=Tryz.underlying235
 a222:=Tryz.isAgg235
 z222:=Tryz.sizeOf235
 v222:=Tryz.zeroValue235
 t228:=Tryz.underlying237
 a228:=Tryz.isAgg237
 z228:=Tryz.sizeOf237
 v228:=Tryz.zeroValue237
 t229:=Tryz.underlying165
 a229:=Tryz.isAgg165
 z229:=Tryz.sizeOf165
 v229:=Tryz.zeroValue165 }
open Go.Sort Go.RowKit in
theorem Tryz.slices_Sort_int(blk off cap:Nat) (zs:List Int) (w:World) (hH:Holds (Value.int .i64) w blk off zs.toArray) (hblk:blk < w.heap.size) (hsz:zs.length < 4611686018427387904):
 Calls Tryz.prog 200 #[.slice (some ⟨blk,off,none⟩) zs.length cap] w λe w'=>
  e=.returned (.tuple #[])/\∃n os,w'=grow (putRow (Value.int .i64) (Sort.ahead w n) blk off (zs.mergeSort λx y=>decide (x<=y)).toArray) os:=Any.slices_Sort_int Tryz.lays189 blk off cap zs w hH hblk hsz
def Tryz.laysNm220_ren:Go.Shelf.Ren:=⟨fun | 20=>201 | n=>n,fun | 22=>31 | 3=>3 | 4=>4 | 0=>0 | n=>n,fun | n=>n⟩
theorem Tryz.laysNm220:Go.Proofs.Lays2.n20 Tryz.prog Tryz.laysNm220_ren:={
 mixed:=by kernel_rfl
 f20:=Tryz.func201.trans (rG some (by kernel_rfl))
 t0:=Tryz.underlying0
 a0:=Tryz.isAgg0
 z0:=Tryz.sizeOf0
 v0:=Tryz.zeroValue0
 t3:=Tryz.underlying3
 a3:=Tryz.isAgg3
 z3:=Tryz.sizeOf3
 v3:=Tryz.zeroValue3
 t4:=Tryz.underlying4
 a4:=Tryz.isAgg4
 z4:=Tryz.sizeOf4
 v4:=Tryz.zeroValue4
 t22:=Tryz.underlying31
 a22:=Tryz.isAgg31
 z22:=Tryz.sizeOf31
 v22:=Tryz.zeroValue31
 i3:=by kernel_rfl }
open Go.RowKit Go.Lib Go.Sort in
theorem Tryz.slices_Compact_int(blk off cap:Nat) (zs:List Int) (w:World) (hH:Holds (Value.int .i64) w blk off zs.toArray) (hsz:zs.length<=9223372036854775807) (hcap:zs.length<=cap):
 Calls Tryz.prog 201 #[.slice (some ⟨blk,off,none⟩) zs.length cap] w λe w'=>e=.returned (.slice (some ⟨blk,off,none⟩) (Lib.compact zs).length cap)/\∃q,w'=putRow (Value.int .i64) (Sort.ahead w q) blk off (Lib.compact zs++List.replicate (zs.length - (Lib.compact zs).length) 0).toArray:=Any.slices_Compact_int Tryz.laysNm220 blk off cap zs w hH hsz hcap
open Go.RowKit Go.Lib Go.Sort in
theorem Tryz.slices_Compact_int_empty(a:Option Addr) (cap:Nat) (w:World):
 Calls Tryz.prog 201 #[.slice a 0 cap] w λe w'=>e=.returned (.slice a 0 cap)/\w'=w:=Any.slices_Compact_int_empty Tryz.laysNm220 a cap w
end Go.Proofs
namespace Go.Proofs.YtjhenjhcbcalpaaGreatDoor
open Go Go.jl
variable {k:Nat}
def Mt(l:List Int):Prop:=l=[]
theorem Mt.nil:Mt []:=rfl
abbrev ahi:CT:={ ps:=[.int .u64],pre:=λd=>d.1=0,res:=λd=>([],.one (.c (.v (.int .i64 0)))) }
abbrev ajH  : Nat->Option (St->jq):=λ_=>none
theorem ael :
 let z1:=[(8:UInt8),(8:UInt8),(8:UInt8),(8:UInt8),(8:UInt8),(8:UInt8),(8:UInt8),(8:UInt8),(8:UInt8),(8:UInt8),(8:UInt8),(8:UInt8),(8:UInt8),(8:UInt8),(8:UInt8),(8:UInt8),(8:UInt8),(8:UInt8),(8:UInt8),(8:UInt8),(8:UInt8),(8:UInt8),(8:UInt8),(8:UInt8),(8:UInt8),(8:UInt8),(8:UInt8),(8:UInt8),(8:UInt8),(8:UInt8),(8:UInt8),(8:UInt8),(8:UInt8),(8:UInt8),(8:UInt8),(8:UInt8),(8:UInt8),(8:UInt8),(8:UInt8),(8:UInt8),(8:UInt8),(8:UInt8),(8:UInt8),(8:UInt8),(8:UInt8),(8:UInt8),(8:UInt8),(8:UInt8),(8:UInt8),(8:UInt8),(8:UInt8),(8:UInt8),(8:UInt8),(8:UInt8),(8:UInt8),(8:UInt8),(8:UInt8),(8:UInt8),(8:UInt8),(8:UInt8),(8:UInt8),(8:UInt8),(8:UInt8),(8:UInt8)];((0:Int)<=(0:Int)/\(0:Int) < (256:Int))/\∀(u:UInt8),{ data:=(([(0:UInt8),(1:UInt8),(2:UInt8),(2:UInt8),(3:UInt8),(3:UInt8),(3:UInt8),(3:UInt8),(4:UInt8),(4:UInt8),(4:UInt8),(4:UInt8),(4:UInt8),(4:UInt8),(4:UInt8),(4:UInt8),(5:UInt8),(5:UInt8),(5:UInt8),(5:UInt8),(5:UInt8),(5:UInt8),(5:UInt8),(5:UInt8),(5:UInt8),(5:UInt8),(5:UInt8),(5:UInt8),(5:UInt8),(5:UInt8),(5:UInt8),(5:UInt8),(6:UInt8),(6:UInt8),(6:UInt8),(6:UInt8),(6:UInt8),(6:UInt8),(6:UInt8),(6:UInt8),(6:UInt8),(6:UInt8),(6:UInt8),(6:UInt8),(6:UInt8),(6:UInt8),(6:UInt8),(6:UInt8),(6:UInt8),(6:UInt8),(6:UInt8),(6:UInt8),(6:UInt8),(6:UInt8),(6:UInt8),(6:UInt8),(6:UInt8),(6:UInt8),(6:UInt8),(6:UInt8),(6:UInt8),(6:UInt8),(6:UInt8),(6:UInt8)].append [(7:UInt8),(7:UInt8),(7:UInt8),(7:UInt8),(7:UInt8),(7:UInt8),(7:UInt8),(7:UInt8),(7:UInt8),(7:UInt8),(7:UInt8),(7:UInt8),(7:UInt8),(7:UInt8),(7:UInt8),(7:UInt8),(7:UInt8),(7:UInt8),(7:UInt8),(7:UInt8),(7:UInt8),(7:UInt8),(7:UInt8),(7:UInt8),(7:UInt8),(7:UInt8),(7:UInt8),(7:UInt8),(7:UInt8),(7:UInt8),(7:UInt8),(7:UInt8),(7:UInt8),(7:UInt8),(7:UInt8),(7:UInt8),(7:UInt8),(7:UInt8),(7:UInt8),(7:UInt8),(7:UInt8),(7:UInt8),(7:UInt8),(7:UInt8),(7:UInt8),(7:UInt8),(7:UInt8),(7:UInt8),(7:UInt8),(7:UInt8),(7:UInt8),(7:UInt8),(7:UInt8),(7:UInt8),(7:UInt8),(7:UInt8),(7:UInt8),(7:UInt8),(7:UInt8),(7:UInt8),(7:UInt8),(7:UInt8),(7:UInt8),(7:UInt8)]).append (z1.append z1)).toArray:ByteArray }[0]?=some u->iR (u.toNat:Int)/\iR (0+(u.toNat:Int))/\qI 0 (0+(u.toNat:Int)):=by
 conv=>zeta
 delta qI iR;refine⟨by omega,λu hu=>?_⟩
 have hu:some (0:UInt8)=some u:=hu;cases hu;exact⟨ak.2 (by decide),ak.2 (by decide),rfl,rfl⟩
theorem Zh:aT aS.gd 226 ahi:=
 jD (cx:=aS) (n:=25) (cl:=[]) au trivial Tryz.func226 λd hd=>by
  obtain⟨x,⟨⟩⟩:=d;simp only at hd;subst hd;exact⟨ajH ,cast (by kernel_rfl) (ael )⟩
abbrev ahj:CT:={ ps:=[.int .u64],pre:=λd=>d.1=0,res:=λd=>([],.one (.c (.v (.int .i64 0)))) }
abbrev ajI  : Nat->Option (St->jq):=λ_=>none
theorem aem :
 (0:(Sh.int IntKind.u64).den)=(0:(Sh.int IntKind.u64).den)/\qI 0 (0:Int):=by
 delta qI;exact⟨rfl,rfl,rfl⟩
theorem Zi:aT aS.gd 213 ahj:=
 jD (cx:=aS) (n:=8) (cl:=[(226,ahi)]) au ⟨Zh,trivial⟩ Tryz.func213 λd hd=>by
  obtain⟨x,⟨⟩⟩:=d;simp only at hd;subst hd;exact⟨ajI ,cast (by kernel_rfl) (aem )⟩
abbrev ahk:CT:={ ps:=[.sl (.int .i64),.int .i64,.int .i64],pre:=λd=>Mt d.1/\d.2.1=0/\d.2.2.1=0,res:=λd=>([],.iq []) }
abbrev ajJ  : Nat->Option (St->jq):=λ_=>some λ_=>.Ee 1
theorem aen :
 iR (1:Int)/\rT [] []:=by
 delta rT iR;exact⟨ak.2 (by omega),rfl,rfl⟩
theorem Zj:aT aS.gd 216 ahk:=
 jD (cx:=aS) (n:=49) (cl:=[]) au trivial Tryz.func216 λd hd=>by
  obtain⟨l,a,b,⟨⟩⟩:=d;obtain⟨h1,h2,h3⟩:=hd;simp only at h1 h2 h3;have h1:l=[]:=h1;subst h1;subst h2;subst h3;exact⟨ajJ ,cast (by kernel_rfl) (aen )⟩
abbrev ahl:CT:={ ps:=[.sl (.int .i64),.int .i64,.int .i64,.int .i64],pre:=λd=>Mt d.1/\d.2.1=0/\d.2.2.1=0,res:=λd=>([],.iq []) }
abbrev ajK(m:Int):Nat->Option (St->jq):=λ_=>some λ_=>.Ee 1
theorem aeo(m:Int):
 iR (0:Int)/\(Mt []/\(0:Int)=(0:Int)/\(0:Int)=(0:Int))/\rT [] []:=by
 delta rT iR;exact⟨ak.2 (by omega),⟨rfl,rfl,rfl⟩,rfl,rfl⟩
theorem Zk:aT aS.gd 212 ahl:=
 jD (cx:=aS) (n:=134) (cl:=[(216,ahk)]) au ⟨Zj,trivial⟩ Tryz.func212 λd hd=>by
  obtain⟨l,a,b,m,⟨⟩⟩:=d;obtain⟨h1,h2,h3⟩:=hd;simp only at h1 h2 h3;have h1:l=[]:=h1;subst h1;subst h2;subst h3;exact⟨ajK m,cast (by kernel_rfl) (aeo m)⟩
abbrev anx:CT:={ ps:=[.sl (.int .i64)],pre:=λd=>Mt d.1,res:=λd=>([],.iq []) }
abbrev ajL  : Nat->Option (St->jq):=λ_=>none
theorem aep :
 (0:Int)=(0:(Sh.int IntKind.u64).den)/\(Mt []/\(0:Int)=(0:Int)/\(0:Int)=(0:Int))/\rT [] []:=by
 delta rT;exact⟨rfl,⟨rfl,rfl,rfl⟩,rfl,rfl⟩
theorem L8:aT aS.gd 200 anx:=
 jD (cx:=aS) (n:=11) (cl:=[(212,ahl),(213,ahj)]) au ⟨Zk,Zi,trivial⟩ Tryz.func200 λd hd=>by
  obtain⟨l,⟨⟩⟩:=d;have hd:l=[]:=hd;subst hd;exact⟨ajL ,cast (by kernel_rfl) (aep )⟩
abbrev vP:CT:={ ps:=[.sl (.int .i64)],pre:=λd=>d.1.length<=1000000,res:=λd=>([.row 3 (.int .i64) (d.1)],.one (.c (.row 0))) }
abbrev Zl:List (Nat×IP):=[]
abbrev jd:=Sh.int IntKind.i64
theorem ajM(l:List Int) (aF:vP.pre (l,())):
 let z1:=[ay.row (3:TypeId) jd l];∀(b:Bool),(b=true->l=[])->br b (z1=[ay.row (3:TypeId) jd []]/\aZ.one qZ=aZ.one qZ) (nO ((0:Nat)+List.length (l)) (8:Nat)/\z1=[ay.row (3:TypeId) jd ([]++l)]/\aZ.one qZ=aZ.one qZ):=by
 conv=>zeta
 delta jd qZ;have hp:l.length<=1000000:=aF;intro b hb;refine ah.2 ⟨λh=>by rw[hb h];exact⟨rfl,rfl⟩,λh=>⟨?_,by simp,rfl⟩⟩
 rw[eF];omega
theorem CJ:aT aS.gd 58 vP:=
 O8 (il:=Zl) (rc:=[.row 3 (.int .i64)]) (cx:=aS) (n:=8) (cl:=[]) (by kernel_rfl) au trivial trivial Tryz.func58 (by kernel_rfl) (by kernel_rfl) rfl (by kernel_rfl) (by kernel_rfl) λd hd=>by
  obtain⟨l,⟨⟩⟩:=d;exact⟨λ_=>none,cast (by kernel_rfl) (ajM l hd)⟩
def F7(l:List Int) (x:Int):Int:=match l.findIdx? (λy=>decide (y=x)) with | some k=>(k:Int) | none=>-1
theorem Pn{l:List Int}{x:Int} (hd:l[k]?=some x) (hn:∀j < k,∀y,l[j]?=some y->y≠x):F7 l x=k:=by
 have iO:k < l.length:=(A8.1 hd).1;have:l.findIdx? (λy=>decide (y=x))=some k:=by
  rw[A50];refine⟨iO,by have:=(A8.1 hd).2;simp[this],λj hj=>?_⟩
  have:=hn j hj l[j] (lK (by omega))
  simpa using this
 simp[F7,this]
theorem Vg{l:List Int}{x:Int} (hn:∀(j:Nat) y,l[j]?=some y->y≠x):F7 l x = -1:=by
 have:l.findIdx? (λy=>decide (y=x))=none:=by
  rw[A73];intro y hy;obtain⟨j,hj⟩:=yg hy;simpa using hn j y hj
 simp[F7,this]
abbrev Zm:CT:={ ps:=[.sl (.int .i64),.int .i64],pre:=λd=>d.1.length<=4611686018427387904,res:=λd=>([],.one (.c (.v (.int .i64 (F7 d.1 d.2.1))))) }
abbrev ajN(l:List Int) (x:Int):Nat->Option (St->jq):=λ_=>some λ_=>.inv { α:=Nat,slots:=λk=>[(8,.c (.v (.int .i64 k)))],res:=λ_=>[],inv:=λk=>k<=l.length/\∀j < k,∀y,l[j]?=some y->y≠x,meas:=λk=>l.length - k }
abbrev dJ:=Go.jl.Gd×Go.jl.ay
theorem aer(l:List Int) (x:Int) (aF:Zm.pre (l,x,())):
 let z1:=λ(x_1:Nat)=>(x_1<=l.length/\∀(j:Nat),j < x_1->∀(y:Int),l[j]?=some y->y≠x);(∃x_1,(z1 x_1)/\(cI 0=cI (x_1:Int)/\True)/\([]:List dJ)=[])/\∀(x_1:Nat),(z1 x_1)->br (decide ((x_1:Int) < (l.length:Int))) ((0<=(x_1:Int)/\(x_1:Int) < (l.length:Int))/\∀(d:Int),l[(x_1:Int).toNat]?=some d->br (decide (x=d)) (qI (F7 l x) (x_1:Int)) (iR ((x_1:Int)+(1:Int))/\∃x',(x'<=l.length/\∀(j:Nat),j < x'->∀(y:Int),l[j]?=some y->y≠x)/\(cI ((x_1:Int)+(1:Int))=cI (x':Int)/\True)/\([]:List dJ)=[]/\l.length - x' < l.length - x_1)) (qI (F7 l x) (-1:Int)):=by
 conv=>zeta
 delta dJ cI qI iR;refine⟨⟨0,⟨by omega,λj hj=>by omega⟩,⟨rfl,trivial⟩,rfl⟩,λk hk=>ah.2 ⟨λh=>?_,λh=>?_⟩⟩
 .simp only[dH]at h;have hp:l.length<=4611686018427387904:=aF;refine⟨by omega,λd hd=>?_⟩
  have hd:l[k]?=some d:=by simpa using hd
  refine ah.2 ⟨λhe=>?_,λhe=>⟨ak.2 (by omega),k+1,⟨by omega,λj hj y hy=>?_⟩,⟨rfl,trivial⟩,rfl,by omega⟩⟩
  .have he:x=d:=by simpa using he
   rw[Pn (by rw[hd,he]) hk.2];exact⟨rfl,rfl⟩
  .by_cases gQ:j=k
   .subst gQ;rw[hd]at hy;cases hy;intro hh;simp[hh]at he
   .exact hk.2 j (by omega) y hy
 .simp only[eH]at h;rw[Vg (λj y hy=>hk.2 j (by have:=(A8.1 hy).1;omega) y hy)];exact⟨rfl,rfl⟩
theorem Zn:aT aS.gd 162 Zm:=
 jD (cx:=aS) (n:=19) (cl:=[]) au trivial Tryz.func162 λd hd=>by
  obtain⟨l,x,⟨⟩⟩:=d;exact⟨ajN l x,cast (by kernel_rfl) (aer l x hd)⟩
theorem Zo(l:List Int) (x:Int):dP l x=decide (0<=F7 l x):=by
 have h:=List.findIdx?_isSome (xs:=l) (p:=λy=>decide (y=x))
 unfold dP F7;rw[<-h];cases l.findIdx? (λy=>decide (y=x)) with
 | none=>rfl
 | some k=>simp
abbrev EK:CT:={ ps:=[.sl (.int .i64),.int .i64],pre:=λd=>d.1.length<=4611686018427387904,res:=λd=>([],vB (dP d.1 d.2.1)) }
theorem ajO(l:List Int) (x:Int) (aF:EK.pre (l,x,())):
 l.length<=4611686018427387904/\qB (dP l x) (decide (0<=F7 l x)):=by
 delta qB;refine⟨aF,rfl,?_⟩;rw[Zo]
theorem zq:aT aS.gd 98 EK:=
 jD (cx:=aS) (n:=9) (cl:=[(162,Zm)]) au ⟨Zn,trivial⟩ Tryz.func98 λd hd=>by
  obtain⟨l,x,⟨⟩⟩:=d;exact⟨λ_=>none,cast (by kernel_rfl) (ajO l x hd)⟩
theorem Vh(l:List Int):(jB l).length=l.length:=by simp[jB]
theorem Zp(l:List Int):(bD l).length<=l.length:=G8 l
theorem aes:Rk Tryz.prog aS.gd 200 EG:=⟨Va L8.1 rfl (λblk cap zs w hH hb hz=>Tryz.slices_Sort_int blk 0 cap zs w hH hb hz),L8.2⟩
theorem aeu:Rk Tryz.prog aS.gd 201 AA:=⟨Jl (λa cap w=>Tryz.slices_Compact_int_empty a cap w) (λblk cap zs w hH h1 h2=>Tryz.slices_Compact_int blk 0 cap zs w hH h1 h2),⟨_,Tryz.func201,rfl,by kernel_rfl⟩⟩
abbrev zu:CT:={ ps:=[.sl (.int .i64)],pre:=λd=>d.1.length<=1000000,res:=λd=>([.row 3 (.int .i64) (bD d.1)],.one (.c (.row 0))) }
abbrev anz:List (Nat×IP):=[(200,EG),(201,AA)]
theorem aev(l:List Int) (aF:zu.pre (l,())):
 l.length<=(1000000:Nat)/\List.length (l) < (4611686018427387904:Nat)/\List.length (jB (l)) < (4611686018427387904:Nat)/\[ay.row (3:TypeId) jd (bD l)]=[ay.row (3:TypeId) jd (Lib.compact (jB (l)))]/\aZ.one qZ=aZ.one qZ:=by
 delta jd qZ;have hp:l.length<=1000000:=aF;exact⟨hp,by omega,by rw[Vh];omega,by rw[aek],rfl⟩
theorem L9:aT aS.gd 169 zu:=
 O8 (il:=anz) (rc:=[]) (cx:=aS) (n:=10) (cl:=[(58,vP)]) (by kernel_rfl) au ⟨CJ,trivial⟩ ⟨aes,aeu,trivial⟩ Tryz.func169 (by kernel_rfl) (by kernel_rfl) rfl (by kernel_rfl) (by kernel_rfl) λd hd=>by
  obtain⟨l,⟨⟩⟩:=d;exact⟨λ_=>none,cast (by kernel_rfl) (aev l hd)⟩
abbrev G9:CT:={ ps:=[.sl (.int .i64),.int .i64],pre:=λd=>d.1.length<=1000000,res:=λd=>([],vB (dP d.1 d.2.1)) }
theorem aew(l:List Int) (x:Int) (aF:G9.pre (l,x,())):
 l.length<=4611686018427387904/\qB (dP l x) (dP l x):=by
 delta qB;have hp:l.length<=1000000:=aF;exact⟨by omega,rfl,rfl⟩
theorem zx:aT aS.gd 165 G9:=
 jD (cx:=aS) (n:=8) (cl:=[(98,EK)]) au ⟨zq,trivial⟩ Tryz.func165 λd hd=>by
  obtain⟨l,x,⟨⟩⟩:=d;exact⟨λ_=>none,cast (by kernel_rfl) (aew l x hd)⟩
abbrev Mc:CT:={ ps:=[.sl (.int .i64),.int .i64],pre:=λd=>d.1.length<=999999,res:=λd=>([.row 3 (.int .i64) (bD (d.1++[d.2.1]))],.one (.c (.row 0))) }
theorem aex(l:List Int) (x:Int) (aF:Mc.pre (l,x,())):
 let z1:=[ay.row (3:TypeId) jd (bD (l++[x]))];l.length<=(1000000:Nat)/\nO (List.length (l)+List.length ([x])) (8:Nat)/\List.length (l++[x])<=(1000000:Nat)/\z1=z1/\aZ.one qZ=aZ.one qZ:=by
 conv=>zeta
 delta jd qZ;have hp:l.length<=999999:=aF;refine⟨by omega,?_,?_,rfl,rfl⟩
 .rw[eF];simp;omega
 .simp;omega
theorem EL:aT aS.gd 111 Mc:=
 jD (cx:=aS) (n:=11) (cl:=[(58,vP),(169,zu)]) au ⟨CJ,L9,trivial⟩ Tryz.func111 λd hd=>by
  obtain⟨l,x,⟨⟩⟩:=d;exact⟨λ_=>none,cast (by kernel_rfl) (aex l x hd)⟩
abbrev EM:Sh:=.pair .str (.pair (.int .i64) .unit)
abbrev Bq:Sh:=.pair .str (.pair (.sl lG) .unit)
abbrev lS:Sh:=.pair (.int .i64) (.pair (.int .i64) .unit)
abbrev o7:Sh:=.pair (.sl EM) (.pair (.sl .str) (.pair (.sl .str) (.pair (.sl Bq) (.pair (.sl lS) .unit))))
abbrev ID:=Int×Int×Int×Int×Int×Int×Int×Int×Unit
abbrev VD:=ByteArray×Int×Unit
abbrev FD:=ByteArray×List ID×Unit
abbrev SD:=Int×Int×Unit
abbrev PD:=List VD×List ByteArray×List ByteArray×List FD×List SD×Unit
def qg(f:Nat) (x:FD):List (bT [lS,lG]):=x.2.1.zipIdx.map λp=>(((f:Int),(p.2:Int),()),p.1,())
def jK:Nat->List FD->List (bT [lS,lG])
 | _,[]=>[]
 | n,x :: l=>qg n x++jK (n+1) l
def dN(fs:List FD):List (bT [lS,lG]):=jK 0 fs
theorem He(f:Nat) (x:FD):(qg f x).length=x.2.1.length:=by simp[qg]
theorem Hf{f:Nat}{x:FD}{j:Nat}{e:ID} (h:x.2.1[j]?=some e):(qg f x)[j]?=some (((f:Int),(j:Int),()),e,()):=by
 unfold qg;rw[Df,acu,h];simp
theorem sD:∀(l m:List FD) (n:Nat),jK n (l++m)=jK n l++jK (n+l.length) m
 | [],m,n=>by simp[jK]
 | x :: l,m,n=>by
   simp only[List.cons_append,jK,sD l m,zW,wS];rw[show n+1+l.length=n+(l.length+1) by omega]
theorem Vj{fs:List FD}{d:FD} (h:fs[k]?=some d):dN fs=dN (fs.take k)++(qg k d++jK (k+1) (fs.drop (k+1))):=by
 have hk:k < fs.length:=(A8.1 h).1;have e:fs=fs.take k++(d :: fs.drop (k+1)):=by
  have h2:=List.drop_eq_getElem_cons hk;rw[(A8.1 h).2]at h2;rw[<-h2,VG]
 unfold dN
 conv=>lhs;rw[e]
 rw[sD];rw[show 0+(fs.take k).length=k by simp;omega]
 rfl
theorem Po{fs:List FD}{d:FD} (h:fs[k]?=some d):dN (fs.take (k+1))=dN (fs.take k)++qg k d:=by
 have hk:k < fs.length:=(A8.1 h).1;rw[NJ,h];unfold dN;rw[sD];rw[show 0+(fs.take k).length=k by simp;omega]
 simp[jK]
theorem Vk{fs:List FD}{j:Nat}{d:FD}{e:ID} (h:fs[k]?=some d) (h2:d.2.1[j]?=some e):(dN fs)[(dN (fs.take k)).length+j]?=some (((k:Int),(j:Int),()),e,()):=by
 have hj:j < d.2.1.length:=(A8.1 h2).1;rw[Vj h,NH (by omega),VE (by rw[He];omega)]
 rw[show(dN (fs.take k)).length+j - (dN (fs.take k)).length=j by omega]
 exact Hf h2
noncomputable abbrev ajP:MK:={ ss:=[o7],f:=λd=>.seq Tryz.prog [lS,lG] (dN d.1.2.2.2.1),pre:=λd=>d.1.2.2.2.1.length<=1000000/\∀x∈d.1.2.2.2.1,x.2.1.length<=1000000 }
abbrev anA:List (Nat×CT):=[]
abbrev ajQ(vs:List VD) (ms cs:List ByteArray) (fs:List FD) (ts:List SD):Nat->Option (St->jq):=λk=>match k with
 | 1=>some λ_=>.gen { α:=Nat,slots:=λk=>[(10,.c (.v (.int .i64 k)))],res:=λ_=>[],inv:=λk=>k<=fs.length,meas:=λk=>fs.length - k } λk=>(dN (fs.take k)).length
 | 4=>some λs=>.gen { α:=Nat,slots:=λk=>[(18,.c (.v (.int .i64 k)))],res:=λ_=>[],inv:=λk=>k<=(slotL lG s 16).length,meas:=λk=>(slotL lG s 16).length - k } λk=>(dN (fs.take (Q8 s 10).toNat)).length+k
 | _=>none
abbrev hlN:List (Nat×Nat×CT):=[]
abbrev mlN:List (Nat×MK):=[]
theorem aez(vs:List VD) (ms cs:List ByteArray) (fs:List FD) (ts:List SD) (l:Nat) (aF:ajP.pre ((vs,ms,cs,fs,ts,()),())):
 let z2:=λ(x:Nat)=>dN (List.take x fs);let z1:=λ(x:Nat)=>dN (List.take (x:Int).toNat fs);let z3:=λ(x_1:Nat)=>(x_1:Int)+(1:Int);(∃x,x<=fs.length/\(z2 x).length=0/\(cI 0=cI (x:Int)/\True)/\([]:List dJ)=[])/\∀(x:Nat),x<=fs.length->br (decide ((x:Int) < (fs.length:Int))) ((0<=(x:Int)/\(x:Int) < (fs.length:Int))/\∀(d:ByteArray×(lG.sl.pair Sh.unit).den),fs[(x:Int).toNat]?=some d->(∃x_1,x_1<=List.length (d.snd.fst)/\(z1 x).length+x_1=(z2 x).length/\(cI 0=cI (x_1:Int)/\True)/\sm [g0 (ay.blk 77 [SC.v (Value.string d.fst),SC.sl lG d.snd.fst])])/\∀(x_1:Nat),x_1<=List.length (d.snd.fst)->br (decide ((x_1:Int) < ((List.length d.snd.fst):Int))) ((0<=(x_1:Int)/\(x_1:Int) < ((List.length d.snd.fst):Int))/\∀(dI:ID),d.snd.fst[(x_1:Int).toNat]?=some dI->l=l/\(dN fs)[(z1 x).length+x_1]?=some (((x:Int),(x_1:Int),()),dI,())/\(iR (z3 x_1)/\∃x',x'<=List.length (d.snd.fst)/\(z1 x).length+x'=(z1 x).length+x_1+1/\(cI (z3 x_1)=cI (x':Int)/\True)/\sm [g0 (ay.blk 77 [SC.v (Value.string d.fst),SC.sl lG d.snd.fst])]/\List.length (d.snd.fst) - x' < List.length (d.snd.fst) - x_1)/\True) (iR (z3 x)/\∃x',x'<=fs.length/\(z2 x').length=(z1 x).length+x_1/\(cI (z3 x)=cI (x':Int)/\True)/\([]:List dJ)=[]/\fs.length - x' < fs.length - x)) ((z2 x).length=aQ (dN fs)):=by
 conv=>zeta
 delta dJ cI g0 sm I6 iR;have hp1:fs.length<=1000000:=aF.1;have hp2:∀x∈fs,x.2.1.length<=1000000:=aF.2;refine⟨⟨0,by omega,by simp[dN,jK],⟨rfl,trivial⟩,rfl⟩,λx hx=>ah.2 ⟨λh=>?_,λh=>?_⟩⟩
 .simp only[dH]at h;have hN:(x:Int).toNat=x:=by omega
  rw[hN];refine⟨by omega,λd hd=>?_⟩
  have hd:fs[x]?=some d:=by simpa using hd
  have hst:=Po hd;refine⟨⟨0,J4 _,by omega,⟨rfl,trivial⟩,rfl⟩,λy hy=>ah.2 ⟨λh2=>?_,λh2=>?_⟩⟩
  .simp only[dH]at h2;refine⟨by omega,λe he=>?_⟩
   have he:d.2.1[y]?=some e:=by simpa using he
   refine⟨rfl,Vk hd he,⟨?_,y+1,?_,?_,⟨rfl,trivial⟩,rfl,?_⟩,trivial⟩
   .have:=hp2 d (ig hd);exact ak.2 (by omega)
   .omega
   .omega
   .omega
  .simp only[eH]at h2;refine⟨ak.2 (by omega),x+1,by omega,?_,⟨rfl,trivial⟩,rfl,by omega⟩
   have hq:=hp2 d (ig hd);have hy:y=d.2.1.length:=by omega
   rw[hst,ku,He,hy]
 .simp only[eH]at h;rw[wu (by omega),bF]
theorem aeA:X9 Tryz.prog aS.gd 210 ajP:=by
 intro d h lb hd hg cap;obtain⟨⟨vs,ms,cs,fs,ts,⟨⟩⟩,⟨⟩⟩:=d;exact Ye (E:=Ya Tryz.prog aS 32 anA Zl hlN mlN [] [] λ_=>none) (Rl (by kernel_rfl) au trivial trivial trivial trivial) rfl Tryz.func210 (body:=jJ Tryz.f210) (by kernel_rfl) (by kernel_rfl) rfl rfl rfl rfl ⟨ajQ vs ms cs fs ts,λl=>cast (by kernel_rfl) (aez vs ms cs fs ts l hd)⟩ hg cap
noncomputable abbrev Jo:CT:={ ps:=[o7],pre:=λd=>d.1.2.2.2.1.length<=1000000/\∀x∈d.1.2.2.2.1,x.2.1.length<=1000000,res:=λd=>([],.one (.c (.abs (.seq Tryz.prog [lS,lG] (dN d.1.2.2.2.1))))) }
noncomputable abbrev anB:List (Nat×MK):=[(210,ajP)]
theorem aeB(vs:List VD) (ms cs:List ByteArray) (fs:List FD) (ts:List SD) (aF:Jo.pre ((vs,ms,cs,fs,ts,()),())):
 let z1:=aZ.one (SV.c (SC.abs (FC.seq Tryz.prog [I6.pair (I6.pair Sh.unit),I6.pair (I6.pair (I6.pair (I6.pair (I6.pair (I6.pair lS)))))] (dN fs))));(fs.length<=1000000/\∀(x:ByteArray×(lG.sl.pair Sh.unit).den),x∈fs->List.length x.snd.fst<=1000000)/\rE z1 z1:=by
 conv=>zeta
 delta rE I6;exact⟨aF,rfl,rfl⟩
theorem Zq:aT aS.gd 189 Jo:=
 (nR (cx:=aS) (n:=4) (cl:=[]) (il:=Zl) (hl:=hlN) (ml:=anB) (rc:=[]) (lits:=[]) (suf:=[]) (by kernel_rfl) au trivial trivial trivial ⟨aeA,trivial⟩ Tryz.func189 (by kernel_rfl) (by kernel_rfl) rfl (by kernel_rfl) (by kernel_rfl) (by simp) λd hd=>by
  obtain⟨⟨vs,ms,cs,fs,ts,⟨⟩⟩,⟨⟩⟩:=d;exact⟨λ_=>none,cast (by kernel_rfl) (aeB vs ms cs fs ts hd)⟩).met
def sF(c:Int):Bool:=decide (97<=c/\c<=122\/65<=c/\c<=90)
abbrev ahm:CT:={ ps:=[.int .u8],pre:=λd=>True,res:=λd=>([],vB (sF d.1)) }
theorem aeC(c:Int):
 qB (sF c) (decide (97<=c) && decide (c<=122) || decide (65<=c) && decide (c<=90)):=by
 delta qB;refine⟨rfl,?_⟩;rw[show sF c=(decide (97<=c) && decide (c<=122) || decide (65<=c) && decide (c<=90)) by unfold sF;rw[Fz];simp]
theorem Zr:aT aS.gd 214 ahm:=
 jD (cx:=aS) (n:=17) (cl:=[]) au trivial Tryz.func214 λd hd=>by
  obtain⟨c,⟨⟩⟩:=d;exact⟨λ_=>none,cast (by kernel_rfl) (aeC c)⟩
def bU(n:Int):Bool:=decide (-2147483648<=n/\n<=2147483647)
abbrev Zt:CT:={ ps:=[.int .i64],pre:=λd=>True,res:=λd=>([],vB (bU d.1)) }
theorem aeD(n:Int):
 qB (bU n) (decide ((-2147483648)<=n) && decide (n<=2147483647)):=by
 delta qB;refine⟨rfl,?_⟩;rw[show bU n=(decide (-2147483648<=n) && decide (n<=2147483647)) by unfold bU;rw[Fz];simp]
theorem Md:aT aS.gd 186 Zt:=
 jD (cx:=aS) (n:=9) (cl:=[]) au trivial Tryz.func186 λd hd=>by
  obtain⟨n,⟨⟩⟩:=d;exact⟨λ_=>none,cast (by kernel_rfl) (aeD n)⟩
abbrev Pq:CT:={ ps:=[.int .i64],pre:=λd=>True,res:=λd=>([],vB (bU d.1)) }
theorem aeE(n:Int):
 qB (bU n) (decide ((-2147483648)<=n) && decide (n<=2147483647)):=by
 delta qB;refine⟨rfl,?_⟩;rw[show bU n=(decide (-2147483648<=n) && decide (n<=2147483647)) by unfold bU;rw[Fz];simp]
theorem Me:aT aS.gd 134 Pq:=
 jD (cx:=aS) (n:=9) (cl:=[]) au trivial Tryz.func134 λd hd=>by
  obtain⟨n,⟨⟩⟩:=d;exact⟨λ_=>none,cast (by kernel_rfl) (aeE n)⟩
def oO(vs:List VD) (ms cs:List ByteArray) (fs:List FD) (op:Int):Int:=
 if op=8\/op=9\/op=10\/op=11\/op=12\/op=14 then vs.length else if op=15\/op=16\/op=17 then ms.length else if op=18\/op=19\/op=20 then cs.length else if op=21 then fs.length else -1
abbrev ahn:CT:={ ps:=[o7,.int .i64],pre:=λd=>True,res:=λd=>([],.one (.c (.v (.int .i64 (oO d.1.1 d.1.2.1 d.1.2.2.1 d.1.2.2.2.1 d.2.1))))) }
theorem aeF(vs:List VD) (ms cs:List ByteArray) (fs:List FD) (ts:List SD) (op:Int):
 let z7:=oO vs ms cs fs op;let z4:=qI z7 (vs.length:Int);let z5:=qI z7 (ms.length:Int);let z6:=qI z7 (cs.length:Int);let z3:=br (decide (op=21)) (qI z7 (fs.length:Int)) (qI z7 (-1:Int));let z2:=br (decide (op=18)) (br (decide (op=18)) z6 z3) (br (decide (op=19)) (br (decide (op=19)) z6 z3) (br (decide (op=20)) z6 z3));let z1:=br (decide (op=15)) (br (decide (op=15)) z5 z2) (br (decide (op=16)) (br (decide (op=16)) z5 z2) (br (decide (op=17)) z5 z2));br (decide (op=8)) (br (decide (op=8)) z4 z1) (br (decide (op=9)) (br (decide (op=9)) z4 z1) (br (decide (op=10)) (br (decide (op=10)) z4 z1) (br (decide (op=11)) (br (decide (op=11)) z4 z1) (br (decide (op=12)) (br (decide (op=12)) z4 z1) (br (decide (op=14)) z4 z1))))):=by
 conv=>zeta
 delta qI;unfold oO;simp only[ah]
 repeat' (first | (refine And.intro ?_ ?_) | (intro _))
 all_goals first | rfl | (simp_all;done) | (simp_all;omega) | grind
theorem Zu:aT aS.gd 211 ahn:=
 jD (cx:=aS) (n:=35) (cl:=[]) au trivial Tryz.func211 λd hd=>by
  obtain⟨⟨vs,ms,cs,fs,ts,⟨⟩⟩,op,⟨⟩⟩:=d;exact⟨λ_=>none,cast (by kernel_rfl) (aeF vs ms cs fs ts op)⟩
def gY(vs:List VD):List ByteArray:=vs.map λv=>v.1
def ji(fs:List FD):List ByteArray:=fs.map λf=>f.1
abbrev Pv:CT:={ ps:=[o7],pre:=λd=>d.1.1.length<=1000000,res:=λd=>([.row 9 .str (gY d.1.1)],.one (.c (.row 0))) }
abbrev ajR(vs:List VD) (ms cs:List ByteArray) (fs:List FD) (ts:List SD):Nat->Option (St->jq):=λk=>match k with
 | 3=>some λ_=>.inv { α:=Nat,slots:=λk=>[(9,.c (.v (.int .i64 k))),(3,.c (.row 1))],res:=λk=>[(1,.row 9 .str (gY (vs.take k)))],inv:=λk=>k<=(vs).length,meas:=λk=>(vs).length - k,nil:=[(3,9,.str)] }
 | _=>none
theorem aeG(vs:List VD) (ms cs:List ByteArray) (fs:List FD) (ts:List SD) (aF:Pv.pre ((vs,ms,cs,fs,ts,()),())):
 let z2:=[SC.sl EM vs,SC.sl Sh.str ms,SC.sl Sh.str cs,SC.sl Bq fs,SC.sl lS ts];let z1:=λ(x:Nat)=>[g0 (ay.blk 27 z2),g0 (ay.row 9 Sh.str (gY (List.take x vs)))];(∃x,x<=vs.length/\(cI 0=cI (x:Int)/\SV.c (SC.row (Nat.succ 0))=SV.c (SC.row 1)/\True)/\[g0 (ay.blk 27 z2),g0 (ay.row 9 Sh.str [])]=(z1 x))/\∀(x:Nat),x<=vs.length->br (decide ((x:Int) < (vs.length:Int))) ((0<=(x:Int)/\(x:Int) < (vs.length:Int))/\∀(d:ByteArray×(I6.pair Sh.unit).den),vs[(x:Int).toNat]?=some d->nO (List.length (gY (List.take x vs))+List.length ([d.fst])) 16/\iR ((x:Int)+(1:Int))/\∃x',x'<=vs.length/\(cI ((x:Int)+(1:Int))=cI (x':Int)/\SV.c (SC.row 1)=SV.c (SC.row 1)/\True)/\[g0 (ay.blk 27 z2),g0 (ay.row 9 Sh.str (gY (List.take x vs)++[d.fst]))]=(z1 x')/\vs.length - x' < vs.length - x) ([ay.row 9 Sh.str (gY vs)]=[ay.row 9 Sh.str (gY (List.take x vs))]/\aZ.one (SV.c (SC.row 0))=aZ.one (SV.c (SC.row 0))):=by
 conv=>zeta
 delta cI g0 I6 iR;have hp:(vs).length<=1000000:=aF;refine⟨⟨0,by omega,⟨rfl,rfl,trivial⟩,rfl⟩,λk hk=>ah.2 ⟨λh=>?_,λh=>?_⟩⟩
 .simp only[dH]at h;refine⟨by omega,λd hd=>?_⟩
  have hd:(vs)[k]?=some d:=by simpa using hd
  have e:gY ((vs).take (k+1))=gY ((vs).take k)++[d.1]:=by
   unfold gY;rw[NJ,hd];simp
  refine⟨?_,ak.2 (by omega),k+1,by omega,⟨rfl,rfl,trivial⟩,?_,by omega⟩
  .have:(gY ((vs).take k)).length<=1000000:=by simp[gY];omega
   exact eF.2 (by simp only[wS,J3];omega)
  .rw[e]
 .simp only[eH]at h;rw[wu (by omega)];exact⟨rfl,rfl⟩
theorem Zv:aT aS.gd 183 Pv:=
 jD (cx:=aS) (n:=20) (cl:=[]) au trivial Tryz.func183 λd hd=>by
  obtain⟨⟨vs,ms,cs,fs,ts,⟨⟩⟩,⟨⟩⟩:=d;exact⟨ajR vs ms cs fs ts,cast (by kernel_rfl) (aeG vs ms cs fs ts hd)⟩
abbrev Px:CT:={ ps:=[o7],pre:=λd=>d.1.2.2.2.1.length<=1000000,res:=λd=>([.row 9 .str (ji d.1.2.2.2.1)],.one (.c (.row 0))) }
abbrev ajS(vs:List VD) (ms cs:List ByteArray) (fs:List FD) (ts:List SD):Nat->Option (St->jq):=λk=>match k with
 | 3=>some λ_=>.inv { α:=Nat,slots:=λk=>[(9,.c (.v (.int .i64 k))),(3,.c (.row 1))],res:=λk=>[(1,.row 9 .str (ji (fs.take k)))],inv:=λk=>k<=(fs).length,meas:=λk=>(fs).length - k,nil:=[(3,9,.str)] }
 | _=>none
theorem aeH(vs:List VD) (ms cs:List ByteArray) (fs:List FD) (ts:List SD) (aF:Px.pre ((vs,ms,cs,fs,ts,()),())):
 let z2:=[SC.sl EM vs,SC.sl Sh.str ms,SC.sl Sh.str cs,SC.sl Bq fs,SC.sl lS ts];let z1:=λ(x:Nat)=>[g0 (ay.blk 27 z2),g0 (ay.row 9 Sh.str (ji (List.take x fs)))];(∃x,x<=fs.length/\(cI 0=cI (x:Int)/\SV.c (SC.row (Nat.succ 0))=SV.c (SC.row 1)/\True)/\[g0 (ay.blk 27 z2),g0 (ay.row 9 Sh.str [])]=(z1 x))/\∀(x:Nat),x<=fs.length->br (decide ((x:Int) < (fs.length:Int))) ((0<=(x:Int)/\(x:Int) < (fs.length:Int))/\∀(d:ByteArray×(lG.sl.pair Sh.unit).den),fs[(x:Int).toNat]?=some d->nO (List.length (ji (List.take x fs))+List.length ([d.fst])) 16/\iR ((x:Int)+(1:Int))/\∃x',x'<=fs.length/\(cI ((x:Int)+(1:Int))=cI (x':Int)/\SV.c (SC.row 1)=SV.c (SC.row 1)/\True)/\[g0 (ay.blk 27 z2),g0 (ay.row 9 Sh.str (ji (List.take x fs)++[d.fst]))]=(z1 x')/\fs.length - x' < fs.length - x) ([ay.row 9 Sh.str (ji fs)]=[ay.row 9 Sh.str (ji (List.take x fs))]/\aZ.one (SV.c (SC.row 0))=aZ.one (SV.c (SC.row 0))):=by
 conv=>zeta
 delta cI g0 I6 iR;have hp:(fs).length<=1000000:=aF;refine⟨⟨0,by omega,⟨rfl,rfl,trivial⟩,rfl⟩,λk hk=>ah.2 ⟨λh=>?_,λh=>?_⟩⟩
 .simp only[dH]at h;refine⟨by omega,λd hd=>?_⟩
  have hd:(fs)[k]?=some d:=by simpa using hd
  have e:ji ((fs).take (k+1))=ji ((fs).take k)++[d.1]:=by
   unfold ji;rw[NJ,hd];simp
  refine⟨?_,ak.2 (by omega),k+1,by omega,⟨rfl,rfl,trivial⟩,?_,by omega⟩
  .have:(ji ((fs).take k)).length<=1000000:=by simp[ji];omega
   exact eF.2 (by simp only[wS,J3];omega)
  .rw[e]
 .simp only[eH]at h;rw[wu (by omega)];exact⟨rfl,rfl⟩
theorem Zw:aT aS.gd 185 Px:=
 jD (cx:=aS) (n:=20) (cl:=[]) au trivial Tryz.func185 λd hd=>by
  obtain⟨⟨vs,ms,cs,fs,ts,⟨⟩⟩,⟨⟩⟩:=d;exact⟨ajS vs ms cs fs ts,cast (by kernel_rfl) (aeH vs ms cs fs ts hd)⟩
def F8(l:List ByteArray) (x:ByteArray):Int:=match l.findIdx? (λy=>decide (y=x)) with | some k=>(k:Int) | none=>-1
theorem Py{l:List ByteArray}{x:ByteArray} (hd:l[k]?=some x) (hn:∀j < k,∀y,l[j]?=some y->y≠x):F8 l x=k:=by
 have iO:k < l.length:=(A8.1 hd).1;have:l.findIdx? (λy=>decide (y=x))=some k:=by
  rw[A50];refine⟨iO,by have:=(A8.1 hd).2;simp[this],λj hj=>?_⟩
  have:=hn j hj l[j] (lK (by omega))
  simpa using this
 simp[F8,this]
theorem Vl{l:List ByteArray}{x:ByteArray} (hn:∀(j:Nat) y,l[j]?=some y->y≠x):F8 l x = -1:=by
 have:l.findIdx? (λy=>decide (y=x))=none:=by
  rw[A73];intro y hy;obtain⟨j,hj⟩:=yg hy;simpa using hn j y hj
 simp[F8,this]
abbrev Pz:CT:={ ps:=[.sl .str,.str],pre:=λd=>d.1.length<=1000000,res:=λd=>([],.one (.c (.v (.int .i64 (F8 d.1 d.2.1))))) }
abbrev ajT(l:List ByteArray) (x:ByteArray):Nat->Option (St->jq):=λk=>match k with
 | 2=>some λ_=>.inv { α:=Nat,slots:=λk=>[(8,.c (.v (.int .i64 k)))],res:=λk=>[],inv:=λk=>k<=(l).length/\∀j < k,∀y,l[j]?=some y->y≠x,meas:=λk=>(l).length - k }
 | _=>none
theorem aeI(l:List ByteArray) (x:ByteArray) (aF:Pz.pre (l,x,())):
 let z1:=λ(x_1:Nat)=>(x_1<=l.length/\∀(j:Nat),j < x_1->∀(y:ByteArray),l[j]?=some y->y≠x);(∃x_1,(z1 x_1)/\(cI 0=cI (x_1:Int)/\True)/\([]:List dJ)=[])/\∀(x_1:Nat),(z1 x_1)->br (decide ((x_1:Int) < (l.length:Int))) ((0<=(x_1:Int)/\(x_1:Int) < (l.length:Int))/\∀(d:ByteArray),l[(x_1:Int).toNat]?=some d->br (decide (x=d)) (qI (F8 l x) (x_1:Int)) (iR ((x_1:Int)+(1:Int))/\∃x',(x'<=l.length/\∀(j:Nat),j < x'->∀(y:ByteArray),l[j]?=some y->y≠x)/\(cI ((x_1:Int)+(1:Int))=cI (x':Int)/\True)/\([]:List dJ)=[]/\l.length - x' < l.length - x_1)) (qI (F8 l x) (-1:Int)):=by
 conv=>zeta
 delta dJ cI qI iR;refine⟨⟨0,⟨by omega,λj hj=>by omega⟩,⟨rfl,trivial⟩,rfl⟩,λk hk=>ah.2 ⟨λh=>?_,λh=>?_⟩⟩
 .simp only[dH]at h;have hp:l.length<=1000000:=aF;refine⟨by omega,λd hd=>?_⟩
  have hd:l[k]?=some d:=by simpa using hd
  refine ah.2 ⟨λhe=>?_,λhe=>⟨ak.2 (by omega),k+1,⟨by omega,λj hj y hy=>?_⟩,⟨rfl,trivial⟩,rfl,by omega⟩⟩
  .have he:x=d:=by simpa using he
   rw[Py (by rw[hd,he]) hk.2];exact⟨rfl,rfl⟩
  .by_cases gQ:j=k
   .subst gQ;rw[hd]at hy;cases hy;intro hh;simp[hh]at he
   .exact hk.2 j (by omega) y hy
 .simp only[eH]at h;rw[Vl (λj y hy=>hk.2 j (by have:=(A8.1 hy).1;omega) y hy)];exact⟨rfl,rfl⟩
theorem Zx:aT aS.gd 215 Pz:=
 jD (cx:=aS) (n:=19) (cl:=[]) au trivial Tryz.func215 λd hd=>by
  obtain⟨l,x,⟨⟩⟩:=d;exact⟨ajT l x,cast (by kernel_rfl) (aeI l x hd)⟩
def tY(l:List ByteArray) (x:ByteArray):Bool:=l.any λy=>decide (y=x)
theorem Zy(l:List ByteArray) (x:ByteArray):tY l x=decide (0<=F8 l x):=by
 have h:=List.findIdx?_isSome (xs:=l) (p:=λy=>decide (y=x))
 unfold tY F8;rw[<-h];cases l.findIdx? (λy=>decide (y=x)) with
 | none=>rfl
 | some k=>simp
abbrev PE:CT:={ ps:=[.sl .str,.str],pre:=λd=>d.1.length<=1000000,res:=λd=>([],vB (tY d.1 d.2.1)) }
theorem aeJ(l:List ByteArray) (x:ByteArray) (aF:PE.pre (l,x,())):
 l.length<=1000000/\qB (tY l x) (decide (0<=F8 l x)):=by
 delta qB;refine⟨aF,rfl,?_⟩;rw[Zy]
theorem Zz:aT aS.gd 209 PE:=
 jD (cx:=aS) (n:=9) (cl:=[(215,Pz)]) au ⟨Zx,trivial⟩ Tryz.func209 λd hd=>by
  obtain⟨l,x,⟨⟩⟩:=d;exact⟨λ_=>none,cast (by kernel_rfl) (aeJ l x hd)⟩
end Go.Proofs.YtjhenjhcbcalpaaGreatDoor
