/- Part 6 of the proof. Conditions: the rows'. -/
import Derived.Test.YtjhenjhcbcalpaaGreatDoorB5
import Derived.Test.YtjhenjhcbcalpaaGreatDoorProg
import Derived.Shelf.Small.Bits
import Derived.Shelf.Strconv.Itoa0
import Derived.Shelf.Sort.Plain
import Derived.Shelf.Slices.Turned
import Derived.Shelf.Slices.Equal
import Derived.Ground.Names2Prog
import Derived.Shelf.Slices.Clone
import Derived.Shelf.Slices.CompactI
import Derived.Shelf.Slices.SearchI
import Derived.Shelf.Slices.Cells
import Derived.Shelf.Slices.In.SortNone
import Derived.Shelf.Slices.Empties2
import Derived.Ground.SlgnProg
import Derived.Shelf.SlicesE.Clone
set_option linter.unusedSimpArgs false
set_option linter.unusedVariables false
set_option maxRecDepth 1000000
set_option maxHeartbeats 8000000
namespace Go.Proofs.YtjhenjhcbcalpaaGreatDoor
open Go Go.jw
abbrev aN:=Go.jw.Met Tryz.prog
variable {l:List Int}
abbrev ti3:TI:={ desc:=.int .i64,size:=1,bytes:=8,zero:=[.int .i64 0],iZ:=some (.int .i64) }
theorem alj:aQ Tryz.prog 3 ti3:=aQ.of_eq (by kernel_rfl) (by kernel_rfl) rfl rfl (aO (i:=ti3) (s0:=(.int .i64)) rfl rfl rfl rfl)
abbrev ti4:TI:={ desc:=.bool,size:=1,bytes:=1,zero:=[.bool false],iZ:=some .bool }
theorem alk:aQ Tryz.prog 4 ti4:=aQ.of_eq (by kernel_rfl) (by kernel_rfl) rfl rfl (aO (i:=ti4) (s0:=.bool) rfl rfl rfl rfl)
abbrev ti5:TI:={ desc:=.int .u8,size:=1,bytes:=1,zero:=[.int .u8 0],iZ:=some (.int .u8) }
theorem alm:aQ Tryz.prog 5 ti5:=aQ.of_eq (by kernel_rfl) (by kernel_rfl) rfl rfl (aO (i:=ti5) (s0:=(.int .u8)) rfl rfl rfl rfl)
abbrev ti9:TI:={ desc:=.string,size:=1,bytes:=16,zero:=[.string ⟨#[]⟩],iZ:=some .str }
theorem aln:aQ Tryz.prog 9 ti9:=aQ.of_eq (by kernel_rfl) (by kernel_rfl) rfl rfl (aO (i:=ti9) (s0:=.str) rfl rfl rfl rfl)
abbrev alo:TI:={ desc:=.int .i32,size:=1,bytes:=4,zero:=[.int .i32 0],iZ:=some (.int .i32) }
theorem afl:aQ Tryz.prog 21 alo:=aQ.of_eq (by kernel_rfl) (by kernel_rfl) rfl rfl (aO (i:=alo) (s0:=(.int .i32)) rfl rfl rfl rfl)
abbrev alp:TI:={ desc:=.slice 118,size:=1,bytes:=24,zero:=[.slice none 0 0],iZ:=some (.sl (.pair .str (.pair (.int .i64) .unit))) }
theorem afm:aQ Tryz.prog 22 alp:=aQ.of_eq (by kernel_rfl) (by kernel_rfl) rfl rfl (aO (i:=alp) (s0:=(.sl (.pair .str (.pair (.int .i64) .unit)))) rfl rfl rfl rfl)
abbrev alq:TI:={ desc:=.slice 9,size:=1,bytes:=24,zero:=[.slice none 0 0],iZ:=some (.sl .str) }
theorem afn:aQ Tryz.prog 23 alq:=aQ.of_eq (by kernel_rfl) (by kernel_rfl) rfl rfl (aO (i:=alq) (s0:=(.sl .str)) rfl rfl rfl rfl)
abbrev alr:TI:={ desc:=.slice 77,size:=1,bytes:=24,zero:=[.slice none 0 0],iZ:=some (.sl (.pair .str (.pair (.sl (.pair (.int .i64) (.pair (.int .i64) (.pair (.int .i64) (.pair (.int .i64) (.pair (.int .i64) (.pair (.int .i64) (.pair (.int .i64) (.pair (.int .i64) .unit))))))))) .unit))) }
theorem afo:aQ Tryz.prog 24 alr:=aQ.of_eq (by kernel_rfl) (by kernel_rfl) rfl rfl (aO (i:=alr) (s0:=(.sl (.pair .str (.pair (.sl (.pair (.int .i64) (.pair (.int .i64) (.pair (.int .i64) (.pair (.int .i64) (.pair (.int .i64) (.pair (.int .i64) (.pair (.int .i64) (.pair (.int .i64) .unit))))))))) .unit)))) rfl rfl rfl rfl)
abbrev als:TI:={ desc:=.slice 82,size:=1,bytes:=24,zero:=[.slice none 0 0],iZ:=some (.sl (.pair (.int .i64) (.pair (.int .i64) .unit))) }
theorem afp:aQ Tryz.prog 25 als:=aQ.of_eq (by kernel_rfl) (by kernel_rfl) rfl rfl (aO (i:=als) (s0:=(.sl (.pair (.int .i64) (.pair (.int .i64) .unit)))) rfl rfl rfl rfl)
abbrev alu:TI:={ desc:=.struct #[eF 22 0,eF 23 1,eF 23 2,eF 24 3,eF 25 4],size:=5,bytes:=120,zero:=[.slice none 0 0,.slice none 0 0,.slice none 0 0,.slice none 0 0,.slice none 0 0],iZ:=some (.pair (.sl (.pair .str (.pair (.int .i64) .unit))) (.pair (.sl .str) (.pair (.sl .str) (.pair (.sl (.pair .str (.pair (.sl (.pair (.int .i64) (.pair (.int .i64) (.pair (.int .i64) (.pair (.int .i64) (.pair (.int .i64) (.pair (.int .i64) (.pair (.int .i64) (.pair (.int .i64) .unit))))))))) .unit))) (.pair (.sl (.pair (.int .i64) (.pair (.int .i64) .unit))) .unit))))) }
theorem afq:aQ Tryz.prog 26 alu:=aQ.of_eq (by kernel_rfl) (by kernel_rfl) rfl rfl (aO (i:=alu) (s0:=(.pair (.sl (.pair .str (.pair (.int .i64) .unit))) (.pair (.sl .str) (.pair (.sl .str) (.pair (.sl (.pair .str (.pair (.sl (.pair (.int .i64) (.pair (.int .i64) (.pair (.int .i64) (.pair (.int .i64) (.pair (.int .i64) (.pair (.int .i64) (.pair (.int .i64) (.pair (.int .i64) .unit))))))))) .unit))) (.pair (.sl (.pair (.int .i64) (.pair (.int .i64) .unit))) .unit)))))) rfl rfl rfl rfl)
abbrev alv:TI:={ desc:=.struct #[eF 22 0,eF 23 1,eF 23 2,eF 24 3,eF 25 4],size:=5,bytes:=120,zero:=[.slice none 0 0,.slice none 0 0,.slice none 0 0,.slice none 0 0,.slice none 0 0],iZ:=some (.pair (.sl (.pair .str (.pair (.int .i64) .unit))) (.pair (.sl .str) (.pair (.sl .str) (.pair (.sl (.pair .str (.pair (.sl (.pair (.int .i64) (.pair (.int .i64) (.pair (.int .i64) (.pair (.int .i64) (.pair (.int .i64) (.pair (.int .i64) (.pair (.int .i64) (.pair (.int .i64) .unit))))))))) .unit))) (.pair (.sl (.pair (.int .i64) (.pair (.int .i64) .unit))) .unit))))) }
theorem afr:aQ Tryz.prog 27 alv:=aQ.of_eq (by kernel_rfl) (by kernel_rfl) rfl rfl (aO (i:=alv) (s0:=(.pair (.sl (.pair .str (.pair (.int .i64) .unit))) (.pair (.sl .str) (.pair (.sl .str) (.pair (.sl (.pair .str (.pair (.sl (.pair (.int .i64) (.pair (.int .i64) (.pair (.int .i64) (.pair (.int .i64) (.pair (.int .i64) (.pair (.int .i64) (.pair (.int .i64) (.pair (.int .i64) .unit))))))))) .unit))) (.pair (.sl (.pair (.int .i64) (.pair (.int .i64) .unit))) .unit)))))) rfl rfl rfl rfl)
abbrev alx:TI:={ desc:=.slice 56,size:=1,bytes:=24,zero:=[.slice none 0 0],iZ:=some (.sl (.pair (.int .i64) (.pair (.int .i64) (.pair (.int .i64) (.pair (.arr 8 (.int .i64)) (.pair (.int .i64) (.pair (.int .i64) (.pair (.int .i64) (.pair (.int .i64) (.pair (.int .i64) (.pair (.sl (.int .i64)) .unit))))))))))) }
theorem afs:aQ Tryz.prog 30 alx:=aQ.of_eq (by kernel_rfl) (by kernel_rfl) rfl rfl (aO (i:=alx) (s0:=(.sl (.pair (.int .i64) (.pair (.int .i64) (.pair (.int .i64) (.pair (.arr 8 (.int .i64)) (.pair (.int .i64) (.pair (.int .i64) (.pair (.int .i64) (.pair (.int .i64) (.pair (.int .i64) (.pair (.sl (.int .i64)) .unit)))))))))))) rfl rfl rfl rfl)
abbrev aly:TI:={ desc:=.slice 3,size:=1,bytes:=24,zero:=[.slice none 0 0],iZ:=some (.sl (.int .i64)) }
theorem aft:aQ Tryz.prog 31 aly:=aQ.of_eq (by kernel_rfl) (by kernel_rfl) rfl rfl (aO (i:=aly) (s0:=(.sl (.int .i64))) rfl rfl rfl rfl)
abbrev alz:TI:={ desc:=.slice 31,size:=1,bytes:=24,zero:=[.slice none 0 0],iZ:=some (.sl (.sl (.int .i64))) }
theorem afu:aQ Tryz.prog 32 alz:=aQ.of_eq (by kernel_rfl) (by kernel_rfl) rfl rfl (aO (i:=alz) (s0:=(.sl (.sl (.int .i64)))) rfl rfl rfl rfl)
abbrev alA:TI:={ desc:=.struct #[eF 31 0,eF 31 1,eF 32 2,eF 31 3],size:=4,bytes:=96,zero:=[.slice none 0 0,.slice none 0 0,.slice none 0 0,.slice none 0 0],iZ:=some (.pair (.sl (.int .i64)) (.pair (.sl (.int .i64)) (.pair (.sl (.sl (.int .i64))) (.pair (.sl (.int .i64)) .unit)))) }
theorem afv:aQ Tryz.prog 33 alA:=aQ.of_eq (by kernel_rfl) (by kernel_rfl) rfl rfl (aO (i:=alA) (s0:=(.pair (.sl (.int .i64)) (.pair (.sl (.int .i64)) (.pair (.sl (.sl (.int .i64))) (.pair (.sl (.int .i64)) .unit))))) rfl rfl rfl rfl)
abbrev alB:TI:={ desc:=.struct #[eF 31 0,eF 31 1,eF 32 2,eF 31 3],size:=4,bytes:=96,zero:=[.slice none 0 0,.slice none 0 0,.slice none 0 0,.slice none 0 0],iZ:=some (.pair (.sl (.int .i64)) (.pair (.sl (.int .i64)) (.pair (.sl (.sl (.int .i64))) (.pair (.sl (.int .i64)) .unit)))) }
theorem afw:aQ Tryz.prog 34 alB:=aQ.of_eq (by kernel_rfl) (by kernel_rfl) rfl rfl (aO (i:=alB) (s0:=(.pair (.sl (.int .i64)) (.pair (.sl (.int .i64)) (.pair (.sl (.sl (.int .i64))) (.pair (.sl (.int .i64)) .unit))))) rfl rfl rfl rfl)
abbrev alC:TI:={ desc:=.slice 65,size:=1,bytes:=24,zero:=[.slice none 0 0],iZ:=some (.sl (.pair (.int .i64) (.pair (.int .i64) (.pair (.sl (.pair (.int .i64) (.pair (.int .i64) .unit))) .unit)))) }
theorem afx:aQ Tryz.prog 35 alC:=aQ.of_eq (by kernel_rfl) (by kernel_rfl) rfl rfl (aO (i:=alC) (s0:=(.sl (.pair (.int .i64) (.pair (.int .i64) (.pair (.sl (.pair (.int .i64) (.pair (.int .i64) .unit))) .unit))))) rfl rfl rfl rfl)
abbrev alD:TI:={ desc:=.struct #[eF 30 0,eF 34 1,eF 35 5],size:=6,bytes:=144,zero:=[.slice none 0 0,.slice none 0 0,.slice none 0 0,.slice none 0 0,.slice none 0 0,.slice none 0 0],iZ:=some (.pair (.sl (.pair (.int .i64) (.pair (.int .i64) (.pair (.int .i64) (.pair (.arr 8 (.int .i64)) (.pair (.int .i64) (.pair (.int .i64) (.pair (.int .i64) (.pair (.int .i64) (.pair (.int .i64) (.pair (.sl (.int .i64)) .unit))))))))))) (.pair (.pair (.sl (.int .i64)) (.pair (.sl (.int .i64)) (.pair (.sl (.sl (.int .i64))) (.pair (.sl (.int .i64)) .unit)))) (.pair (.sl (.pair (.int .i64) (.pair (.int .i64) (.pair (.sl (.pair (.int .i64) (.pair (.int .i64) .unit))) .unit)))) .unit))) }
theorem afy:aQ Tryz.prog 36 alD:=aQ.of_eq (by kernel_rfl) (by kernel_rfl) rfl rfl (aO (i:=alD) (s0:=(.pair (.sl (.pair (.int .i64) (.pair (.int .i64) (.pair (.int .i64) (.pair (.arr 8 (.int .i64)) (.pair (.int .i64) (.pair (.int .i64) (.pair (.int .i64) (.pair (.int .i64) (.pair (.int .i64) (.pair (.sl (.int .i64)) .unit))))))))))) (.pair (.pair (.sl (.int .i64)) (.pair (.sl (.int .i64)) (.pair (.sl (.sl (.int .i64))) (.pair (.sl (.int .i64)) .unit)))) (.pair (.sl (.pair (.int .i64) (.pair (.int .i64) (.pair (.sl (.pair (.int .i64) (.pair (.int .i64) .unit))) .unit)))) .unit)))) rfl rfl rfl rfl)
abbrev alE:TI:={ desc:=.struct #[eF 30 0,eF 34 1,eF 35 5],size:=6,bytes:=144,zero:=[.slice none 0 0,.slice none 0 0,.slice none 0 0,.slice none 0 0,.slice none 0 0,.slice none 0 0],iZ:=some (.pair (.sl (.pair (.int .i64) (.pair (.int .i64) (.pair (.int .i64) (.pair (.arr 8 (.int .i64)) (.pair (.int .i64) (.pair (.int .i64) (.pair (.int .i64) (.pair (.int .i64) (.pair (.int .i64) (.pair (.sl (.int .i64)) .unit))))))))))) (.pair (.pair (.sl (.int .i64)) (.pair (.sl (.int .i64)) (.pair (.sl (.sl (.int .i64))) (.pair (.sl (.int .i64)) .unit)))) (.pair (.sl (.pair (.int .i64) (.pair (.int .i64) (.pair (.sl (.pair (.int .i64) (.pair (.int .i64) .unit))) .unit)))) .unit))) }
theorem afz:aQ Tryz.prog 37 alE:=aQ.of_eq (by kernel_rfl) (by kernel_rfl) rfl rfl (aO (i:=alE) (s0:=(.pair (.sl (.pair (.int .i64) (.pair (.int .i64) (.pair (.int .i64) (.pair (.arr 8 (.int .i64)) (.pair (.int .i64) (.pair (.int .i64) (.pair (.int .i64) (.pair (.int .i64) (.pair (.int .i64) (.pair (.sl (.int .i64)) .unit))))))))))) (.pair (.pair (.sl (.int .i64)) (.pair (.sl (.int .i64)) (.pair (.sl (.sl (.int .i64))) (.pair (.sl (.int .i64)) .unit)))) (.pair (.sl (.pair (.int .i64) (.pair (.int .i64) (.pair (.sl (.pair (.int .i64) (.pair (.int .i64) .unit))) .unit)))) .unit)))) rfl rfl rfl rfl)
abbrev alF:TI:={ desc:=.int .i64,size:=1,bytes:=8,zero:=[.int .i64 0],iZ:=some (.int .i64) }
theorem afA:aQ Tryz.prog 38 alF:=aQ.of_eq (by kernel_rfl) (by kernel_rfl) rfl rfl (aO (i:=alF) (s0:=(.int .i64)) rfl rfl rfl rfl)
abbrev alG:TI:={ desc:=.struct #[eF 27 0,eF 3 5,eF 3 6,eF 37 7],size:=13,bytes:=280,zero:=[.slice none 0 0,.slice none 0 0,.slice none 0 0,.slice none 0 0,.slice none 0 0,.int .i64 0,.int .i64 0,.slice none 0 0,.slice none 0 0,.slice none 0 0,.slice none 0 0,.slice none 0 0,.slice none 0 0],iZ:=some (.pair (.pair (.sl (.pair .str (.pair (.int .i64) .unit))) (.pair (.sl .str) (.pair (.sl .str) (.pair (.sl (.pair .str (.pair (.sl (.pair (.int .i64) (.pair (.int .i64) (.pair (.int .i64) (.pair (.int .i64) (.pair (.int .i64) (.pair (.int .i64) (.pair (.int .i64) (.pair (.int .i64) .unit))))))))) .unit))) (.pair (.sl (.pair (.int .i64) (.pair (.int .i64) .unit))) .unit))))) (.pair (.int .i64) (.pair (.int .i64) (.pair (.pair (.sl (.pair (.int .i64) (.pair (.int .i64) (.pair (.int .i64) (.pair (.arr 8 (.int .i64)) (.pair (.int .i64) (.pair (.int .i64) (.pair (.int .i64) (.pair (.int .i64) (.pair (.int .i64) (.pair (.sl (.int .i64)) .unit))))))))))) (.pair (.pair (.sl (.int .i64)) (.pair (.sl (.int .i64)) (.pair (.sl (.sl (.int .i64))) (.pair (.sl (.int .i64)) .unit)))) (.pair (.sl (.pair (.int .i64) (.pair (.int .i64) (.pair (.sl (.pair (.int .i64) (.pair (.int .i64) .unit))) .unit)))) .unit))) .unit)))) }
theorem afB:aQ Tryz.prog 43 alG:=aQ.of_eq (by kernel_rfl) (by kernel_rfl) rfl rfl (aO (i:=alG) (s0:=(.pair (.pair (.sl (.pair .str (.pair (.int .i64) .unit))) (.pair (.sl .str) (.pair (.sl .str) (.pair (.sl (.pair .str (.pair (.sl (.pair (.int .i64) (.pair (.int .i64) (.pair (.int .i64) (.pair (.int .i64) (.pair (.int .i64) (.pair (.int .i64) (.pair (.int .i64) (.pair (.int .i64) .unit))))))))) .unit))) (.pair (.sl (.pair (.int .i64) (.pair (.int .i64) .unit))) .unit))))) (.pair (.int .i64) (.pair (.int .i64) (.pair (.pair (.sl (.pair (.int .i64) (.pair (.int .i64) (.pair (.int .i64) (.pair (.arr 8 (.int .i64)) (.pair (.int .i64) (.pair (.int .i64) (.pair (.int .i64) (.pair (.int .i64) (.pair (.int .i64) (.pair (.sl (.int .i64)) .unit))))))))))) (.pair (.pair (.sl (.int .i64)) (.pair (.sl (.int .i64)) (.pair (.sl (.sl (.int .i64))) (.pair (.sl (.int .i64)) .unit)))) (.pair (.sl (.pair (.int .i64) (.pair (.int .i64) (.pair (.sl (.pair (.int .i64) (.pair (.int .i64) .unit))) .unit)))) .unit))) .unit))))) rfl rfl rfl rfl)
abbrev alH:TI:={ desc:=.struct #[eF 27 0,eF 3 5,eF 3 6,eF 37 7],size:=13,bytes:=280,zero:=[.slice none 0 0,.slice none 0 0,.slice none 0 0,.slice none 0 0,.slice none 0 0,.int .i64 0,.int .i64 0,.slice none 0 0,.slice none 0 0,.slice none 0 0,.slice none 0 0,.slice none 0 0,.slice none 0 0],iZ:=some (.pair (.pair (.sl (.pair .str (.pair (.int .i64) .unit))) (.pair (.sl .str) (.pair (.sl .str) (.pair (.sl (.pair .str (.pair (.sl (.pair (.int .i64) (.pair (.int .i64) (.pair (.int .i64) (.pair (.int .i64) (.pair (.int .i64) (.pair (.int .i64) (.pair (.int .i64) (.pair (.int .i64) .unit))))))))) .unit))) (.pair (.sl (.pair (.int .i64) (.pair (.int .i64) .unit))) .unit))))) (.pair (.int .i64) (.pair (.int .i64) (.pair (.pair (.sl (.pair (.int .i64) (.pair (.int .i64) (.pair (.int .i64) (.pair (.arr 8 (.int .i64)) (.pair (.int .i64) (.pair (.int .i64) (.pair (.int .i64) (.pair (.int .i64) (.pair (.int .i64) (.pair (.sl (.int .i64)) .unit))))))))))) (.pair (.pair (.sl (.int .i64)) (.pair (.sl (.int .i64)) (.pair (.sl (.sl (.int .i64))) (.pair (.sl (.int .i64)) .unit)))) (.pair (.sl (.pair (.int .i64) (.pair (.int .i64) (.pair (.sl (.pair (.int .i64) (.pair (.int .i64) .unit))) .unit)))) .unit))) .unit)))) }
theorem afC:aQ Tryz.prog 44 alH:=aQ.of_eq (by kernel_rfl) (by kernel_rfl) rfl rfl (aO (i:=alH) (s0:=(.pair (.pair (.sl (.pair .str (.pair (.int .i64) .unit))) (.pair (.sl .str) (.pair (.sl .str) (.pair (.sl (.pair .str (.pair (.sl (.pair (.int .i64) (.pair (.int .i64) (.pair (.int .i64) (.pair (.int .i64) (.pair (.int .i64) (.pair (.int .i64) (.pair (.int .i64) (.pair (.int .i64) .unit))))))))) .unit))) (.pair (.sl (.pair (.int .i64) (.pair (.int .i64) .unit))) .unit))))) (.pair (.int .i64) (.pair (.int .i64) (.pair (.pair (.sl (.pair (.int .i64) (.pair (.int .i64) (.pair (.int .i64) (.pair (.arr 8 (.int .i64)) (.pair (.int .i64) (.pair (.int .i64) (.pair (.int .i64) (.pair (.int .i64) (.pair (.int .i64) (.pair (.sl (.int .i64)) .unit))))))))))) (.pair (.pair (.sl (.int .i64)) (.pair (.sl (.int .i64)) (.pair (.sl (.sl (.int .i64))) (.pair (.sl (.int .i64)) .unit)))) (.pair (.sl (.pair (.int .i64) (.pair (.int .i64) (.pair (.sl (.pair (.int .i64) (.pair (.int .i64) .unit))) .unit)))) .unit))) .unit))))) rfl rfl rfl rfl)
abbrev alI:TI:={ desc:=.int .i64,size:=1,bytes:=8,zero:=[.int .i64 0],iZ:=some (.int .i64) }
theorem afD:aQ Tryz.prog 46 alI:=aQ.of_eq (by kernel_rfl) (by kernel_rfl) rfl rfl (aO (i:=alI) (s0:=(.int .i64)) rfl rfl rfl rfl)
abbrev alJ:TI:={ desc:=.int .i64,size:=1,bytes:=8,zero:=[.int .i64 0],iZ:=some (.int .i64) }
theorem afE:aQ Tryz.prog 47 alJ:=aQ.of_eq (by kernel_rfl) (by kernel_rfl) rfl rfl (aO (i:=alJ) (s0:=(.int .i64)) rfl rfl rfl rfl)
abbrev alK:TI:={ desc:=.struct #[eF 3 0,eF 3 1,eF 46 2,eF 3 3,eF 3 4,eF 3 5,eF 47 6,eF 3 7,eF 3 8],size:=9,bytes:=72,zero:=[.int .i64 0,.int .i64 0,.int .i64 0,.int .i64 0,.int .i64 0,.int .i64 0,.int .i64 0,.int .i64 0,.int .i64 0],iZ:=some (.pair (.int .i64) (.pair (.int .i64) (.pair (.int .i64) (.pair (.int .i64) (.pair (.int .i64) (.pair (.int .i64) (.pair (.int .i64) (.pair (.int .i64) (.pair (.int .i64) .unit))))))))),AQ:=[.i,.i,.i,.i,.i,.i,.i,.i,.i] }
theorem afF:aQ Tryz.prog 48 alK:=aQ.of_eq (by kernel_rfl) (by kernel_rfl) rfl rfl (aO (i:=alK) (s0:=(.pair (.int .i64) (.pair (.int .i64) (.pair (.int .i64) (.pair (.int .i64) (.pair (.int .i64) (.pair (.int .i64) (.pair (.int .i64) (.pair (.int .i64) (.pair (.int .i64) .unit)))))))))) rfl rfl rfl rfl) (λ_=>by kernel_rfl)
abbrev alL:TI:={ desc:=.struct #[eF 3 0,eF 3 1,eF 46 2,eF 3 3,eF 3 4,eF 3 5,eF 47 6,eF 3 7,eF 3 8],size:=9,bytes:=72,zero:=[.int .i64 0,.int .i64 0,.int .i64 0,.int .i64 0,.int .i64 0,.int .i64 0,.int .i64 0,.int .i64 0,.int .i64 0],iZ:=some (.pair (.int .i64) (.pair (.int .i64) (.pair (.int .i64) (.pair (.int .i64) (.pair (.int .i64) (.pair (.int .i64) (.pair (.int .i64) (.pair (.int .i64) (.pair (.int .i64) .unit))))))))),AQ:=[.i,.i,.i,.i,.i,.i,.i,.i,.i] }
theorem afG:aQ Tryz.prog 49 alL:=aQ.of_eq (by kernel_rfl) (by kernel_rfl) rfl rfl (aO (i:=alL) (s0:=(.pair (.int .i64) (.pair (.int .i64) (.pair (.int .i64) (.pair (.int .i64) (.pair (.int .i64) (.pair (.int .i64) (.pair (.int .i64) (.pair (.int .i64) (.pair (.int .i64) .unit)))))))))) rfl rfl rfl rfl) (λ_=>by kernel_rfl)
abbrev alM:TI:={ desc:=.array 8 3,size:=8,bytes:=64,zero:=[.int .i64 0,.int .i64 0,.int .i64 0,.int .i64 0,.int .i64 0,.int .i64 0,.int .i64 0,.int .i64 0],iZ:=some (.arr 8 (.int .i64)),AQ:=[.i] }
theorem afH:aQ Tryz.prog 52 alM:=aQ.of_eq (by kernel_rfl) (by kernel_rfl) rfl rfl (aO (i:=alM) (s0:=(.arr 8 (.int .i64))) rfl rfl rfl rfl) (λ_=>by kernel_rfl)
abbrev alN:TI:={ desc:=.int .i64,size:=1,bytes:=8,zero:=[.int .i64 0],iZ:=some (.int .i64) }
theorem afI:aQ Tryz.prog 53 alN:=aQ.of_eq (by kernel_rfl) (by kernel_rfl) rfl rfl (aO (i:=alN) (s0:=(.int .i64)) rfl rfl rfl rfl)
abbrev alO:TI:={ desc:=.int .i64,size:=1,bytes:=8,zero:=[.int .i64 0],iZ:=some (.int .i64) }
theorem afJ:aQ Tryz.prog 54 alO:=aQ.of_eq (by kernel_rfl) (by kernel_rfl) rfl rfl (aO (i:=alO) (s0:=(.int .i64)) rfl rfl rfl rfl)
abbrev alP:TI:={ desc:=.struct #[eF 3 0,eF 3 1,eF 3 2,eF 52 3,eF 3 11,eF 3 12,eF 53 13,eF 54 14,eF 38 15,eF 31 16],size:=17,bytes:=152,zero:=[.int .i64 0,.int .i64 0,.int .i64 0,.int .i64 0,.int .i64 0,.int .i64 0,.int .i64 0,.int .i64 0,.int .i64 0,.int .i64 0,.int .i64 0,.int .i64 0,.int .i64 0,.int .i64 0,.int .i64 0,.int .i64 0,.slice none 0 0],iZ:=some (.pair (.int .i64) (.pair (.int .i64) (.pair (.int .i64) (.pair (.arr 8 (.int .i64)) (.pair (.int .i64) (.pair (.int .i64) (.pair (.int .i64) (.pair (.int .i64) (.pair (.int .i64) (.pair (.sl (.int .i64)) .unit)))))))))) }
theorem afK:aQ Tryz.prog 55 alP:=aQ.of_eq (by kernel_rfl) (by kernel_rfl) rfl rfl (aO (i:=alP) (s0:=(.pair (.int .i64) (.pair (.int .i64) (.pair (.int .i64) (.pair (.arr 8 (.int .i64)) (.pair (.int .i64) (.pair (.int .i64) (.pair (.int .i64) (.pair (.int .i64) (.pair (.int .i64) (.pair (.sl (.int .i64)) .unit))))))))))) rfl rfl rfl rfl)
abbrev alQ:TI:={ desc:=.struct #[eF 3 0,eF 3 1,eF 3 2,eF 52 3,eF 3 11,eF 3 12,eF 53 13,eF 54 14,eF 38 15,eF 31 16],size:=17,bytes:=152,zero:=[.int .i64 0,.int .i64 0,.int .i64 0,.int .i64 0,.int .i64 0,.int .i64 0,.int .i64 0,.int .i64 0,.int .i64 0,.int .i64 0,.int .i64 0,.int .i64 0,.int .i64 0,.int .i64 0,.int .i64 0,.int .i64 0,.slice none 0 0],iZ:=some (.pair (.int .i64) (.pair (.int .i64) (.pair (.int .i64) (.pair (.arr 8 (.int .i64)) (.pair (.int .i64) (.pair (.int .i64) (.pair (.int .i64) (.pair (.int .i64) (.pair (.int .i64) (.pair (.sl (.int .i64)) .unit)))))))))) }
theorem afL:aQ Tryz.prog 56 alQ:=aQ.of_eq (by kernel_rfl) (by kernel_rfl) rfl rfl (aO (i:=alQ) (s0:=(.pair (.int .i64) (.pair (.int .i64) (.pair (.int .i64) (.pair (.arr 8 (.int .i64)) (.pair (.int .i64) (.pair (.int .i64) (.pair (.int .i64) (.pair (.int .i64) (.pair (.int .i64) (.pair (.sl (.int .i64)) .unit))))))))))) rfl rfl rfl rfl)
abbrev alR:TI:={ desc:=.slice 67,size:=1,bytes:=24,zero:=[.slice none 0 0],iZ:=some (.sl (.pair (.int .i64) (.pair (.int .i64) .unit))) }
theorem afM:aQ Tryz.prog 63 alR:=aQ.of_eq (by kernel_rfl) (by kernel_rfl) rfl rfl (aO (i:=alR) (s0:=(.sl (.pair (.int .i64) (.pair (.int .i64) .unit)))) rfl rfl rfl rfl)
abbrev alS:TI:={ desc:=.struct #[eF 3 0,eF 3 1,eF 63 2],size:=3,bytes:=40,zero:=[.int .i64 0,.int .i64 0,.slice none 0 0],iZ:=some (.pair (.int .i64) (.pair (.int .i64) (.pair (.sl (.pair (.int .i64) (.pair (.int .i64) .unit))) .unit))) }
theorem afN:aQ Tryz.prog 64 alS:=aQ.of_eq (by kernel_rfl) (by kernel_rfl) rfl rfl (aO (i:=alS) (s0:=(.pair (.int .i64) (.pair (.int .i64) (.pair (.sl (.pair (.int .i64) (.pair (.int .i64) .unit))) .unit)))) rfl rfl rfl rfl)
abbrev alT:TI:={ desc:=.struct #[eF 3 0,eF 3 1,eF 63 2],size:=3,bytes:=40,zero:=[.int .i64 0,.int .i64 0,.slice none 0 0],iZ:=some (.pair (.int .i64) (.pair (.int .i64) (.pair (.sl (.pair (.int .i64) (.pair (.int .i64) .unit))) .unit))) }
theorem afO:aQ Tryz.prog 65 alT:=aQ.of_eq (by kernel_rfl) (by kernel_rfl) rfl rfl (aO (i:=alT) (s0:=(.pair (.int .i64) (.pair (.int .i64) (.pair (.sl (.pair (.int .i64) (.pair (.int .i64) .unit))) .unit)))) rfl rfl rfl rfl)
abbrev alU:TI:={ desc:=.struct #[eF 3 0,eF 3 1],size:=2,bytes:=16,zero:=[.int .i64 0,.int .i64 0],iZ:=some (.pair (.int .i64) (.pair (.int .i64) .unit)),AQ:=[.i,.i] }
theorem afP:aQ Tryz.prog 66 alU:=aQ.of_eq (by kernel_rfl) (by kernel_rfl) rfl rfl (aO (i:=alU) (s0:=(.pair (.int .i64) (.pair (.int .i64) .unit))) rfl rfl rfl rfl) (λ_=>by kernel_rfl)
abbrev alV:TI:={ desc:=.struct #[eF 3 0,eF 3 1],size:=2,bytes:=16,zero:=[.int .i64 0,.int .i64 0],iZ:=some (.pair (.int .i64) (.pair (.int .i64) .unit)),AQ:=[.i,.i] }
theorem afQ:aQ Tryz.prog 67 alV:=aQ.of_eq (by kernel_rfl) (by kernel_rfl) rfl rfl (aO (i:=alV) (s0:=(.pair (.int .i64) (.pair (.int .i64) .unit))) rfl rfl rfl rfl) (λ_=>by kernel_rfl)
abbrev alW:TI:={ desc:=.slice 91,size:=1,bytes:=24,zero:=[.slice none 0 0],iZ:=some (.sl (.pair (.int .i64) (.pair (.int .i64) (.pair (.int .i64) (.pair (.int .i64) (.pair (.int .i64) (.pair (.int .i64) (.pair (.int .i64) (.pair (.int .i64) .unit))))))))) }
theorem afR:aQ Tryz.prog 75 alW:=aQ.of_eq (by kernel_rfl) (by kernel_rfl) rfl rfl (aO (i:=alW) (s0:=(.sl (.pair (.int .i64) (.pair (.int .i64) (.pair (.int .i64) (.pair (.int .i64) (.pair (.int .i64) (.pair (.int .i64) (.pair (.int .i64) (.pair (.int .i64) .unit)))))))))) rfl rfl rfl rfl)
abbrev alX:TI:={ desc:=.struct #[eF 9 0,eF 75 1],size:=2,bytes:=40,zero:=[.string ⟨#[]⟩,.slice none 0 0],iZ:=some (.pair .str (.pair (.sl (.pair (.int .i64) (.pair (.int .i64) (.pair (.int .i64) (.pair (.int .i64) (.pair (.int .i64) (.pair (.int .i64) (.pair (.int .i64) (.pair (.int .i64) .unit))))))))) .unit)) }
theorem afS:aQ Tryz.prog 76 alX:=aQ.of_eq (by kernel_rfl) (by kernel_rfl) rfl rfl (aO (i:=alX) (s0:=(.pair .str (.pair (.sl (.pair (.int .i64) (.pair (.int .i64) (.pair (.int .i64) (.pair (.int .i64) (.pair (.int .i64) (.pair (.int .i64) (.pair (.int .i64) (.pair (.int .i64) .unit))))))))) .unit))) rfl rfl rfl rfl)
abbrev alY:TI:={ desc:=.struct #[eF 9 0,eF 75 1],size:=2,bytes:=40,zero:=[.string ⟨#[]⟩,.slice none 0 0],iZ:=some (.pair .str (.pair (.sl (.pair (.int .i64) (.pair (.int .i64) (.pair (.int .i64) (.pair (.int .i64) (.pair (.int .i64) (.pair (.int .i64) (.pair (.int .i64) (.pair (.int .i64) .unit))))))))) .unit)) }
theorem afT:aQ Tryz.prog 77 alY:=aQ.of_eq (by kernel_rfl) (by kernel_rfl) rfl rfl (aO (i:=alY) (s0:=(.pair .str (.pair (.sl (.pair (.int .i64) (.pair (.int .i64) (.pair (.int .i64) (.pair (.int .i64) (.pair (.int .i64) (.pair (.int .i64) (.pair (.int .i64) (.pair (.int .i64) .unit))))))))) .unit))) rfl rfl rfl rfl)
abbrev alZ:TI:={ desc:=.struct #[eF 3 0,eF 3 1],size:=2,bytes:=16,zero:=[.int .i64 0,.int .i64 0],iZ:=some (.pair (.int .i64) (.pair (.int .i64) .unit)),AQ:=[.i,.i] }
theorem afU:aQ Tryz.prog 81 alZ:=aQ.of_eq (by kernel_rfl) (by kernel_rfl) rfl rfl (aO (i:=alZ) (s0:=(.pair (.int .i64) (.pair (.int .i64) .unit))) rfl rfl rfl rfl) (λ_=>by kernel_rfl)
abbrev al0:TI:={ desc:=.struct #[eF 3 0,eF 3 1],size:=2,bytes:=16,zero:=[.int .i64 0,.int .i64 0],iZ:=some (.pair (.int .i64) (.pair (.int .i64) .unit)),AQ:=[.i,.i] }
theorem afV:aQ Tryz.prog 82 al0:=aQ.of_eq (by kernel_rfl) (by kernel_rfl) rfl rfl (aO (i:=al0) (s0:=(.pair (.int .i64) (.pair (.int .i64) .unit))) rfl rfl rfl rfl) (λ_=>by kernel_rfl)
abbrev al1:TI:={ desc:=.int .i64,size:=1,bytes:=8,zero:=[.int .i64 0],iZ:=some (.int .i64) }
theorem afW:aQ Tryz.prog 88 al1:=aQ.of_eq (by kernel_rfl) (by kernel_rfl) rfl rfl (aO (i:=al1) (s0:=(.int .i64)) rfl rfl rfl rfl)
abbrev al2:TI:={ desc:=.int .i64,size:=1,bytes:=8,zero:=[.int .i64 0],iZ:=some (.int .i64) }
theorem afX:aQ Tryz.prog 89 al2:=aQ.of_eq (by kernel_rfl) (by kernel_rfl) rfl rfl (aO (i:=al2) (s0:=(.int .i64)) rfl rfl rfl rfl)
abbrev al3:TI:={ desc:=.struct #[eF 88 0,eF 3 1,eF 3 2,eF 3 3,eF 3 4,eF 3 5,eF 89 6,eF 47 7],size:=8,bytes:=64,zero:=[.int .i64 0,.int .i64 0,.int .i64 0,.int .i64 0,.int .i64 0,.int .i64 0,.int .i64 0,.int .i64 0],iZ:=some (.pair (.int .i64) (.pair (.int .i64) (.pair (.int .i64) (.pair (.int .i64) (.pair (.int .i64) (.pair (.int .i64) (.pair (.int .i64) (.pair (.int .i64) .unit)))))))),AQ:=[.i,.i,.i,.i,.i,.i,.i,.i] }
theorem afY:aQ Tryz.prog 90 al3:=aQ.of_eq (by kernel_rfl) (by kernel_rfl) rfl rfl (aO (i:=al3) (s0:=(.pair (.int .i64) (.pair (.int .i64) (.pair (.int .i64) (.pair (.int .i64) (.pair (.int .i64) (.pair (.int .i64) (.pair (.int .i64) (.pair (.int .i64) .unit))))))))) rfl rfl rfl rfl) (λ_=>by kernel_rfl)
abbrev al4:TI:={ desc:=.struct #[eF 88 0,eF 3 1,eF 3 2,eF 3 3,eF 3 4,eF 3 5,eF 89 6,eF 47 7],size:=8,bytes:=64,zero:=[.int .i64 0,.int .i64 0,.int .i64 0,.int .i64 0,.int .i64 0,.int .i64 0,.int .i64 0,.int .i64 0],iZ:=some (.pair (.int .i64) (.pair (.int .i64) (.pair (.int .i64) (.pair (.int .i64) (.pair (.int .i64) (.pair (.int .i64) (.pair (.int .i64) (.pair (.int .i64) .unit)))))))),AQ:=[.i,.i,.i,.i,.i,.i,.i,.i] }
theorem afZ:aQ Tryz.prog 91 al4:=aQ.of_eq (by kernel_rfl) (by kernel_rfl) rfl rfl (aO (i:=al4) (s0:=(.pair (.int .i64) (.pair (.int .i64) (.pair (.int .i64) (.pair (.int .i64) (.pair (.int .i64) (.pair (.int .i64) (.pair (.int .i64) (.pair (.int .i64) .unit))))))))) rfl rfl rfl rfl) (λ_=>by kernel_rfl)
abbrev aak:TI:={ desc:=.struct #[eF 9 0,eF 3 1],size:=2,bytes:=24,zero:=[.string ⟨#[]⟩,.int .i64 0],iZ:=some (.pair .str (.pair (.int .i64) .unit)),AQ:=[.s,.i] }
theorem aal:aQ Tryz.prog 117 aak:=aQ.of_eq (by kernel_rfl) (by kernel_rfl) rfl rfl (aO (i:=aak) (s0:=(.pair .str (.pair (.int .i64) .unit))) rfl rfl rfl rfl) (λ_=>by kernel_rfl)
abbrev aam:TI:={ desc:=.struct #[eF 9 0,eF 3 1],size:=2,bytes:=24,zero:=[.string ⟨#[]⟩,.int .i64 0],iZ:=some (.pair .str (.pair (.int .i64) .unit)),AQ:=[.s,.i] }
theorem aan:aQ Tryz.prog 118 aam:=aQ.of_eq (by kernel_rfl) (by kernel_rfl) rfl rfl (aO (i:=aam) (s0:=(.pair .str (.pair (.int .i64) .unit))) rfl rfl rfl rfl) (λ_=>by kernel_rfl)
abbrev aao:TI:={ desc:=.int .i64,size:=1,bytes:=8,zero:=[.int .i64 0],iZ:=some (.int .i64) }
theorem aap:aQ Tryz.prog 151 aao:=aQ.of_eq (by kernel_rfl) (by kernel_rfl) rfl rfl (aO (i:=aao) (s0:=(.int .i64)) rfl rfl rfl rfl)
abbrev aaq:TI:={ desc:=.struct #[eF 3 0,eF 4 1,eF 3 2,eF 3 3,eF 4 4,eF 3 5,eF 151 6,eF 4 7],size:=8,bytes:=64,zero:=[.int .i64 0,.bool false,.int .i64 0,.int .i64 0,.bool false,.int .i64 0,.int .i64 0,.bool false],iZ:=some (.pair (.int .i64) (.pair .bool (.pair (.int .i64) (.pair (.int .i64) (.pair .bool (.pair (.int .i64) (.pair (.int .i64) (.pair .bool .unit)))))))),AQ:=[.i,.b,.i,.i,.b,.i,.i,.b] }
theorem aar:aQ Tryz.prog 152 aaq:=aQ.of_eq (by kernel_rfl) (by kernel_rfl) rfl rfl (aO (i:=aaq) (s0:=(.pair (.int .i64) (.pair .bool (.pair (.int .i64) (.pair (.int .i64) (.pair .bool (.pair (.int .i64) (.pair (.int .i64) (.pair .bool .unit))))))))) rfl rfl rfl rfl) (λ_=>by kernel_rfl)
abbrev aas:TI:={ desc:=.struct #[eF 3 0,eF 4 1,eF 3 2,eF 3 3,eF 4 4,eF 3 5,eF 151 6,eF 4 7],size:=8,bytes:=64,zero:=[.int .i64 0,.bool false,.int .i64 0,.int .i64 0,.bool false,.int .i64 0,.int .i64 0,.bool false],iZ:=some (.pair (.int .i64) (.pair .bool (.pair (.int .i64) (.pair (.int .i64) (.pair .bool (.pair (.int .i64) (.pair (.int .i64) (.pair .bool .unit)))))))),AQ:=[.i,.b,.i,.i,.b,.i,.i,.b] }
theorem aat:aQ Tryz.prog 153 aas:=aQ.of_eq (by kernel_rfl) (by kernel_rfl) rfl rfl (aO (i:=aas) (s0:=(.pair (.int .i64) (.pair .bool (.pair (.int .i64) (.pair (.int .i64) (.pair .bool (.pair (.int .i64) (.pair (.int .i64) (.pair .bool .unit))))))))) rfl rfl rfl rfl) (λ_=>by kernel_rfl)
abbrev aau:TI:={ desc:=.array 17 153,size:=136,bytes:=1088,zero:=[.int .i64 0,.bool false,.int .i64 0,.int .i64 0,.bool false,.int .i64 0,.int .i64 0,.bool false,.int .i64 0,.bool false,.int .i64 0,.int .i64 0,.bool false,.int .i64 0,.int .i64 0,.bool false,.int .i64 0,.bool false,.int .i64 0,.int .i64 0,.bool false,.int .i64 0,.int .i64 0,.bool false,.int .i64 0,.bool false,.int .i64 0,.int .i64 0,.bool false,.int .i64 0,.int .i64 0,.bool false,.int .i64 0,.bool false,.int .i64 0,.int .i64 0,.bool false,.int .i64 0,.int .i64 0,.bool false,.int .i64 0,.bool false,.int .i64 0,.int .i64 0,.bool false,.int .i64 0,.int .i64 0,.bool false,.int .i64 0,.bool false,.int .i64 0,.int .i64 0,.bool false,.int .i64 0,.int .i64 0,.bool false,.int .i64 0,.bool false,.int .i64 0,.int .i64 0,.bool false,.int .i64 0,.int .i64 0,.bool false,.int .i64 0,.bool false,.int .i64 0,.int .i64 0,.bool false,.int .i64 0,.int .i64 0,.bool false,.int .i64 0,.bool false,.int .i64 0,.int .i64 0,.bool false,.int .i64 0,.int .i64 0,.bool false,.int .i64 0,.bool false,.int .i64 0,.int .i64 0,.bool false,.int .i64 0,.int .i64 0,.bool false,.int .i64 0,.bool false,.int .i64 0,.int .i64 0,.bool false,.int .i64 0,.int .i64 0,.bool false,.int .i64 0,.bool false,.int .i64 0,.int .i64 0,.bool false,.int .i64 0,.int .i64 0,.bool false,.int .i64 0,.bool false,.int .i64 0,.int .i64 0,.bool false,.int .i64 0,.int .i64 0,.bool false,.int .i64 0,.bool false,.int .i64 0,.int .i64 0,.bool false,.int .i64 0,.int .i64 0,.bool false,.int .i64 0,.bool false,.int .i64 0,.int .i64 0,.bool false,.int .i64 0,.int .i64 0,.bool false,.int .i64 0,.bool false,.int .i64 0,.int .i64 0,.bool false,.int .i64 0,.int .i64 0,.bool false],iZ:=some (.arr 17 (.pair (.int .i64) (.pair .bool (.pair (.int .i64) (.pair (.int .i64) (.pair .bool (.pair (.int .i64) (.pair (.int .i64) (.pair .bool .unit))))))))) }
theorem aav:aQ Tryz.prog 154 aau:=aQ.of_eq (by kernel_rfl) (by kernel_rfl) rfl rfl (aO (i:=aau) (s0:=(.arr 17 (.pair (.int .i64) (.pair .bool (.pair (.int .i64) (.pair (.int .i64) (.pair .bool (.pair (.int .i64) (.pair (.int .i64) (.pair .bool .unit)))))))))) rfl rfl rfl rfl)
abbrev aaw:TI:={ desc:=.slice 158,size:=1,bytes:=24,zero:=[.slice none 0 0],iZ:=some (.sl (.pair (.int .i64) (.pair (.int .i64) (.pair (.int .i64) (.pair .bool .unit))))) }
theorem aax:aQ Tryz.prog 155 aaw:=aQ.of_eq (by kernel_rfl) (by kernel_rfl) rfl rfl (aO (i:=aaw) (s0:=(.sl (.pair (.int .i64) (.pair (.int .i64) (.pair (.int .i64) (.pair .bool .unit)))))) rfl rfl rfl rfl)
abbrev aay:TI:={ desc:=.struct #[eF 151 0,eF 3 1,eF 3 2,eF 4 3],size:=4,bytes:=32,zero:=[.int .i64 0,.int .i64 0,.int .i64 0,.bool false],iZ:=some (.pair (.int .i64) (.pair (.int .i64) (.pair (.int .i64) (.pair .bool .unit)))),AQ:=[.i,.i,.i,.b] }
theorem aaz:aQ Tryz.prog 157 aay:=aQ.of_eq (by kernel_rfl) (by kernel_rfl) rfl rfl (aO (i:=aay) (s0:=(.pair (.int .i64) (.pair (.int .i64) (.pair (.int .i64) (.pair .bool .unit))))) rfl rfl rfl rfl) (λ_=>by kernel_rfl)
abbrev aaA:TI:={ desc:=.struct #[eF 151 0,eF 3 1,eF 3 2,eF 4 3],size:=4,bytes:=32,zero:=[.int .i64 0,.int .i64 0,.int .i64 0,.bool false],iZ:=some (.pair (.int .i64) (.pair (.int .i64) (.pair (.int .i64) (.pair .bool .unit)))),AQ:=[.i,.i,.i,.b] }
theorem aaB:aQ Tryz.prog 158 aaA:=aQ.of_eq (by kernel_rfl) (by kernel_rfl) rfl rfl (aO (i:=aaA) (s0:=(.pair (.int .i64) (.pair (.int .i64) (.pair (.int .i64) (.pair .bool .unit))))) rfl rfl rfl rfl) (λ_=>by kernel_rfl)
abbrev aaC:TI:={ desc:=.slice 4,size:=1,bytes:=24,zero:=[.slice none 0 0],iZ:=some (.sl .bool) }
theorem aaD:aQ Tryz.prog 159 aaC:=aQ.of_eq (by kernel_rfl) (by kernel_rfl) rfl rfl (aO (i:=aaC) (s0:=(.sl .bool)) rfl rfl rfl rfl)
abbrev aaE:TI:={ desc:=.struct #[eF 3 0,eF 3 1],size:=2,bytes:=16,zero:=[.int .i64 0,.int .i64 0],iZ:=some (.pair (.int .i64) (.pair (.int .i64) .unit)),AQ:=[.i,.i] }
theorem aaF:aQ Tryz.prog 161 aaE:=aQ.of_eq (by kernel_rfl) (by kernel_rfl) rfl rfl (aO (i:=aaE) (s0:=(.pair (.int .i64) (.pair (.int .i64) .unit))) rfl rfl rfl rfl) (λ_=>by kernel_rfl)
abbrev aaG:TI:={ desc:=.struct #[eF 3 0,eF 3 1],size:=2,bytes:=16,zero:=[.int .i64 0,.int .i64 0],iZ:=some (.pair (.int .i64) (.pair (.int .i64) .unit)),AQ:=[.i,.i] }
theorem aaH:aQ Tryz.prog 162 aaG:=aQ.of_eq (by kernel_rfl) (by kernel_rfl) rfl rfl (aO (i:=aaG) (s0:=(.pair (.int .i64) (.pair (.int .i64) .unit))) rfl rfl rfl rfl) (λ_=>by kernel_rfl)
abbrev aaI:TI:={ desc:=.int .u32,size:=1,bytes:=4,zero:=[.int .u32 0],iZ:=some (.int .u32) }
theorem aaJ:aQ Tryz.prog 167 aaI:=aQ.of_eq (by kernel_rfl) (by kernel_rfl) rfl rfl (aO (i:=aaI) (s0:=(.int .u32)) rfl rfl rfl rfl)
abbrev aaK:TI:={ desc:=.array 7 4,size:=7,bytes:=7,zero:=[.bool false,.bool false,.bool false,.bool false,.bool false,.bool false,.bool false],iZ:=some (.arr 7 .bool) }
theorem aaL:aQ Tryz.prog 180 aaK:=aQ.of_eq (by kernel_rfl) (by kernel_rfl) rfl rfl (aO (i:=aaK) (s0:=(.arr 7 .bool)) rfl rfl rfl rfl)
abbrev aaM:TI:={ desc:=.struct #[eF 9 0,eF 180 1],size:=8,bytes:=24,zero:=[.string ⟨#[]⟩,.bool false,.bool false,.bool false,.bool false,.bool false,.bool false,.bool false],iZ:=some (.pair .str (.pair (.arr 7 .bool) .unit)) }
theorem aaN:aQ Tryz.prog 181 aaM:=aQ.of_eq (by kernel_rfl) (by kernel_rfl) rfl rfl (aO (i:=aaM) (s0:=(.pair .str (.pair (.arr 7 .bool) .unit))) rfl rfl rfl rfl)
abbrev aaO:TI:={ desc:=.struct #[eF 9 0,eF 180 1],size:=8,bytes:=24,zero:=[.string ⟨#[]⟩,.bool false,.bool false,.bool false,.bool false,.bool false,.bool false,.bool false],iZ:=some (.pair .str (.pair (.arr 7 .bool) .unit)) }
theorem aaP:aQ Tryz.prog 182 aaO:=aQ.of_eq (by kernel_rfl) (by kernel_rfl) rfl rfl (aO (i:=aaO) (s0:=(.pair .str (.pair (.arr 7 .bool) .unit))) rfl rfl rfl rfl)
abbrev aaQ:TI:={ desc:=.array 22 182,size:=176,bytes:=528,zero:=[.string ⟨#[]⟩,.bool false,.bool false,.bool false,.bool false,.bool false,.bool false,.bool false,.string ⟨#[]⟩,.bool false,.bool false,.bool false,.bool false,.bool false,.bool false,.bool false,.string ⟨#[]⟩,.bool false,.bool false,.bool false,.bool false,.bool false,.bool false,.bool false,.string ⟨#[]⟩,.bool false,.bool false,.bool false,.bool false,.bool false,.bool false,.bool false,.string ⟨#[]⟩,.bool false,.bool false,.bool false,.bool false,.bool false,.bool false,.bool false,.string ⟨#[]⟩,.bool false,.bool false,.bool false,.bool false,.bool false,.bool false,.bool false,.string ⟨#[]⟩,.bool false,.bool false,.bool false,.bool false,.bool false,.bool false,.bool false,.string ⟨#[]⟩,.bool false,.bool false,.bool false,.bool false,.bool false,.bool false,.bool false,.string ⟨#[]⟩,.bool false,.bool false,.bool false,.bool false,.bool false,.bool false,.bool false,.string ⟨#[]⟩,.bool false,.bool false,.bool false,.bool false,.bool false,.bool false,.bool false,.string ⟨#[]⟩,.bool false,.bool false,.bool false,.bool false,.bool false,.bool false,.bool false,.string ⟨#[]⟩,.bool false,.bool false,.bool false,.bool false,.bool false,.bool false,.bool false,.string ⟨#[]⟩,.bool false,.bool false,.bool false,.bool false,.bool false,.bool false,.bool false,.string ⟨#[]⟩,.bool false,.bool false,.bool false,.bool false,.bool false,.bool false,.bool false,.string ⟨#[]⟩,.bool false,.bool false,.bool false,.bool false,.bool false,.bool false,.bool false,.string ⟨#[]⟩,.bool false,.bool false,.bool false,.bool false,.bool false,.bool false,.bool false,.string ⟨#[]⟩,.bool false,.bool false,.bool false,.bool false,.bool false,.bool false,.bool false,.string ⟨#[]⟩,.bool false,.bool false,.bool false,.bool false,.bool false,.bool false,.bool false,.string ⟨#[]⟩,.bool false,.bool false,.bool false,.bool false,.bool false,.bool false,.bool false,.string ⟨#[]⟩,.bool false,.bool false,.bool false,.bool false,.bool false,.bool false,.bool false,.string ⟨#[]⟩,.bool false,.bool false,.bool false,.bool false,.bool false,.bool false,.bool false,.string ⟨#[]⟩,.bool false,.bool false,.bool false,.bool false,.bool false,.bool false,.bool false],iZ:=some (.arr 22 (.pair .str (.pair (.arr 7 .bool) .unit))) }
theorem aaR:aQ Tryz.prog 183 aaQ:=aQ.of_eq (by kernel_rfl) (by kernel_rfl) rfl rfl (aO (i:=aaQ) (s0:=(.arr 22 (.pair .str (.pair (.arr 7 .bool) .unit)))) rfl rfl rfl rfl)
abbrev aaS:TI:={ desc:=.slice 23,size:=1,bytes:=24,zero:=[.slice none 0 0],iZ:=some (.sl (.sl .str)) }
theorem aaT:aQ Tryz.prog 194 aaS:=aQ.of_eq (by kernel_rfl) (by kernel_rfl) rfl rfl (aO (i:=aaS) (s0:=(.sl (.sl .str))) rfl rfl rfl rfl)
abbrev aaU:TI:={ desc:=.array 4 3,size:=4,bytes:=32,zero:=[.int .i64 0,.int .i64 0,.int .i64 0,.int .i64 0],iZ:=some (.arr 4 (.int .i64)),AQ:=[.i] }
theorem aaV:aQ Tryz.prog 203 aaU:=aQ.of_eq (by kernel_rfl) (by kernel_rfl) rfl rfl (aO (i:=aaU) (s0:=(.arr 4 (.int .i64))) rfl rfl rfl rfl) (λ_=>by kernel_rfl)
abbrev aaW:TI:={ desc:=.array 7 3,size:=7,bytes:=56,zero:=[.int .i64 0,.int .i64 0,.int .i64 0,.int .i64 0,.int .i64 0,.int .i64 0,.int .i64 0],iZ:=some (.arr 7 (.int .i64)),AQ:=[.i] }
theorem aaX:aQ Tryz.prog 204 aaW:=aQ.of_eq (by kernel_rfl) (by kernel_rfl) rfl rfl (aO (i:=aaW) (s0:=(.arr 7 (.int .i64))) rfl rfl rfl rfl) (λ_=>by kernel_rfl)
abbrev aaY:TI:={ desc:=.array 3 3,size:=3,bytes:=24,zero:=[.int .i64 0,.int .i64 0,.int .i64 0],iZ:=some (.arr 3 (.int .i64)),AQ:=[.i] }
theorem aaZ:aQ Tryz.prog 206 aaY:=aQ.of_eq (by kernel_rfl) (by kernel_rfl) rfl rfl (aO (i:=aaY) (s0:=(.arr 3 (.int .i64))) rfl rfl rfl rfl) (λ_=>by kernel_rfl)
abbrev aa0:TI:={ desc:=.array 10 9,size:=10,bytes:=160,zero:=[.string ⟨#[]⟩,.string ⟨#[]⟩,.string ⟨#[]⟩,.string ⟨#[]⟩,.string ⟨#[]⟩,.string ⟨#[]⟩,.string ⟨#[]⟩,.string ⟨#[]⟩,.string ⟨#[]⟩,.string ⟨#[]⟩],iZ:=some (.arr 10 .str) }
theorem aa1:aQ Tryz.prog 214 aa0:=aQ.of_eq (by kernel_rfl) (by kernel_rfl) rfl rfl (aO (i:=aa0) (s0:=(.arr 10 .str)) rfl rfl rfl rfl)
abbrev aa2:TI:={ desc:=.int .u64,size:=1,bytes:=8,zero:=[.int .u64 0],iZ:=some (.int .u64) }
theorem aa3:aQ Tryz.prog 217 aa2:=aQ.of_eq (by kernel_rfl) (by kernel_rfl) rfl rfl (aO (i:=aa2) (s0:=(.int .u64)) rfl rfl rfl rfl)
abbrev aa4:TI:={ desc:=.int .u64,size:=1,bytes:=8,zero:=[.int .u64 0],iZ:=some (.int .u64) }
theorem aa5:aQ Tryz.prog 230 aa4:=aQ.of_eq (by kernel_rfl) (by kernel_rfl) rfl rfl (aO (i:=aa4) (s0:=(.int .u64)) rfl rfl rfl rfl)
abbrev tis:List (Nat×TI):=[(3,ti3),(4,ti4),(5,ti5),(9,ti9),(21,alo),(22,alp),(23,alq),(24,alr),(25,als),(26,alu),(27,alv),(30,alx),(31,aly),(32,alz),(33,alA),(34,alB),(35,alC),(36,alD),(37,alE),(38,alF),(43,alG),(44,alH),(46,alI),(47,alJ),(48,alK),(49,alL),(52,alM),(53,alN),(54,alO),(55,alP),(56,alQ),(63,alR),(64,alS),(65,alT),(66,alU),(67,alV),(75,alW),(76,alX),(77,alY),(81,alZ),(82,al0),(88,al1),(89,al2),(90,al3),(91,al4),(117,aak),(118,aam),(151,aao),(152,aaq),(153,aas),(154,aau),(155,aaw),(157,aay),(158,aaA),(159,aaC),(161,aaE),(162,aaG),(167,aaI),(180,aaK),(181,aaM),(182,aaO),(183,aaQ),(194,aaS),(203,aaU),(204,aaW),(206,aaY),(214,aa0),(217,aa2),(230,aa4)]
theorem ay:cO Tryz.prog tis:=⟨alj,alk,alm,aln,afl,afm,afn,afo,afp,afq,afr,afs,aft,afu,afv,afw,afx,afy,afz,afA,afB,afC,afD,afE,afF,afG,afH,afI,afJ,afK,afL,afM,afN,afO,afP,afQ,afR,afS,afT,afU,afV,afW,afX,afY,afZ,aal,aan,aap,aar,aat,aav,aax,aaz,aaB,aaD,aaF,aaH,aaJ,aaL,aaN,aaP,aaR,aaT,aaV,aaX,aaZ,aa1,aa3,aa5,trivial⟩
abbrev I6:Sh:=.int .i64
abbrev iR(n:Int):Prop:=nM IntKind.i64 n
abbrev iU:Int:=4294967296
abbrev iN:SC:=SC.v (Value.slice none 0 0)
abbrev v6(n:Int):SC:=.v (.int .i64 n)
abbrev cI(n:Int):SV:=.c (.v (.int .i64 n))
abbrev cB(b:Bool):SV:=.c (.v (.bool b))
abbrev g0(r:aj):Go.jw.Gd×aj:=([],r)
abbrev rE(a b:aW):Prop:=([]:List aj)=[]/\a=b
abbrev rT(a b:List SV):Prop:=([]:List aj)=[]/\aW.gY a=aW.gY b
abbrev qI(a b:Int):Prop:=([]:List aj)=[]/\aW.one (.c (.v (.int .i64 a)))=aW.one (.c (.v (.int .i64 b)))
abbrev qB(a b:Bool):Prop:=([]:List aj)=[]/\aW.one (.c (.v (.bool a)))=aW.one (.c (.v (.bool b)))
abbrev sm{α:Type} (a:α):Prop:=a=a
def al5:List (List Bool):=[[true,false,false,false,true,false,false],[true,true,false,false,false,false,false],[true,true,true,false,false,true,false],[false,false,false,false,true,false,false],[false,true,false,false,true,false,false],[false,true,false,false,false,false,false],[false,false,false,false,false,false,false],[true,false,false,true,false,false,true],[false,true,false,true,false,false,true],[true,true,false,true,false,false,true],[true,true,false,true,false,false,true],[true,true,true,true,false,false,true],[false,false,false,false,false,false,false],[true,true,false,true,false,true,true],[false,false,false,true,false,false,false],[false,false,false,true,false,false,false],[true,false,false,true,false,false,false],[false,false,false,true,true,false,false],[false,false,false,true,false,false,false],[false,false,false,true,false,false,false],[true,true,false,true,false,false,false],[false,true,false,false,false,false,false]]
def fieldsD:List ByteArray:=[⟨#[65,78]⟩,⟨#[65,66]⟩,⟨#[70,65,66,67]⟩,⟨#[78]⟩,⟨#[66,78]⟩,⟨#[66]⟩,⟨#[]⟩,⟨#[65,79,82]⟩,⟨#[79,66,82]⟩,⟨#[65,79,66,82]⟩,⟨#[65,79,66,82]⟩,⟨#[65,79,66,67,82]⟩,⟨#[]⟩,⟨#[65,79,70,66,82]⟩,⟨#[79]⟩,⟨#[79]⟩,⟨#[65,79]⟩,⟨#[79,78]⟩,⟨#[79]⟩,⟨#[79]⟩,⟨#[65,79,66]⟩,⟨#[66]⟩]
def KU:List ByteArray:=[⟨#[97,100,100]⟩,⟨#[115,117,98]⟩,⟨#[109,117,108]⟩,⟨#[97,110,100]⟩,⟨#[111,114]⟩,⟨#[120,111,114]⟩,⟨#[101,113]⟩,⟨#[110,101]⟩,⟨#[108,116]⟩,⟨#[108,101]⟩]
def Oq:List (ByteArray×List Bool×Unit):=[(⟨#[99,111,110,115,116]⟩,[true,false,false,false,true,false,false],()),(⟨#[99,111,112,121]⟩,[true,true,false,false,false,false,false],()),(⟨#[99,97,108,99]⟩,[true,true,true,false,false,true,false],()),(⟨#[106,117,109,112]⟩,[false,false,false,false,true,false,false],()),(⟨#[98,114,97,110,99,104]⟩,[false,true,false,false,true,false,false],()),(⟨#[97,115,115,101,114,116]⟩,[false,true,false,false,false,false,false],()),(⟨#[115,116,111,112]⟩,[false,false,false,false,false,false,false],()),(⟨#[108,111,97,100]⟩,[true,false,false,true,false,false,true],()),(⟨#[115,116,111,114,101]⟩,[false,true,false,true,false,false,true],()),(⟨#[115,119,97,112]⟩,[true,true,false,true,false,false,true],()),(⟨#[102,101,116,99,104,97,100,100]⟩,[true,true,false,true,false,false,true],()),(⟨#[99,97,115]⟩,[true,true,true,true,false,false,true],()),(⟨#[102,101,110,99,101]⟩,[false,false,false,false,false,false,false],()),(⟨#[97,119,97,105,116]⟩,[true,true,false,true,false,true,true],()),(⟨#[108,111,99,107]⟩,[false,false,false,true,false,false,false],()),(⟨#[117,110,108,111,99,107]⟩,[false,false,false,true,false,false,false],()),(⟨#[116,114,121,108,111,99,107]⟩,[true,false,false,true,false,false,false],()),(⟨#[119,97,105,116]⟩,[false,false,false,true,true,false,false],()),(⟨#[115,105,103,110,97,108]⟩,[false,false,false,true,false,false,false],()),(⟨#[98,114,111,97,100,99,97,115,116]⟩,[false,false,false,true,false,false,false],()),(⟨#[115,112,97,119,110]⟩,[true,true,false,true,false,false,false],()),(⟨#[106,111,105,110]⟩,[false,true,false,false,false,false,false],())]
abbrev gd0:Nat->Option (Sigma Sh.den):=λg=>match g with
 | 1=>some ⟨.arr 22 (.pair .str (.pair (.arr 7 .bool) .unit)),Oq⟩
 | 2=>some ⟨.arr 10 .str,KU⟩
 | _=>none
abbrev aK:Cx:={ ti:=tis,gd:=gd0 }
abbrev jT:Sh:=.pair (.int .i64) (.pair (.int .i64) (.pair (.int .i64) (.pair (.int .i64) (.pair (.int .i64) (.pair (.int .i64) (.pair (.int .i64) (.pair (.int .i64) .unit)))))))
def use(op:Int) (k:Nat):Bool:=decide (1<=op) && decide (op<=22) && (al5.getD (op - 1).toNat []).getD k false
def uf(op:Int):Bool:=decide (1<=op) && decide (op<=22)
def vY(f:Int):ByteArray:=if 1<=f/\f<=10 then KU.getD (f - 1).toNat ByteArray.empty else ByteArray.empty
abbrev apY:CT:={ ps:=[],pre:=λd=>True,res:=λd=>([.row 9 .str fieldsD],.one (.c (.row 0))) }
abbrev al6  : Nat->Option (St->iE):=λ_=>none
abbrev mD:=SV.c (SC.row (0:Nat))
theorem af0 :
 [aj.row (9:TypeId) Sh.str fieldsD]=[aj.row (9:TypeId) Sh.str [{ data:=#[(65:UInt8),78]:ByteArray },{ data:=#[(65:UInt8),66]:ByteArray },{ data:=#[(70:UInt8),65,66,67]:ByteArray },{ data:=#[(78:UInt8)]:ByteArray },{ data:=#[(66:UInt8),78]:ByteArray },{ data:=#[(66:UInt8)]:ByteArray },{ data:=#[]:ByteArray },{ data:=#[(65:UInt8),79,82]:ByteArray },{ data:=#[(79:UInt8),66,82]:ByteArray },{ data:=#[(65:UInt8),79,66,82]:ByteArray },{ data:=#[(65:UInt8),79,66,82]:ByteArray },{ data:=#[(65:UInt8),79,66,67,82]:ByteArray },{ data:=#[]:ByteArray },{ data:=#[(65:UInt8),79,70,66,82]:ByteArray },{ data:=#[(79:UInt8)]:ByteArray },{ data:=#[(79:UInt8)]:ByteArray },{ data:=#[(65:UInt8),79]:ByteArray },{ data:=#[(79:UInt8),78]:ByteArray },{ data:=#[(79:UInt8)]:ByteArray },{ data:=#[(79:UInt8)]:ByteArray },{ data:=#[(65:UInt8),79,66]:ByteArray },{ data:=#[(66:UInt8)]:ByteArray }]]/\aW.one mD=aW.one mD:=by
 delta mD;exact⟨rfl,rfl⟩
theorem aa6:aN aK.gd 206 apY:=
 jG (cx:=aK) (n:=2) (cl:=[]) ay trivial Tryz.func206 λd hd=>by
  obtain⟨⟩:=d;exact⟨al6 ,cast (by kernel_rfl) (af0 )⟩
abbrev apZ:CT:={ ps:=[.int .i64],pre:=λd=>True,res:=λd=>([],vB (uf d.1)) }
theorem af2(op:Int):
 qB (uf op) (decide (1<=op) && decide (op<=22)):=by
 delta qB;exact⟨rfl,rfl⟩
theorem aa7:aN aK.gd 197 apZ:=
 jG (cx:=aK) (n:=9) (cl:=[]) ay trivial Tryz.func197 λd hd=>by
  obtain⟨op,⟨⟩⟩:=d;exact⟨λ_=>none,cast (by kernel_rfl) (af2 op)⟩
abbrev ap0:CT:={ ps:=[.int .i64],pre:=λd=>True,res:=λd=>([],vB (decide (0<=d.1) && decide (d.1 < 8))) }
theorem af4(r:Int):
 let z1:=decide (0<=r) && decide (r < 8);qB z1 z1:=by
 conv=>zeta
 delta qB;exact⟨rfl,rfl⟩
theorem aa8:aN aK.gd 204 ap0:=
 jG (cx:=aK) (n:=9) (cl:=[]) ay trivial Tryz.func204 λd hd=>by
  obtain⟨r,⟨⟩⟩:=d;exact⟨λ_=>none,cast (by kernel_rfl) (af4 r)⟩
abbrev ap1:CT:={ ps:=[jT],pre:=λd=>True,res:=λd=>([],.one (.dat (.arr 7 (.int .i64)) [d.1.2.1,d.1.2.2.1,d.1.2.2.2.1,d.1.2.2.2.2.1,d.1.2.2.2.2.2.1,d.1.2.2.2.2.2.2.1,d.1.2.2.2.2.2.2.2.1])) }
theorem af5(op a b c obj n fn ord:Int):
 let z1:=[a,b,c,obj,n,fn,ord];rE (aW.one (SV.dat (Sh.arr 7 I6) z1)) (aW.one (SV.dat (Sh.arr 7 I6) z1)):=by
 conv=>zeta
 delta rE I6;exact⟨rfl,rfl⟩
theorem aa9:aN aK.gd 198 ap1:=
 jG (cx:=aK) (n:=18) (cl:=[]) ay trivial Tryz.func198 λd hd=>by
  obtain⟨⟨op,a,b,c,obj,n,fn,ord,⟨⟩⟩,⟨⟩⟩:=d;exact⟨λ_=>none,cast (by kernel_rfl) (af5 op a b c obj n fn ord)⟩
abbrev ap3:CT:={ ps:=[.int .i64],pre:=λd=>True,res:=λd=>([],.one (.c (.v (.string (vY d.1))))) }
theorem af6(f:Int):
 let z1:=aW.one (SV.c (SC.v (Value.string (vY f))));br (decide (f < 1) || decide (10 < f)) (rE z1 (aW.one (SV.c (SC.v (Value.string { data:=#[]:ByteArray }))))) (iR (f - 1)/\(0<=f - 1/\f - 1 < (10:Int))/\∀(d:ByteArray),KU[(f - 1).toNat]?=some d->rE z1 (aW.one (SV.c (SC.v (Value.string d))))):=by
 conv=>zeta
 delta rE iR;refine ah.2 ⟨λh=>?_,λh=>?_⟩
 .simp only[wX,dG]at h;rw[show vY f=ByteArray.empty from if_neg (by omega)]
  exact⟨rfl,rfl⟩
 .simp only[lM,A8]at h;refine⟨au.2 (by omega),by omega,λd hd=>⟨rfl,?_⟩⟩
  rw[show vY f=KU.getD (f - 1).toNat ByteArray.empty from if_pos (by omega),List.getD,hd];rfl
theorem abb:aN aK.gd 199 ap3:=
 jG (cx:=aK) (n:=13) (cl:=[]) ay trivial Tryz.func199 λd hd=>by
  obtain⟨f,⟨⟩⟩:=d;exact⟨λ_=>none,cast (by kernel_rfl) (af6 f)⟩
abbrev ap4:CT:={ ps:=[.int .i64],pre:=λd=>True,res:=λd=>([],.one (.c (.v (.string (vY d.1))))) }
theorem af7(f:Int):
 let z1:=aW.one (SV.c (SC.v (Value.string (vY f))));br (decide (f=1)) (rE z1 (aW.one (SV.c (SC.v (Value.string { data:=#[(97:UInt8),100,100]:ByteArray }))))) (br (decide (f=2)) (rE z1 (aW.one (SV.c (SC.v (Value.string { data:=#[(115:UInt8),117,98]:ByteArray }))))) (br (decide (f=3)) (rE z1 (aW.one (SV.c (SC.v (Value.string { data:=#[(109:UInt8),117,108]:ByteArray }))))) (br (decide (f=4)) (rE z1 (aW.one (SV.c (SC.v (Value.string { data:=#[(97:UInt8),110,100]:ByteArray }))))) (br (decide (f=5)) (rE z1 (aW.one (SV.c (SC.v (Value.string { data:=#[(111:UInt8),114]:ByteArray }))))) (br (decide (f=6)) (rE z1 (aW.one (SV.c (SC.v (Value.string { data:=#[(120:UInt8),111,114]:ByteArray }))))) (br (decide (f=7)) (rE z1 (aW.one (SV.c (SC.v (Value.string { data:=#[(101:UInt8),113]:ByteArray }))))) (br (decide (f=8)) (rE z1 (aW.one (SV.c (SC.v (Value.string { data:=#[(110:UInt8),101]:ByteArray }))))) (br (decide (f=9)) (rE z1 (aW.one (SV.c (SC.v (Value.string { data:=#[(108:UInt8),116]:ByteArray }))))) (br (decide (f=10)) (rE z1 (aW.one (SV.c (SC.v (Value.string { data:=#[(108:UInt8),101]:ByteArray }))))) (rE z1 (aW.one (SV.c (SC.v (Value.string { data:=#[]:ByteArray })))))))))))))):=by
 conv=>zeta
 delta rE
 by_cases h:1<=f/\f<=10
 .have:f=1\/f=2\/f=3\/f=4\/f=5\/f=6\/f=7\/f=8\/f=9\/f=10:=by omega
  rcases this with rfl | rfl | rfl | rfl | rfl | rfl | rfl | rfl | rfl | rfl<;>exact⟨rfl,rfl⟩
 .have e:vY f=ByteArray.empty:=if_neg h;rw[e];rw[show decide (f=1)=false from yS (by omega)]
  rw[show decide (f=2)=false from yS (by omega)]
  rw[show decide (f=3)=false from yS (by omega)]
  rw[show decide (f=4)=false from yS (by omega)]
  rw[show decide (f=5)=false from yS (by omega)]
  rw[show decide (f=6)=false from yS (by omega)]
  rw[show decide (f=7)=false from yS (by omega)]
  rw[show decide (f=8)=false from yS (by omega)]
  rw[show decide (f=9)=false from yS (by omega)]
  rw[show decide (f=10)=false from yS (by omega)]
  exact⟨rfl,rfl⟩
theorem abd:aN aK.gd 205 ap4:=
 jG (cx:=aK) (n:=24) (cl:=[]) ay trivial Tryz.func205 λd hd=>by
  obtain⟨f,⟨⟩⟩:=d;exact⟨λ_=>none,cast (by kernel_rfl) (af7 f)⟩
def gK(op c:Int):Bool:=decide (1<=op) && decide (op<=22) && ((fieldsD.getD (op - 1).toNat ByteArray.empty).data.toList.any λb=>decide ((b.toNat:Int)=c))
abbrev al7:CT:={ ps:=[.int .i64,.int .u8],pre:=λd=>True,res:=λd=>([],vB (gK d.1 d.2.1)) }
abbrev al8(op c:Int):Nat->Option (St->iE):=λk=>match k with
 | 5=>some λs=>.inv { α:=Nat,slots:=λk=>[(6,.c (.v (.int .i64 k)))],res:=λ_=>[],inv:=λk=>k<=(ZP s 5).size/\∀j,j < k->∀b,(ZP s 5)[j]?=some b->¬((b.toNat:Int)=c),meas:=λk=>(ZP s 5).size - k }
 | _=>none
theorem af8(op c:Int):
 let z1:=λ(x:Nat) (d:ByteArray)=>(x<=d.size/\∀(j:Nat),j < x->∀(b:UInt8),d[j]?=some b->¬(b.toNat:Int)=c);let z2:=[g0 (aj.row 9 Sh.str fieldsD)];br (decide (op < 1) || decide (22 < op)) (qB (gK op c) false) (True/\iR (op - 1)/\(0<=op - 1/\op - 1 < (22:Int))/\(op - 1).toNat < 22/\∀(d:ByteArray),fieldsD[(op - 1).toNat]?=some d->(∃x,(z1 x d)/\(cI 0=cI (x:Int)/\True)/\sm z2)/\∀(x:Nat),(z1 x d)->br (decide ((x:Int) < (d.size:Int))) ((0<=(x:Int)/\(x:Int) < (d.size:Int))/\∀(u:UInt8),d[(x:Int).toNat]?=some u->br (decide ((u.toNat:Int)=c)) (qB (gK op c) true) (iR ((x:Int)+(1:Int))/\∃x',(z1 x' d)/\(cI ((x:Int)+(1:Int))=cI (x':Int)/\True)/\sm z2/\d.size - x' < d.size - x)) (qB (gK op c) false)):=by
 conv=>zeta
 delta cI g0 qB sm iR;refine ah.2 ⟨λh=>?_,λh=>?_⟩
 .simp only[wX,dG]at h;have:gK op c=false:=by
   unfold gK
   by_cases h1:1<=op<;>by_cases h2:op<=22<;>simp[h1,h2]
   omega
  rw[this];exact⟨rfl,rfl⟩
 .simp only[lM,A8]at h;refine⟨trivial,au.2 (by omega),by omega,by omega,λd hd=>⟨⟨0,⟨by omega,λj hj=>by omega⟩,⟨rfl,trivial⟩,rfl⟩,λx hx=>?_⟩⟩
  have e:gK op c=d.data.toList.any λb=>decide ((b.toNat:Int)=c):=by
   unfold gK;rw[List.getD,hd];simp[show 1<=op by omega,show op<=22 by omega]
  have hs:d.size<=9:=(show∀d∈fieldsD,d.size<=9 by decide) d (gQ hd)
  have get:∀j:Nat,d[j]?=d.data.toList[j]?:=alh d;refine ah.2 ⟨λiT=>⟨by simp only[dG]at iT;omega,λu hu=>ah.2 ⟨λhc=>?_,λhc=>?_⟩⟩,λhge=>?_⟩
  .simp only[dG]at hc;have hm:u∈d.data.toList:=gQ (i:=x) (by rw[<-get];simpa using hu)
   rw[e,MR.2 ⟨u,hm,by simpa using hc⟩]
   exact⟨rfl,rfl⟩
  .simp only[A8]at hc;simp only[dG]at iT;refine⟨au.2 (by omega),x+1,⟨by omega,λj hj b hb=>?_⟩,⟨by simp,trivial⟩,rfl,by omega⟩
   by_cases hjx:j=x
   .subst hjx;have:some u=some b:=by rw[<-hu,<-hb];simp
    cases this;exact hc
   .exact hx.2 j (by omega) b hb
  .simp only[A8]at hge;have:gK op c=false:=by
    rw[e,Wi];intro b hb;obtain⟨j,hj⟩:=yT hb;have hj':j < d.data.toList.length:=(eX.1 hj).1;have hsz:d.data.toList.length=d.size:=by cases d;simp[ByteArray.size]
    simpa using hx.2 j (by omega) b (by rw[get];exact hj)
   rw[this];exact⟨rfl,rfl⟩
theorem Ot:aN aK.gd 177 al7:=
 jG (cx:=aK) (n:=29) (cl:=[(206,apY)]) ay ⟨aa6,trivial⟩ Tryz.func177 λd hd=>by
  obtain⟨op,c,⟨⟩⟩:=d;exact⟨al8 op c,cast (by kernel_rfl) (af8 op c)⟩
def XC(r:Int):Bool:=decide (0<=r) && decide (r < 8)
def pY(op a b c obj n fn ord:Int):Int:=
 if uf op=false then 8 else
 if(!use op 0 && a != 0 || !use op 1 && b != 0 || !use op 2 && c != 0 || !use op 3 && obj != 0 || !use op 4 && n != 0 || !use op 5 && fn != 0 || !use op 6 && ord != 0)=true then 9 else
 if(!XC a || !XC b || !XC c)=true then 10 else
 if(decide (ord < 0) || decide (2 < ord))=true then 13 else
 if(use op 5 && decide (vY fn=(⟨#[]⟩:ByteArray)))=true then 8 else
 if(decide (op=1) && (decide (n < -2147483648) || decide (2147483647 < n)))=true then 2 else 0
theorem Ou{op:Int}{nm:ByteArray}{us:List Bool}{u:Unit} (hb:1<=op/\op<=22) (hd:Oq[(op - 1).toNat]?=some (nm,us,u)):
 us=[use op 0,use op 1,use op 2,use op 3,use op 4,use op 5,use op 6]:=by
 have key:∀k:Fin 22,(Oq[k.1]?).map (λr=>r.2.1)=some ([0,1,2,3,4,5,6].map λj=>(al5.getD k.1 []).getD j false):=by decide
 have h1:=key ⟨(op - 1).toNat,by omega⟩
 simp only at h1;rw[hd]at h1;simp only[X9,A97]at h1;rw[h1];simp[use,hb.1,hb.2]
abbrev al9:CT:={ ps:=[jT],pre:=λd=>True,res:=λd=>([],.one (.c (.v (.int .i64 (pY d.1.1 d.1.2.1 d.1.2.2.1 d.1.2.2.2.1 d.1.2.2.2.2.1 d.1.2.2.2.2.2.1 d.1.2.2.2.2.2.2.1 d.1.2.2.2.2.2.2.2.1))))) }
abbrev ama(op a b c obj n fn ord:Int):Nat->Option (St->iE):=λk=>match k with
 | 5=>some λ_=>.FB 8
 | 11=>some λ_=>.FB 4
 | _=>none
theorem af9(op a b c obj n fn ord:Int):
 let z11:=pY op a b c obj n fn ord;let z8:=qI z11 (8:Int);let z12:=[a,b,c,obj,n,fn,ord];let z2:=(0:Int)<=(0:Int)/\(0:Int) < (7:Int);let z10:=λ(dN:Bool) (dH:Int)=>!dN && !decide (dH=(0:Int));let z9:=qI z11 (9:Int);let z3:=(0:Int)<=(1:Int)/\(1:Int) < (7:Int);let z4:=(0:Int)<=(2:Int)/\(2:Int) < (7:Int);let z5:=(0:Int)<=(5:Int)/\(5:Int) < (7:Int);let z6:=(0:Int)<=(6:Int)/\(6:Int) < (7:Int);let z1:=λ(aga:Bool) (abe:Int)=>aga && (decide (abe < (0:Int)) || decide (8<=abe));let z7:=qI z11 (10:Int);True/\br (!uf op) z8 (iR (op - 1)/\(0<=op - 1/\op - 1 < (22:Int))/\∀(d:ByteArray×((Sh.arr 7 Sh.bool).pair Sh.unit).den),Oq[(op - 1).toNat]?=some d->True/\((0:Int)<=(0:Int)/\0 < (z12.length:Int))/\∀(dH:Int),z12[0]?=some dH->z2/\0 < 7/\∀(dN:Bool),(d.snd.fst)[0]?=some dN->br (z10 dN dH) z9 (iR (1:Int)/\((0:Int)<=(1:Int)/\1 < (z12.length:Int))/\∀(d_3:Int),z12[1]?=some d_3->z3/\1 < 7/\∀(d_4:Bool),(d.snd.fst)[1]?=some d_4->br (z10 d_4 d_3) z9 (iR (2:Int)/\((0:Int)<=(2:Int)/\2 < (z12.length:Int))/\∀(d_5:Int),z12[2]?=some d_5->z4/\2 < 7/\∀(d_6:Bool),(d.snd.fst)[2]?=some d_6->br (z10 d_6 d_5) z9 (iR (3:Int)/\((0:Int)<=(3:Int)/\3 < (z12.length:Int))/\∀(d_7:Int),z12[3]?=some d_7->((0:Int)<=(3:Int)/\(3:Int) < (7:Int))/\3 < 7/\∀(d_8:Bool),(d.snd.fst)[3]?=some d_8->br (z10 d_8 d_7) z9 (iR (4:Int)/\((0:Int)<=(4:Int)/\4 < (z12.length:Int))/\∀(d_9:Int),z12[4]?=some d_9->((0:Int)<=(4:Int)/\(4:Int) < (7:Int))/\4 < 7/\∀(ap6:Bool),(d.snd.fst)[4]?=some ap6->br (z10 ap6 d_9) z9 (iR (5:Int)/\((0:Int)<=(5:Int)/\5 < (z12.length:Int))/\∀(ap7:Int),z12[5]?=some ap7->z5/\5 < 7/\∀(ap8:Bool),(d.snd.fst)[5]?=some ap8->br (z10 ap8 ap7) z9 (iR (6:Int)/\((0:Int)<=(6:Int)/\6 < (z12.length:Int))/\∀(ap9:Int),z12[6]?=some ap9->z6/\6 < 7/\∀(aqa:Bool),(d.snd.fst)[6]?=some aqa->br (z10 aqa ap9) z9 (iR (7:Int)/\((0:Int)<=(0:Int)/\0 < (↑[a,b,c].length:Int))/\∀(abe:Int),[a,b,c][0]?=some abe->z2/\0 < 7/\∀(aga:Bool),(d.snd.fst)[0]?=some aga->br (z1 aga abe) z7 (iR (1:Int)/\((0:Int)<=(1:Int)/\1 < (↑[a,b,c].length:Int))/\∀(aqb:Int),[a,b,c][1]?=some aqb->z3/\1 < 7/\∀(aqc:Bool),(d.snd.fst)[1]?=some aqc->br (z1 aqc aqb) z7 (iR (2:Int)/\((0:Int)<=(2:Int)/\2 < (↑[a,b,c].length:Int))/\∀(aqd:Int),[a,b,c][2]?=some aqd->z4/\2 < 7/\∀(aqe:Bool),(d.snd.fst)[2]?=some aqe->br (z1 aqe aqd) z7 (iR (3:Int)/\z6/\6 < 7/\∀(aqf:Bool),(d.snd.fst)[6]?=some aqf->br (aqf && (decide (ord < 0) || decide (2 < ord))) (qI z11 (13:Int)) (z5/\5 < 7/\∀(amb:Bool),(d.snd.fst)[5]?=some amb->(amb=true->True)/\br (amb && decide (vY fn={ data:=#[]:ByteArray })) z8 (br (decide (op=1) && (decide (n < (-2147483648)) || decide (2147483647 < n))) (qI z11 (2:Int)) (qI z11 (0:Int))))))))))))))):=by
 conv=>zeta
 delta qI iR;refine⟨trivial,ah.2 ⟨λh=>?_,λh=>?_⟩⟩
 .have hk:uf op=false:=by simpa using h
  rw[show pY op a b c obj n fn ord=8 by simp[pY,hk]]
  exact⟨rfl,rfl⟩
 .have hk:uf op=true:=by simpa using h
  have hb:1<=op/\op<=22:=by simpa[uf]using hk
  refine⟨au.2 (by omega),by omega,λd hd=>?_⟩
  obtain⟨nm,us,⟨⟩⟩:=d;have hu:=Ou hb hd;subst hu;clear hd;simp only[V7,aei,A97,forall_eq',ah,au,sZ,AY,true_and,aW.one.injEq,SV.c.injEq,SC.v.injEq,Value.int.injEq,pY,hk,XC];generalize use op 0=u0;generalize use op 1=u1;generalize use op 2=u2;generalize use op 3=u3;generalize use op 4=u4;generalize use op 5=u5;generalize use op 6=u6
  repeat' (first | apply And.intro | intro _)
  all_goals first | omega | decide | skip
  all_goals simp_all
  all_goals grind
theorem Ov:aN aK.gd 168 al9:=
 jG (cx:=aK) (n:=89) (cl:=[(197,apZ),(198,ap1),(199,ap3)]) ay ⟨aa7,aa9,abb,trivial⟩ Tryz.func168 λd hd=>by
  obtain⟨⟨op,a,b,c,obj,n,fn,ord,⟨⟩⟩,⟨⟩⟩:=d;exact⟨ama op a b c obj n fn ord,cast (by kernel_rfl) (af9 op a b c obj n fn ord)⟩
theorem UN(op:Int):gK op 65=use op 0/\gK op 66=use op 1/\gK op 67=use op 2/\gK op 79=use op 3/\gK op 78=use op 4/\gK op 70=use op 5/\gK op 82=use op 6:=by
 by_cases hb:1<=op/\op<=22
 .have key:∀k:Fin 22,([65,66,67,79,78,70,82].map λc:Int=>(fieldsD.getD k.1 ByteArray.empty).data.toList.any λb=>decide ((b.toNat:Int)=c))=[0,1,2,3,4,5,6].map λj=>(al5.getD k.1 []).getD j false:=by decide
  have h1:=key ⟨(op - 1).toNat,by omega⟩
  simp only[V6,List.map_nil,List.cons.injEq,and_true]at h1;obtain⟨h1,h2,h3,h4,h5,h6,h7⟩:=h1;simp only[gK,use,hb.1,hb.2,decide_true,Hl,h1,h2,h3,h4,h5,h6,h7,and_self]
 .have:(decide (1<=op) && decide (op<=22))=false:=by simp only[Yd,A8];omega
  simp only[gK,use,this,Bool.false_and,and_self]
abbrev amc:CT:={ ps:=[jT],pre:=λd=>True,res:=λd=>([],.one (.c (.v (.int .i64 (pY d.1.1 d.1.2.1 d.1.2.2.1 d.1.2.2.2.1 d.1.2.2.2.2.1 d.1.2.2.2.2.2.1 d.1.2.2.2.2.2.2.1 d.1.2.2.2.2.2.2.2.1))))) }
theorem agb(op a b c obj n fn ord:Int):
 let z4:=pY op a b c obj n fn ord;let z1:=qI z4 (8:Int);let z2:=decide (0<=a) && decide (a < 8);let z3:=decide (0<=b) && decide (b < 8);br (decide (op < 1) || decide (22 < op)) z1 (True/\((!(!gK op (65:Int) && !decide (a=0)))=true->True)/\((!(!gK op (65:Int) && !decide (a=0) || !gK op (66:Int) && !decide (b=0)))=true->True)/\((!(!gK op (65:Int) && !decide (a=0) || !gK op (66:Int) && !decide (b=0) || !gK op (67:Int) && !decide (c=0)))=true->True)/\((!(!gK op (65:Int) && !decide (a=0) || !gK op (66:Int) && !decide (b=0) || !gK op (67:Int) && !decide (c=0) || !gK op (79:Int) && !decide (obj=0)))=true->True)/\((!(!gK op (65:Int) && !decide (a=0) || !gK op (66:Int) && !decide (b=0) || !gK op (67:Int) && !decide (c=0) || !gK op (79:Int) && !decide (obj=0) || !gK op (78:Int) && !decide (n=0)))=true->True)/\((!(!gK op (65:Int) && !decide (a=0) || !gK op (66:Int) && !decide (b=0) || !gK op (67:Int) && !decide (c=0) || !gK op (79:Int) && !decide (obj=0) || !gK op (78:Int) && !decide (n=0) || !gK op (70:Int) && !decide (fn=0)))=true->True)/\br (!gK op (65:Int) && !decide (a=0) || !gK op (66:Int) && !decide (b=0) || !gK op (67:Int) && !decide (c=0) || !gK op (79:Int) && !decide (obj=0) || !gK op (78:Int) && !decide (n=0) || !gK op (70:Int) && !decide (fn=0) || !gK op (82:Int) && !decide (ord=0)) (qI z4 (9:Int)) (True/\((!!z2)=true->True)/\((!(!z2 || !z3))=true->True)/\br (!z2 || !z3 || !(decide (0<=c) && decide (c < 8))) (qI z4 (10:Int)) (br (decide (ord < 0) || decide (2 < ord)) (qI z4 (13:Int)) (True/\(gK op 70=true->True)/\br (gK op (70:Int) && decide (vY fn={ data:=#[]:ByteArray })) z1 (br (decide (op=1) && (decide (n < (-2147483648)) || decide (2147483647 < n))) (qI z4 (2:Int)) (qI z4 (0:Int))))))):=by
 conv=>zeta
 delta qI;obtain⟨e0,e1,e2,e3,e4,e5,e6⟩:=UN op;rw[e0,e1,e2,e3,e4,e5,e6];simp only[ah,au,true_and,aW.one.injEq,SV.c.injEq,SC.v.injEq,Value.int.injEq,pY,uf,XC];generalize use op 0=u0;generalize use op 1=u1;generalize use op 2=u2;generalize use op 3=u3;generalize use op 4=u4;generalize use op 5=u5;generalize use op 6=u6
 repeat' (first | apply And.intro | intro _)
 all_goals first | trivial | omega | skip
 all_goals first | grind | (simp_all<;>grind)
theorem Ox:aN aK.gd 176 amc:=
 jG (cx:=aK) (n:=132) (cl:=[(177,al7),(204,ap0),(205,ap4)]) ay ⟨Ot,aa8,abd,trivial⟩ Tryz.func176 λd hd=>by
  obtain⟨⟨op,a,b,c,obj,n,fn,ord,⟨⟩⟩,⟨⟩⟩:=d;exact⟨λ_=>none,cast (by kernel_rfl) (agb op a b c obj n fn ord)⟩
def dM(l:List Int) (x:Int):Bool:=l.any λy=>decide (y=x)
def zY(l:List Int) (x:Int):Nat:=(l.takeWhile λy=>decide (y < x)).length
def wY(l:List Int) (x:Int):List Int:=l.take (zY l x)++[x]++l.drop (zY l x)
def aX(l:List Int):List Int:=l.foldl (λo x=>if dM o x then o else wY o x) []
theorem F9(l:List Int) (x:Int):(wY l x).length=l.length+1:=by
 simp only[wY,kK,kH,xO,sZ,AY];omega
theorem I8(l:List Int):(aX l).length<=l.length:=by
 have:∀(l o:List Int),(l.foldl (λo x=>if dM o x then o else wY o x) o).length<=o.length+l.length:=by
  intro l
  induction l with
  | nil=>intro o;simp
  | cons x l ih=>
    intro o;simp only[JG,sZ];refine oh (ih _) ?_;split
    .omega
    .rw[F9];omega
 have h:=this l [];rw[AY,Eu]at h;exact h
theorem Gg{k:Nat}{d:Int} (hd:l[k]?=some d):aX (l.take (k+1))=if dM (aX (l.take k)) d then aX (l.take k) else wY (aX (l.take k)) d:=by
 rw[Hf,hd];unfold aX;rw[Qh,List.foldl_append];rfl
def SS(l:List Int):Prop:=l.Pairwise (· < ·)
theorem yE:∀{l m:List Int},SS l->SS m->(∀x,x∈l↔x∈m)->l=m
 | [],[],_,_,_=>rfl
 | [],y :: m,_,_,h=>by have:=(h y).2 (by simp);simp at this
 | x :: l,[],_,_,h=>by have:=(h x).1 (by simp);simp at this
 | x :: l,y :: m,hl,hm,h=>by
   obtain⟨h1,h2⟩:=X7.1 hl;obtain⟨h3,h4⟩:=X7.1 hm;have hxy:x=y:=by
    have a:=(h x).1 (by simp)
    have b:=(h y).2 (by simp)
    rcases nG.1 a with a | a
    .exact a
    .rcases nG.1 b with b | b
     .exact b.symm
     .have:=h3 x a;have:=h1 y b;omega
   subst hxy
   congr 1
   refine yE h2 h4 λz=>?_
   have hz:=h z;simp only[nG]at hz;constructor
   .intro hh;rcases hz.1 (.inr hh) with rfl | h5
    .have:=h1 z hh;omega
    .exact h5
   .intro hh;rcases hz.2 (.inr hh) with rfl | h5
    .have:=h3 z hh;omega
    .exact h5
theorem nT{x:Int}:dM l x=true↔x∈l:=by
 unfold dM;rw[MR];constructor
 .rintro⟨y,h1,h2⟩;simp only[dG]at h2;subst h2;exact h1
 .intro h;exact⟨x,h,by simp⟩
theorem qc{x:Int}:dM l x=false↔x∉l:=by
 rw[<-nT];simp
theorem amd(l:List Int) (x:Int):l.take (zY l x)=l.takeWhile λy=>decide (y < x):=by
 unfold zY
 induction l with
 | nil=>rfl
 | cons a l ih=>
   simp only[V9];split
   .simp[ih]
   .simp
theorem ame(l:List Int) (x:Int):l.drop (zY l x)=l.dropWhile λy=>decide (y < x):=by
 unfold zY
 induction l with
 | nil=>rfl
 | cons a l ih=>
   simp only[V9,List.dropWhile_cons];split
   .simp[ih]
   .simp
theorem UO:∀{l:List Int}{x:Int},SS l->∀y∈l.dropWhile (λy=>decide (y < x)),x<=y
 | [],_,_,y,h=>by simp at h
 | a :: l,x,hl,y,h=>by
   obtain⟨h1,h2⟩:=X7.1 hl;simp only[List.dropWhile_cons]at h;split at h
   .exact UO h2 y h
   .rename_i hn;simp only[dG]at hn;rcases nG.1 h with rfl | h
    .omega
    .have:=h1 y h;omega
theorem ajH:∀{l:List Int}{x:Int},∀y∈l.takeWhile (λy=>decide (y < x)),y < x
 | [],_,y,h=>by simp at h
 | a :: l,x,y,h=>by
   simp only[V9]at h;split at h
   .rename_i hn;simp only[dG]at hn;rcases nG.1 h with rfl | h
    .exact hn
    .exact ajH y h
   .simp at h
theorem amf{x:Int} (hl:SS l) (hx:x∉l):SS (wY l x):=by
 unfold wY SS;rw[amd,ame];have hp:SS (l.takeWhile (λy=>decide (y < x))++l.dropWhile (λy=>decide (y < x))):=by rw[A95];exact hl
 obtain⟨p1,p2,p3⟩:=Qg.1 hp;rw[yU,Qg];refine⟨p1,?_,?_⟩
 .rw[V8,X7];refine⟨λy hy=>?_,p2⟩
  have h1:=UO hl y hy;have h2:y≠x:=λe=>hx (by rw[<-e];rw[<-A95 (p:=λy=>decide (y < x)) (l:=l)];exact akj _ hy)
  omega
 .intro a ha b hb;rw[V8]at hb;rcases nG.1 hb with rfl | hb
  .exact ajH a ha
  .exact p3 a ha b hb
theorem DN{x y:Int}:y∈wY l x↔y=x\/y∈l:=by
 unfold wY;rw[Du,Du,A85]
 conv=>rhs;rw[<-X5 (zY l x) l,Du]
 constructor
 .rintro((h | h) | h)
  .exact .inr (.inl h)
  .exact .inl h
  .exact .inr (.inr h)
 .rintro(h | h | h)
  .exact .inl (.inr h)
  .exact .inl (.inl h)
  .exact .inr h
theorem DR:∀(l o:List Int),SS o->SS (l.foldl (λo x=>if dM o x then o else wY o x) o)/\∀y,y∈l.foldl (λo x=>if dM o x then o else wY o x) o↔y∈o\/y∈l
 | [],o,h=>⟨h,λy=>by simp⟩
 | x :: l,o,h=>by
   simp only[JG];cases hx:dM o x with
   | true=>
     simp only[if_true];obtain⟨h1,h2⟩:=DR l o h;refine⟨h1,λy=>?_⟩
     rw[h2,nG];have:=nT.1 hx;constructor
     .rintro(h | h)
      .exact .inl h
      .exact .inr (.inr h)
     .rintro(h | rfl | h)
      .exact .inl h
      .exact .inl this
      .exact .inr h
   | false=>
     simp only[aeo,Qp];obtain⟨h1,h2⟩:=DR l (wY o x) (amf h (qc.1 hx));refine⟨h1,λy=>?_⟩
     rw[h2,nG,DN];constructor
     .rintro((h | h) | h)
      .exact .inr (.inl h)
      .exact .inl h
      .exact .inr (.inr h)
     .rintro(h | h | h)
      .exact .inl (.inr h)
      .exact .inl (.inl h)
      .exact .inr h
theorem oP(l:List Int):SS (aX l):=(DR l [] List.Pairwise.nil).1
theorem qg{x:Int}:x∈aX l↔x∈l:=by
 have:=(DR l [] List.Pairwise.nil).2 x;simpa[aX]using this
theorem Oy{d:Array Int} (hs:∀i j,i < j->j < d.size->d[i]!<=d[j]!):∀m,m<=d.size ->
 SS (Lib.compactUpTo d m)/\(∀x,x∈Lib.compactUpTo d m↔∃j < m,d[j]! = x)
 | 0,_=>⟨by simp[Lib.compactUpTo,SS],λx=>by simp[Lib.compactUpTo]⟩
 | m+1,hm=>by
   obtain⟨h1,h2⟩:=Oy hs m (by omega)
   rw[Lib.compactUpTo_succ];have le:∀x∈Lib.compactUpTo d m,∃j < m,d[j]! = x:=λx hx=>(h2 x).1 hx
   cases hk:Lib.keeps d m with
   | true=>
     simp only[if_true];constructor
     .refine Qg.2 ⟨h1,by simp,λa ha b hb=>?_⟩
      simp only[A85]at hb;subst hb;obtain⟨j,hj,rfl⟩:=le a ha;have h3:m≠0:=by omega
      simp only[Lib.keeps,dG,h3,false_or]at hk;have h4:=hs (m - 1) m (by omega) (by omega)
      by_cases hj2:j=m - 1
      .subst hj2;omega
      .have:=hs j (m - 1) (by omega) (by omega);omega
     .intro x;rw[Du,h2,A85];constructor
      .rintro(⟨j,hj,e⟩ | e)
       .exact⟨j,by omega,e⟩
       .exact⟨m,by omega,e.symm⟩
      .rintro⟨j,hj,e⟩
       by_cases hj2:j=m
       .subst hj2;exact .inr e.symm
       .exact .inl ⟨j,by omega,e⟩
   | false=>
     simp only[aeo,Qp,JE];refine⟨h1,λx=>?_⟩
     rw[h2];have h3:m≠0/\d[m]! = d[m - 1]!:=by simpa[Lib.keeps]using hk
     constructor
     .rintro⟨j,hj,e⟩;exact⟨j,by omega,e⟩
     .rintro⟨j,hj,e⟩
      by_cases hj2:j=m
      .subst hj2;exact⟨j - 1,by omega,by rw[<-h3.2];exact e⟩
      .exact⟨j,by omega,e⟩
theorem Oz(l:List Int):(jQ l).Pairwise (·<=·):=by
 have h:(jQ l).Pairwise (λx y=>decide (x<=y)=true):=List.pairwise_mergeSort (λa b c h1 h2=>by simp at *;omega) (λa b=>by simp;omega) l
 exact h.imp λh=>by simpa using h
theorem abh{x:Int}:x∈jQ l↔x∈l:=(List.mergeSort_perm l _).mem_iff
theorem OA(l:List Int):SS (Lib.compact (jQ l))/\∀x,x∈Lib.compact (jQ l)↔x∈l:=by
 have hs:∀i j,i < j->j < (jQ l).toArray.size->(jQ l).toArray[i]!<=(jQ l).toArray[j]!:=by
  intro i j hij hj;have hj':j < (jQ l).length:=by simpa using hj
  have:=akg.1 (Oz l) i j (by omega) hj' hij
  rw[getElem!_pos _ i (by simp;omega),getElem!_pos _ j (by simpa using hj)]
  simpa using this
 obtain⟨h1,h2⟩:=Oy hs (jQ l).length (by simp)
 refine⟨h1,λx=>?_⟩
 show x∈Lib.compactUpTo (jQ l).toArray (jQ l).length↔_;rw[h2,<-abh,List.mem_iff_getElem];constructor
 .rintro⟨j,hj,e⟩;exact⟨j,hj,by rw[getElem!_pos _ j (by simpa using hj)]at e;simpa using e⟩
 .rintro⟨j,hj,e⟩;exact⟨j,hj,by rw[getElem!_pos _ j (by simpa using hj)];simpa using e⟩
theorem agc(l:List Int):Lib.compact (jQ l)=aX l:=
 yE (OA l).1 (oP l) λx=>by rw[(OA l).2,qg]
end Go.Proofs.YtjhenjhcbcalpaaGreatDoor
namespace Go.Proofs
open Go.Shelf
def Tryz.lays189_ren:Go.Shelf.Ren:=⟨fun | 189=>200 | 125=>213 | 257=>212 | 128=>225 | 129=>226 | 294=>216 | 295=>217 | 296=>218 | 297=>219 | 298=>220 | 299=>221 | 216=>222 | 300=>223 | 301=>224 | 328=>227 | 329=>228 | 330=>229 | 331=>230 | 332=>231 | 215=>232 | 343=>233 | n=>n,fun | 28=>31 | 3=>3 | 46=>217 | 0=>0 | 51=>167 | 53=>230 | 4=>4 | 183=>222 | 182=>221 | 131=>95 | 5=>5 | 9=>9 | 218=>231 | 222=>235 | 228=>237 | 229=>165 | n=>n,fun | n=>n⟩
theorem Tryz.lays189:Go.Proofs.Lays.n189 Tryz.prog Tryz.lays189_ren:={
 mixed:=by kernel_rfl
 f125:=Tryz.func213.trans (oW some (by kernel_rfl))
 f128:=Tryz.func225.trans (oW some (by kernel_rfl))
 f129:=Tryz.func226.trans (oW some (by kernel_rfl))
 f189:=Tryz.func200.trans (oW some (by kernel_rfl))
 f215:=Tryz.func232.trans (oW some (by kernel_rfl))
 f216:=Tryz.func222.trans (oW some (by kernel_rfl))
 f257:=Tryz.func212.trans (oW some (by kernel_rfl))
 f294:=Tryz.func216.trans (oW some (by kernel_rfl))
 f295:=Tryz.func217.trans (oW some (by kernel_rfl))
 f296:=Tryz.func218.trans (oW some (by kernel_rfl))
 f297:=Tryz.func219.trans (oW some (by kernel_rfl))
 f298:=Tryz.func220.trans (oW some (by kernel_rfl))
 f299:=Tryz.func221.trans (oW some (by kernel_rfl))
 f300:=Tryz.func223.trans (oW some (by kernel_rfl))
 f301:=Tryz.func224.trans (oW some (by kernel_rfl))
 f328:=Tryz.func227.trans (oW some (by kernel_rfl))
 f329:=Tryz.func228.trans (oW some (by kernel_rfl))
 f330:=Tryz.func229.trans (oW some (by kernel_rfl))
 f331:=Tryz.func230.trans (oW some (by kernel_rfl))
 f332:=Tryz.func231.trans (oW some (by kernel_rfl))
 f343:=Tryz.func233.trans (oW some (by kernel_rfl))
 t0:=Tryz.underlying0
 a0:=Tryz.isAgg0
 z0:=Tryz.sizeOf0
 v0:=Tryz.zeroValue0
 t3:=Tryz.underlying3
 a3:=Tryz.isAgg3
 z3:=Tryz.sizeOf3
 v3:=Tryz.zeroValue3
 t4:=Tryz.underlying4
 a4:=Tryz.isAgg4
 z4:=Tryz.sizeOf4
 v4:=Tryz.zeroValue4
 t5:=Tryz.underlying5
 a5:=Tryz.isAgg5
 z5:=Tryz.sizeOf5
 v5:=Tryz.zeroValue5
 t9:=Tryz.underlying9
 a9:=Tryz.isAgg9
 z9:=Tryz.sizeOf9
 v9:=Tryz.zeroValue9
 t28:=Tryz.underlying31
 a28:=Tryz.isAgg31
 z28:=Tryz.sizeOf31
 v28:=Tryz.zeroValue31
 t46:=Tryz.underlying217
 a46:=Tryz.isAgg217
 z46:=Tryz.sizeOf217
 v46:=Tryz.zeroValue217
 t51:=Tryz.underlying167
 a51:=Tryz.isAgg167
 z51:=Tryz.sizeOf167
 v51:=Tryz.zeroValue167
 t53:=Tryz.underlying230
 a53:=Tryz.isAgg230
 z53:=Tryz.sizeOf230
 v53:=Tryz.zeroValue230
 t131:=Tryz.underlying95
 a131:=Tryz.isAgg95
 z131:=Tryz.sizeOf95
 v131:=Tryz.zeroValue95
 t182:=Tryz.underlying221
 a182:=Tryz.isAgg221
 z182:=Tryz.sizeOf221
 v182:=Tryz.zeroValue221
 t183:=Tryz.underlying222
 a183:=Tryz.isAgg222
 z183:=Tryz.sizeOf222
 v183:=Tryz.zeroValue222
 t218:=Tryz.underlying231
 a218:=Tryz.isAgg231
 z218:=Tryz.sizeOf231
 v218:=Tryz.zeroValue231
 t222:=Tryz.underlying235
 a222:=Tryz.isAgg235
 z222:=Tryz.sizeOf235
 v222:=Tryz.zeroValue235
 t228:=Tryz.underlying237
 a228:=Tryz.isAgg237
 z228:=Tryz.sizeOf237
 v228:=Tryz.zeroValue237
 t229:=Tryz.underlying165
 a229:=Tryz.isAgg165
 z229:=Tryz.sizeOf165
 v229:=Tryz.zeroValue165 }
open Go.Sort Go.RowKit in
theorem Tryz.slices_Sort_int(blk off cap:Nat) (zs:List Int) (w:World) (hH:Holds (Value.int .i64) w blk off zs.toArray) (hblk:blk < w.heap.size) (hsz:zs.length < 4611686018427387904):
 Calls Tryz.prog 200 #[.slice (some ⟨blk,off,none⟩) zs.length cap] w λe w'=>
  e=.returned (.tuple #[])/\∃n os,w'=grow (putRow (Value.int .i64) (Sort.ahead w n) blk off (zs.mergeSort λx y=>decide (x<=y)).toArray) os:=Any.slices_Sort_int Tryz.lays189 blk off cap zs w hH hblk hsz
def Tryz.laysNm220_ren:Go.Shelf.Ren:=⟨fun | 20=>201 | n=>n,fun | 22=>31 | 3=>3 | 4=>4 | 0=>0 | n=>n,fun | n=>n⟩
theorem Tryz.laysNm220:Go.Proofs.Lays2.n20 Tryz.prog Tryz.laysNm220_ren:={
 mixed:=by kernel_rfl
 f20:=Tryz.func201.trans (oW some (by kernel_rfl))
 t0:=Tryz.underlying0
 a0:=Tryz.isAgg0
 z0:=Tryz.sizeOf0
 v0:=Tryz.zeroValue0
 t3:=Tryz.underlying3
 a3:=Tryz.isAgg3
 z3:=Tryz.sizeOf3
 v3:=Tryz.zeroValue3
 t4:=Tryz.underlying4
 a4:=Tryz.isAgg4
 z4:=Tryz.sizeOf4
 v4:=Tryz.zeroValue4
 t22:=Tryz.underlying31
 a22:=Tryz.isAgg31
 z22:=Tryz.sizeOf31
 v22:=Tryz.zeroValue31
 i3:=by kernel_rfl }
open Go.RowKit Go.Lib Go.Sort in
theorem Tryz.slices_Compact_int(blk off cap:Nat) (zs:List Int) (w:World) (hH:Holds (Value.int .i64) w blk off zs.toArray) (hsz:zs.length<=9223372036854775807) (hcap:zs.length<=cap):
 Calls Tryz.prog 201 #[.slice (some ⟨blk,off,none⟩) zs.length cap] w λe w'=>e=.returned (.slice (some ⟨blk,off,none⟩) (Lib.compact zs).length cap)/\∃q,w'=putRow (Value.int .i64) (Sort.ahead w q) blk off (Lib.compact zs++List.replicate (zs.length - (Lib.compact zs).length) 0).toArray:=Any.slices_Compact_int Tryz.laysNm220 blk off cap zs w hH hsz hcap
open Go.RowKit Go.Lib Go.Sort in
theorem Tryz.slices_Compact_int_empty(a:Option Addr) (cap:Nat) (w:World):
 Calls Tryz.prog 201 #[.slice a 0 cap] w λe w'=>e=.returned (.slice a 0 cap)/\w'=w:=Any.slices_Compact_int_empty Tryz.laysNm220 a cap w
end Go.Proofs
namespace Go.Proofs.YtjhenjhcbcalpaaGreatDoor
open Go Go.jw
variable {k:Nat}
def Mt(l:List Int):Prop:=l=[]
theorem Mt.nil:Mt []:=rfl
abbrev ajI:CT:={ ps:=[.int .u64],pre:=λd=>d.1=0,res:=λd=>([],.one (.c (.v (.int .i64 0)))) }
abbrev amg  : Nat->Option (St->iE):=λ_=>none
theorem agd :
 let z1:=[(8:UInt8),(8:UInt8),(8:UInt8),(8:UInt8),(8:UInt8),(8:UInt8),(8:UInt8),(8:UInt8),(8:UInt8),(8:UInt8),(8:UInt8),(8:UInt8),(8:UInt8),(8:UInt8),(8:UInt8),(8:UInt8),(8:UInt8),(8:UInt8),(8:UInt8),(8:UInt8),(8:UInt8),(8:UInt8),(8:UInt8),(8:UInt8),(8:UInt8),(8:UInt8),(8:UInt8),(8:UInt8),(8:UInt8),(8:UInt8),(8:UInt8),(8:UInt8),(8:UInt8),(8:UInt8),(8:UInt8),(8:UInt8),(8:UInt8),(8:UInt8),(8:UInt8),(8:UInt8),(8:UInt8),(8:UInt8),(8:UInt8),(8:UInt8),(8:UInt8),(8:UInt8),(8:UInt8),(8:UInt8),(8:UInt8),(8:UInt8),(8:UInt8),(8:UInt8),(8:UInt8),(8:UInt8),(8:UInt8),(8:UInt8),(8:UInt8),(8:UInt8),(8:UInt8),(8:UInt8),(8:UInt8),(8:UInt8),(8:UInt8),(8:UInt8)];((0:Int)<=(0:Int)/\(0:Int) < (256:Int))/\∀(u:UInt8),{ data:=(([(0:UInt8),(1:UInt8),(2:UInt8),(2:UInt8),(3:UInt8),(3:UInt8),(3:UInt8),(3:UInt8),(4:UInt8),(4:UInt8),(4:UInt8),(4:UInt8),(4:UInt8),(4:UInt8),(4:UInt8),(4:UInt8),(5:UInt8),(5:UInt8),(5:UInt8),(5:UInt8),(5:UInt8),(5:UInt8),(5:UInt8),(5:UInt8),(5:UInt8),(5:UInt8),(5:UInt8),(5:UInt8),(5:UInt8),(5:UInt8),(5:UInt8),(5:UInt8),(6:UInt8),(6:UInt8),(6:UInt8),(6:UInt8),(6:UInt8),(6:UInt8),(6:UInt8),(6:UInt8),(6:UInt8),(6:UInt8),(6:UInt8),(6:UInt8),(6:UInt8),(6:UInt8),(6:UInt8),(6:UInt8),(6:UInt8),(6:UInt8),(6:UInt8),(6:UInt8),(6:UInt8),(6:UInt8),(6:UInt8),(6:UInt8),(6:UInt8),(6:UInt8),(6:UInt8),(6:UInt8),(6:UInt8),(6:UInt8),(6:UInt8),(6:UInt8)].append [(7:UInt8),(7:UInt8),(7:UInt8),(7:UInt8),(7:UInt8),(7:UInt8),(7:UInt8),(7:UInt8),(7:UInt8),(7:UInt8),(7:UInt8),(7:UInt8),(7:UInt8),(7:UInt8),(7:UInt8),(7:UInt8),(7:UInt8),(7:UInt8),(7:UInt8),(7:UInt8),(7:UInt8),(7:UInt8),(7:UInt8),(7:UInt8),(7:UInt8),(7:UInt8),(7:UInt8),(7:UInt8),(7:UInt8),(7:UInt8),(7:UInt8),(7:UInt8),(7:UInt8),(7:UInt8),(7:UInt8),(7:UInt8),(7:UInt8),(7:UInt8),(7:UInt8),(7:UInt8),(7:UInt8),(7:UInt8),(7:UInt8),(7:UInt8),(7:UInt8),(7:UInt8),(7:UInt8),(7:UInt8),(7:UInt8),(7:UInt8),(7:UInt8),(7:UInt8),(7:UInt8),(7:UInt8),(7:UInt8),(7:UInt8),(7:UInt8),(7:UInt8),(7:UInt8),(7:UInt8),(7:UInt8),(7:UInt8),(7:UInt8),(7:UInt8)]).append (z1.append z1)).toArray:ByteArray }[0]?=some u->iR (u.toNat:Int)/\iR (0+(u.toNat:Int))/\qI 0 (0+(u.toNat:Int)):=by
 conv=>zeta
 delta qI iR;refine⟨by omega,λu hu=>?_⟩
 have hu:some (0:UInt8)=some u:=hu;cases hu;exact⟨au.2 (by decide),au.2 (by decide),rfl,rfl⟩
theorem abj:aN aK.gd 226 ajI:=
 jG (cx:=aK) (n:=25) (cl:=[]) ay trivial Tryz.func226 λd hd=>by
  obtain⟨x,⟨⟩⟩:=d;simp only at hd;subst hd;exact⟨amg ,cast (by kernel_rfl) (agd )⟩
abbrev ajJ:CT:={ ps:=[.int .u64],pre:=λd=>d.1=0,res:=λd=>([],.one (.c (.v (.int .i64 0)))) }
abbrev amh  : Nat->Option (St->iE):=λ_=>none
theorem agf :
 (0:(Sh.int IntKind.u64).den)=(0:(Sh.int IntKind.u64).den)/\qI 0 (0:Int):=by
 delta qI;exact⟨rfl,rfl,rfl⟩
theorem abk:aN aK.gd 213 ajJ:=
 jG (cx:=aK) (n:=8) (cl:=[(226,ajI)]) ay ⟨abj,trivial⟩ Tryz.func213 λd hd=>by
  obtain⟨x,⟨⟩⟩:=d;simp only at hd;subst hd;exact⟨amh ,cast (by kernel_rfl) (agf )⟩
abbrev ajK:CT:={ ps:=[.sl (.int .i64),.int .i64,.int .i64],pre:=λd=>Mt d.1/\d.2.1=0/\d.2.2.1=0,res:=λd=>([],.gY []) }
abbrev ami  : Nat->Option (St->iE):=λ_=>some λ_=>.FB 1
theorem agh :
 iR (1:Int)/\rT [] []:=by
 delta rT iR;exact⟨au.2 (by omega),rfl,rfl⟩
theorem abl:aN aK.gd 216 ajK:=
 jG (cx:=aK) (n:=49) (cl:=[]) ay trivial Tryz.func216 λd hd=>by
  obtain⟨l,a,b,⟨⟩⟩:=d;obtain⟨h1,h2,h3⟩:=hd;simp only at h1 h2 h3;have h1:l=[]:=h1;subst h1;subst h2;subst h3;exact⟨ami ,cast (by kernel_rfl) (agh )⟩
abbrev ajL:CT:={ ps:=[.sl (.int .i64),.int .i64,.int .i64,.int .i64],pre:=λd=>Mt d.1/\d.2.1=0/\d.2.2.1=0,res:=λd=>([],.gY []) }
abbrev amj(m:Int):Nat->Option (St->iE):=λ_=>some λ_=>.FB 1
theorem agi(m:Int):
 iR (0:Int)/\(Mt []/\(0:Int)=(0:Int)/\(0:Int)=(0:Int))/\rT [] []:=by
 delta rT iR;exact⟨au.2 (by omega),⟨rfl,rfl,rfl⟩,rfl,rfl⟩
theorem abm:aN aK.gd 212 ajL:=
 jG (cx:=aK) (n:=134) (cl:=[(216,ajK)]) ay ⟨abl,trivial⟩ Tryz.func212 λd hd=>by
  obtain⟨l,a,b,m,⟨⟩⟩:=d;obtain⟨h1,h2,h3⟩:=hd;simp only at h1 h2 h3;have h1:l=[]:=h1;subst h1;subst h2;subst h3;exact⟨amj m,cast (by kernel_rfl) (agi m)⟩
abbrev aqg:CT:={ ps:=[.sl (.int .i64)],pre:=λd=>Mt d.1,res:=λd=>([],.gY []) }
abbrev amk  : Nat->Option (St->iE):=λ_=>none
theorem agj :
 (0:Int)=(0:(Sh.int IntKind.u64).den)/\(Mt []/\(0:Int)=(0:Int)/\(0:Int)=(0:Int))/\rT [] []:=by
 delta rT;exact⟨rfl,⟨rfl,rfl,rfl⟩,rfl,rfl⟩
theorem OB:aN aK.gd 200 aqg:=
 jG (cx:=aK) (n:=11) (cl:=[(212,ajL),(213,ajJ)]) ay ⟨abm,abk,trivial⟩ Tryz.func200 λd hd=>by
  obtain⟨l,⟨⟩⟩:=d;have hd:l=[]:=hd;subst hd;exact⟨amk ,cast (by kernel_rfl) (agj )⟩
abbrev wQ:CT:={ ps:=[.sl (.int .i64)],pre:=λd=>d.1.length<=1000000,res:=λd=>([.row 3 (.int .i64) (d.1)],.one (.c (.row 0))) }
abbrev ilN:List (Nat×IP):=[]
abbrev gZ:=Sh.int IntKind.i64
theorem aml(l:List Int) (aA:wQ.pre (l,())):
 let z1:=[aj.row (3:TypeId) gZ l];∀(b:Bool),(b=true->l=[])->br b (z1=[aj.row (3:TypeId) gZ []]/\aW.one mD=aW.one mD) (jY ((0:Nat)+List.length (l)) (8:Nat)/\z1=[aj.row (3:TypeId) gZ ([]++l)]/\aW.one mD=aW.one mD):=by
 conv=>zeta
 delta gZ mD;have hp:l.length<=1000000:=aA;intro b hb;refine ah.2 ⟨λh=>by rw[hb h];exact⟨rfl,rfl⟩,λh=>⟨?_,by simp,rfl⟩⟩
 rw[bJ];omega
theorem DU:aN aK.gd 58 wQ:=
 Ry (il:=ilN) (rc:=[.row 3 (.int .i64)]) (cx:=aK) (n:=8) (cl:=[]) (by kernel_rfl) ay trivial trivial Tryz.func58 (by kernel_rfl) (by kernel_rfl) rfl (by kernel_rfl) (by kernel_rfl) λd hd=>by
  obtain⟨l,⟨⟩⟩:=d;exact⟨λ_=>none,cast (by kernel_rfl) (aml l hd)⟩
def Ie(l:List Int) (x:Int):Int:=match l.findIdx? (λy=>decide (y=x)) with | some k=>(k:Int) | none=>-1
theorem RI{l:List Int}{x:Int} (hd:l[k]?=some x) (hn:∀j < k,∀y,l[j]?=some y->y≠x):Ie l x=k:=by
 have iT:k < l.length:=(eX.1 hd).1;have:l.findIdx? (λy=>decide (y=x))=some k:=by
  rw[A55];refine⟨iT,by have:=(eX.1 hd).2;simp[this],λj hj=>?_⟩
  have:=hn j hj l[j] (mP (by omega))
  simpa using this
 simp[Ie,this]
theorem XD{l:List Int}{x:Int} (hn:∀(j:Nat) y,l[j]?=some y->y≠x):Ie l x = -1:=by
 have:l.findIdx? (λy=>decide (y=x))=none:=by
  rw[A76];intro y hy;obtain⟨j,hj⟩:=yT hy;simpa using hn j y hj
 simp[Ie,this]
abbrev abo:CT:={ ps:=[.sl (.int .i64),.int .i64],pre:=λd=>d.1.length<=4611686018427387904,res:=λd=>([],.one (.c (.v (.int .i64 (Ie d.1 d.2.1))))) }
abbrev amm(l:List Int) (x:Int):Nat->Option (St->iE):=λ_=>some λ_=>.inv { α:=Nat,slots:=λk=>[(8,.c (.v (.int .i64 k)))],res:=λ_=>[],inv:=λk=>k<=l.length/\∀j < k,∀y,l[j]?=some y->y≠x,meas:=λk=>l.length - k }
abbrev dP:=Go.jw.Gd×Go.jw.aj
theorem agk(l:List Int) (x:Int) (aA:abo.pre (l,x,())):
 let z1:=λ(x_1:Nat)=>(x_1<=l.length/\∀(j:Nat),j < x_1->∀(y:Int),l[j]?=some y->y≠x);(∃x_1,(z1 x_1)/\(cI 0=cI (x_1:Int)/\True)/\([]:List dP)=[])/\∀(x_1:Nat),(z1 x_1)->br (decide ((x_1:Int) < (l.length:Int))) ((0<=(x_1:Int)/\(x_1:Int) < (l.length:Int))/\∀(d:Int),l[(x_1:Int).toNat]?=some d->br (decide (x=d)) (qI (Ie l x) (x_1:Int)) (iR ((x_1:Int)+(1:Int))/\∃x',(x'<=l.length/\∀(j:Nat),j < x'->∀(y:Int),l[j]?=some y->y≠x)/\(cI ((x_1:Int)+(1:Int))=cI (x':Int)/\True)/\([]:List dP)=[]/\l.length - x' < l.length - x_1)) (qI (Ie l x) (-1:Int)):=by
 conv=>zeta
 delta dP cI qI iR;refine⟨⟨0,⟨by omega,λj hj=>by omega⟩,⟨rfl,trivial⟩,rfl⟩,λk hk=>ah.2 ⟨λh=>?_,λh=>?_⟩⟩
 .simp only[dG]at h;have hp:l.length<=4611686018427387904:=aA;refine⟨by omega,λd hd=>?_⟩
  have hd:l[k]?=some d:=by simpa using hd
  refine ah.2 ⟨λhe=>?_,λhe=>⟨au.2 (by omega),k+1,⟨by omega,λj hj y hy=>?_⟩,⟨rfl,trivial⟩,rfl,by omega⟩⟩
  .have he:x=d:=by simpa using he
   rw[RI (by rw[hd,he]) hk.2];exact⟨rfl,rfl⟩
  .by_cases gu:j=k
   .subst gu;rw[hd]at hy;cases hy;intro hh;simp[hh]at he
   .exact hk.2 j (by omega) y hy
 .simp only[A8]at h;rw[XD (λj y hy=>hk.2 j (by have:=(eX.1 hy).1;omega) y hy)];exact⟨rfl,rfl⟩
theorem abp:aN aK.gd 162 abo:=
 jG (cx:=aK) (n:=19) (cl:=[]) ay trivial Tryz.func162 λd hd=>by
  obtain⟨l,x,⟨⟩⟩:=d;exact⟨amm l x,cast (by kernel_rfl) (agk l x hd)⟩
theorem abq(l:List Int) (x:Int):dM l x=decide (0<=Ie l x):=by
 have h:=List.findIdx?_isSome (xs:=l) (p:=λy=>decide (y=x))
 unfold dM Ie;rw[<-h];cases l.findIdx? (λy=>decide (y=x)) with
 | none=>rfl
 | some k=>simp
abbrev Gh:CT:={ ps:=[.sl (.int .i64),.int .i64],pre:=λd=>d.1.length<=4611686018427387904,res:=λd=>([],vB (dM d.1 d.2.1)) }
theorem amn(l:List Int) (x:Int) (aA:Gh.pre (l,x,())):
 l.length<=4611686018427387904/\qB (dM l x) (decide (0<=Ie l x)):=by
 delta qB;refine⟨aA,rfl,?_⟩;rw[abq]
theorem Aa:aN aK.gd 98 Gh:=
 jG (cx:=aK) (n:=9) (cl:=[(162,abo)]) ay ⟨abp,trivial⟩ Tryz.func98 λd hd=>by
  obtain⟨l,x,⟨⟩⟩:=d;exact⟨λ_=>none,cast (by kernel_rfl) (amn l x hd)⟩
theorem XE(l:List Int):(jQ l).length=l.length:=by simp[jQ]
theorem OC(l:List Int):(aX l).length<=l.length:=I8 l
theorem agl:UK Tryz.prog aK.gd 200 F7:=⟨Xy OB.1 rfl (λblk cap zs w hH hb hz=>Tryz.slices_Sort_int blk 0 cap zs w hH hb hz),OB.2⟩
theorem agm:UK Tryz.prog aK.gd 201 BL:=⟨KT (λa cap w=>Tryz.slices_Compact_int_empty a cap w) (λblk cap zs w hH h1 h2=>Tryz.slices_Compact_int blk 0 cap zs w hH h1 h2),⟨_,Tryz.func201,rfl,by kernel_rfl⟩⟩
abbrev Ac:CT:={ ps:=[.sl (.int .i64)],pre:=λd=>d.1.length<=1000000,res:=λd=>([.row 3 (.int .i64) (aX d.1)],.one (.c (.row 0))) }
abbrev aqh:List (Nat×IP):=[(200,F7),(201,BL)]
theorem agn(l:List Int) (aA:Ac.pre (l,())):
 l.length<=(1000000:Nat)/\List.length (l) < (4611686018427387904:Nat)/\List.length (jQ (l)) < (4611686018427387904:Nat)/\[aj.row (3:TypeId) gZ (aX l)]=[aj.row (3:TypeId) gZ (Lib.compact (jQ (l)))]/\aW.one mD=aW.one mD:=by
 delta gZ mD;have hp:l.length<=1000000:=aA;exact⟨hp,by omega,by rw[XE];omega,by rw[agc],rfl⟩
theorem OD:aN aK.gd 169 Ac:=
 Ry (il:=aqh) (rc:=[]) (cx:=aK) (n:=10) (cl:=[(58,wQ)]) (by kernel_rfl) ay ⟨DU,trivial⟩ ⟨agl,agm,trivial⟩ Tryz.func169 (by kernel_rfl) (by kernel_rfl) rfl (by kernel_rfl) (by kernel_rfl) λd hd=>by
  obtain⟨l,⟨⟩⟩:=d;exact⟨λ_=>none,cast (by kernel_rfl) (agn l hd)⟩
abbrev I9:CT:={ ps:=[.sl (.int .i64),.int .i64],pre:=λd=>d.1.length<=1000000,res:=λd=>([],vB (dM d.1 d.2.1)) }
theorem agp(l:List Int) (x:Int) (aA:I9.pre (l,x,())):
 l.length<=4611686018427387904/\qB (dM l x) (dM l x):=by
 delta qB;have hp:l.length<=1000000:=aA;exact⟨by omega,rfl,rfl⟩
theorem Ad:aN aK.gd 165 I9:=
 jG (cx:=aK) (n:=8) (cl:=[(98,Gh)]) ay ⟨Aa,trivial⟩ Tryz.func165 λd hd=>by
  obtain⟨l,x,⟨⟩⟩:=d;exact⟨λ_=>none,cast (by kernel_rfl) (agp l x hd)⟩
abbrev OE:CT:={ ps:=[.sl (.int .i64),.int .i64],pre:=λd=>d.1.length<=999999,res:=λd=>([.row 3 (.int .i64) (aX (d.1++[d.2.1]))],.one (.c (.row 0))) }
theorem agq(l:List Int) (x:Int) (aA:OE.pre (l,x,())):
 let z1:=[aj.row (3:TypeId) gZ (aX (l++[x]))];l.length<=(1000000:Nat)/\jY (List.length (l)+List.length ([x])) (8:Nat)/\List.length (l++[x])<=(1000000:Nat)/\z1=z1/\aW.one mD=aW.one mD:=by
 conv=>zeta
 delta gZ mD;have hp:l.length<=999999:=aA;refine⟨by omega,?_,?_,rfl,rfl⟩
 .rw[bJ];simp;omega
 .simp;omega
theorem Gi:aN aK.gd 111 OE:=
 jG (cx:=aK) (n:=11) (cl:=[(58,wQ),(169,Ac)]) ay ⟨DU,OD,trivial⟩ Tryz.func111 λd hd=>by
  obtain⟨l,x,⟨⟩⟩:=d;exact⟨λ_=>none,cast (by kernel_rfl) (agq l x hd)⟩
abbrev Gj:Sh:=.pair .str (.pair (.int .i64) .unit)
abbrev CY:Sh:=.pair .str (.pair (.sl jT) .unit)
abbrev mO:Sh:=.pair (.int .i64) (.pair (.int .i64) .unit)
abbrev oQ:Sh:=.pair (.sl Gj) (.pair (.sl .str) (.pair (.sl .str) (.pair (.sl CY) (.pair (.sl mO) .unit))))
abbrev ID:=Int×Int×Int×Int×Int×Int×Int×Int×Unit
abbrev VD:=ByteArray×Int×Unit
abbrev FD:=ByteArray×List ID×Unit
abbrev SD:=Int×Int×Unit
abbrev PD:=List VD×List ByteArray×List ByteArray×List FD×List SD×Unit
def qQ(f:Nat) (x:FD):List (dh [mO,jT]):=x.2.1.zipIdx.map λp=>(((f:Int),(p.2:Int),()),p.1,())
def kE:Nat->List FD->List (dh [mO,jT])
 | _,[]=>[]
 | n,x :: l=>qQ n x++kE (n+1) l
def dR(fs:List FD):List (dh [mO,jT]):=kE 0 fs
theorem Ja(f:Nat) (x:FD):(qQ f x).length=x.2.1.length:=by simp[qQ]
theorem Jb{f:Nat}{x:FD}{j:Nat}{e:ID} (h:x.2.1[j]?=some e):(qQ f x)[j]?=some (((f:Int),(j:Int),()),e,()):=by
 unfold qQ;rw[Es,aen,h];simp
theorem ug:∀(l m:List FD) (n:Nat),kE n (l++m)=kE n l++kE (n+l.length) m
 | [],m,n=>by simp[kE]
 | x :: l,m,n=>by
   simp only[List.cons_append,kE,ug l m,yU,sZ];rw[show n+1+l.length=n+(l.length+1) by omega]
theorem XF{fs:List FD}{d:FD} (h:fs[k]?=some d):dR fs=dR (fs.take k)++(qQ k d++kE (k+1) (fs.drop (k+1))):=by
 have hk:k < fs.length:=(eX.1 h).1;have e:fs=fs.take k++(d :: fs.drop (k+1)):=by
  have h2:=List.drop_eq_getElem_cons hk;rw[(eX.1 h).2]at h2;rw[<-h2,X5]
 unfold dR
 conv=>lhs;rw[e]
 rw[ug];rw[show 0+(fs.take k).length=k by simp;omega]
 rfl
theorem RJ{fs:List FD}{d:FD} (h:fs[k]?=some d):dR (fs.take (k+1))=dR (fs.take k)++qQ k d:=by
 have hk:k < fs.length:=(eX.1 h).1;rw[Hf,h];unfold dR;rw[ug];rw[show 0+(fs.take k).length=k by simp;omega]
 simp[kE]
theorem XG{fs:List FD}{j:Nat}{d:FD}{e:ID} (h:fs[k]?=some d) (h2:d.2.1[j]?=some e):(dR fs)[(dR (fs.take k)).length+j]?=some (((k:Int),(j:Int),()),e,()):=by
 have hj:j < d.2.1.length:=(eX.1 h2).1;rw[XF h,Qd (by omega),X3 (by rw[Ja];omega)]
 rw[show(dR (fs.take k)).length+j - (dR (fs.take k)).length=j by omega]
 exact Jb h2
noncomputable abbrev amo:MK:={ ss:=[oQ],f:=λd=>.seq Tryz.prog [mO,jT] (dR d.1.2.2.2.1),pre:=λd=>d.1.2.2.2.1.length<=1000000/\∀x∈d.1.2.2.2.1,x.2.1.length<=1000000 }
abbrev aqi:List (Nat×CT):=[]
abbrev amr(vs:List VD) (ms cs:List ByteArray) (fs:List FD) (ts:List SD):Nat->Option (St->iE):=λk=>match k with
 | 1=>some λ_=>.gen { α:=Nat,slots:=λk=>[(10,.c (.v (.int .i64 k)))],res:=λ_=>[],inv:=λk=>k<=fs.length,meas:=λk=>fs.length - k } λk=>(dR (fs.take k)).length
 | 4=>some λs=>.gen { α:=Nat,slots:=λk=>[(18,.c (.v (.int .i64 k)))],res:=λ_=>[],inv:=λk=>k<=(slotL jT s 16).length,meas:=λk=>(slotL jT s 16).length - k } λk=>(dR (fs.take (UD s 10).toNat)).length+k
 | _=>none
abbrev hlN:List (Nat×Nat×CT):=[]
abbrev mlN:List (Nat×MK):=[]
theorem ags(vs:List VD) (ms cs:List ByteArray) (fs:List FD) (ts:List SD) (l:Nat) (aA:amo.pre ((vs,ms,cs,fs,ts,()),())):
 let z2:=λ(x:Nat)=>dR (List.take x fs);let z1:=λ(x:Nat)=>dR (List.take (x:Int).toNat fs);let z3:=λ(x_1:Nat)=>(x_1:Int)+(1:Int);(∃x,x<=fs.length/\(z2 x).length=0/\(cI 0=cI (x:Int)/\True)/\([]:List dP)=[])/\∀(x:Nat),x<=fs.length->br (decide ((x:Int) < (fs.length:Int))) ((0<=(x:Int)/\(x:Int) < (fs.length:Int))/\∀(d:ByteArray×(jT.sl.pair Sh.unit).den),fs[(x:Int).toNat]?=some d->(∃x_1,x_1<=List.length (d.snd.fst)/\(z1 x).length+x_1=(z2 x).length/\(cI 0=cI (x_1:Int)/\True)/\sm [g0 (aj.blk 77 [SC.v (Value.string d.fst),SC.sl jT d.snd.fst])])/\∀(x_1:Nat),x_1<=List.length (d.snd.fst)->br (decide ((x_1:Int) < ((List.length d.snd.fst):Int))) ((0<=(x_1:Int)/\(x_1:Int) < ((List.length d.snd.fst):Int))/\∀(dH:ID),d.snd.fst[(x_1:Int).toNat]?=some dH->l=l/\(dR fs)[(z1 x).length+x_1]?=some (((x:Int),(x_1:Int),()),dH,())/\(iR (z3 x_1)/\∃x',x'<=List.length (d.snd.fst)/\(z1 x).length+x'=(z1 x).length+x_1+1/\(cI (z3 x_1)=cI (x':Int)/\True)/\sm [g0 (aj.blk 77 [SC.v (Value.string d.fst),SC.sl jT d.snd.fst])]/\List.length (d.snd.fst) - x' < List.length (d.snd.fst) - x_1)/\True) (iR (z3 x)/\∃x',x'<=fs.length/\(z2 x').length=(z1 x).length+x_1/\(cI (z3 x)=cI (x':Int)/\True)/\([]:List dP)=[]/\fs.length - x' < fs.length - x)) ((z2 x).length=aT (dR fs)):=by
 conv=>zeta
 delta dP cI g0 sm I6 iR;have hp1:fs.length<=1000000:=aA.1;have hp2:∀x∈fs,x.2.1.length<=1000000:=aA.2;refine⟨⟨0,by omega,by simp[dR,kE],⟨rfl,trivial⟩,rfl⟩,λx hx=>ah.2 ⟨λh=>?_,λh=>?_⟩⟩
 .simp only[dG]at h;have hN:(x:Int).toNat=x:=by omega
  rw[hN];refine⟨by omega,λd hd=>?_⟩
  have hd:fs[x]?=some d:=by simpa using hd
  have hst:=RJ hd;refine⟨⟨0,MJ _,by omega,⟨rfl,trivial⟩,rfl⟩,λy hy=>ah.2 ⟨λh2=>?_,λh2=>?_⟩⟩
  .simp only[dG]at h2;refine⟨by omega,λe he=>?_⟩
   have he:d.2.1[y]?=some e:=by simpa using he
   refine⟨rfl,XG hd he,⟨?_,y+1,?_,?_,⟨rfl,trivial⟩,rfl,?_⟩,trivial⟩
   .have:=hp2 d (gQ hd);exact au.2 (by omega)
   .omega
   .omega
   .omega
  .simp only[A8]at h2;refine⟨au.2 (by omega),x+1,by omega,?_,⟨rfl,trivial⟩,rfl,by omega⟩
   have hq:=hp2 d (gQ hd);have hy:y=d.2.1.length:=by omega
   rw[hst,kK,Ja,hy]
 .simp only[A8]at h;rw[qV (by omega),bI]
theorem agt:aad Tryz.prog aK.gd 210 amo:=by
 intro d h lb hd hg cap;obtain⟨⟨vs,ms,cs,fs,ts,⟨⟩⟩,⟨⟩⟩:=d;exact aai (E:=aae Tryz.prog aK 32 aqi ilN hlN mlN [] [] λ_=>none) (UL (by kernel_rfl) ay trivial trivial trivial trivial) rfl Tryz.func210 (body:=kD Tryz.f210) (by kernel_rfl) (by kernel_rfl) rfl rfl rfl rfl ⟨amr vs ms cs fs ts,λl=>cast (by kernel_rfl) (ags vs ms cs fs ts l hd)⟩ hg cap
noncomputable abbrev KW:CT:={ ps:=[oQ],pre:=λd=>d.1.2.2.2.1.length<=1000000/\∀x∈d.1.2.2.2.1,x.2.1.length<=1000000,res:=λd=>([],.one (.c (.abs (.seq Tryz.prog [mO,jT] (dR d.1.2.2.2.1))))) }
noncomputable abbrev aqj:List (Nat×MK):=[(210,amo)]
theorem agu(vs:List VD) (ms cs:List ByteArray) (fs:List FD) (ts:List SD) (aA:KW.pre ((vs,ms,cs,fs,ts,()),())):
 let z1:=aW.one (SV.c (SC.abs (Ho.seq Tryz.prog [I6.pair (I6.pair Sh.unit),I6.pair (I6.pair (I6.pair (I6.pair (I6.pair (I6.pair mO)))))] (dR fs))));(fs.length<=1000000/\∀(x:ByteArray×(jT.sl.pair Sh.unit).den),x∈fs->List.length x.snd.fst<=1000000)/\rE z1 z1:=by
 conv=>zeta
 delta rE I6;exact⟨aA,rfl,rfl⟩
theorem abr:aN aK.gd 189 KW:=
 (oO (cx:=aK) (n:=4) (cl:=[]) (il:=ilN) (hl:=hlN) (ml:=aqj) (rc:=[]) (lits:=[]) (suf:=[]) (by kernel_rfl) ay trivial trivial trivial ⟨agt,trivial⟩ Tryz.func189 (by kernel_rfl) (by kernel_rfl) rfl (by kernel_rfl) (by kernel_rfl) (by simp) λd hd=>by
  obtain⟨⟨vs,ms,cs,fs,ts,⟨⟩⟩,⟨⟩⟩:=d;exact⟨λ_=>none,cast (by kernel_rfl) (agu vs ms cs fs ts hd)⟩).met
def uh(c:Int):Bool:=decide (97<=c/\c<=122\/65<=c/\c<=90)
abbrev ajM:CT:={ ps:=[.int .u8],pre:=λd=>True,res:=λd=>([],vB (uh d.1)) }
theorem agv(c:Int):
 qB (uh c) (decide (97<=c) && decide (c<=122) || decide (65<=c) && decide (c<=90)):=by
 delta qB;refine⟨rfl,?_⟩;rw[show uh c=(decide (97<=c) && decide (c<=122) || decide (65<=c) && decide (c<=90)) by unfold uh;rw[Et];simp]
theorem abt:aN aK.gd 214 ajM:=
 jG (cx:=aK) (n:=17) (cl:=[]) ay trivial Tryz.func214 λd hd=>by
  obtain⟨c,⟨⟩⟩:=d;exact⟨λ_=>none,cast (by kernel_rfl) (agv c)⟩
def bY(n:Int):Bool:=decide (-2147483648<=n/\n<=2147483647)
abbrev abu:CT:={ ps:=[.int .i64],pre:=λd=>True,res:=λd=>([],vB (bY d.1)) }
theorem agw(n:Int):
 qB (bY n) (decide ((-2147483648)<=n) && decide (n<=2147483647)):=by
 delta qB;refine⟨rfl,?_⟩;rw[show bY n=(decide (-2147483648<=n) && decide (n<=2147483647)) by unfold bY;rw[Et];simp]
theorem OG:aN aK.gd 186 abu:=
 jG (cx:=aK) (n:=9) (cl:=[]) ay trivial Tryz.func186 λd hd=>by
  obtain⟨n,⟨⟩⟩:=d;exact⟨λ_=>none,cast (by kernel_rfl) (agw n)⟩
abbrev RN:CT:={ ps:=[.int .i64],pre:=λd=>True,res:=λd=>([],vB (bY d.1)) }
theorem agx(n:Int):
 qB (bY n) (decide ((-2147483648)<=n) && decide (n<=2147483647)):=by
 delta qB;refine⟨rfl,?_⟩;rw[show bY n=(decide (-2147483648<=n) && decide (n<=2147483647)) by unfold bY;rw[Et];simp]
theorem OH:aN aK.gd 134 RN:=
 jG (cx:=aK) (n:=9) (cl:=[]) ay trivial Tryz.func134 λd hd=>by
  obtain⟨n,⟨⟩⟩:=d;exact⟨λ_=>none,cast (by kernel_rfl) (agx n)⟩
def qh(vs:List VD) (ms cs:List ByteArray) (fs:List FD) (op:Int):Int:=
 if op=8\/op=9\/op=10\/op=11\/op=12\/op=14 then vs.length else if op=15\/op=16\/op=17 then ms.length else if op=18\/op=19\/op=20 then cs.length else if op=21 then fs.length else -1
abbrev ajN:CT:={ ps:=[oQ,.int .i64],pre:=λd=>True,res:=λd=>([],.one (.c (.v (.int .i64 (qh d.1.1 d.1.2.1 d.1.2.2.1 d.1.2.2.2.1 d.2.1))))) }
theorem agy(vs:List VD) (ms cs:List ByteArray) (fs:List FD) (ts:List SD) (op:Int):
 let z7:=qh vs ms cs fs op;let z4:=qI z7 (vs.length:Int);let z5:=qI z7 (ms.length:Int);let z6:=qI z7 (cs.length:Int);let z3:=br (decide (op=21)) (qI z7 (fs.length:Int)) (qI z7 (-1:Int));let z2:=br (decide (op=18)) (br (decide (op=18)) z6 z3) (br (decide (op=19)) (br (decide (op=19)) z6 z3) (br (decide (op=20)) z6 z3));let z1:=br (decide (op=15)) (br (decide (op=15)) z5 z2) (br (decide (op=16)) (br (decide (op=16)) z5 z2) (br (decide (op=17)) z5 z2));br (decide (op=8)) (br (decide (op=8)) z4 z1) (br (decide (op=9)) (br (decide (op=9)) z4 z1) (br (decide (op=10)) (br (decide (op=10)) z4 z1) (br (decide (op=11)) (br (decide (op=11)) z4 z1) (br (decide (op=12)) (br (decide (op=12)) z4 z1) (br (decide (op=14)) z4 z1))))):=by
 conv=>zeta
 delta qI;unfold qh;simp only[ah]
 repeat' (first | (refine And.intro ?_ ?_) | (intro _))
 all_goals first | rfl | (simp_all;done) | (simp_all;omega) | grind
theorem abv:aN aK.gd 211 ajN:=
 jG (cx:=aK) (n:=35) (cl:=[]) ay trivial Tryz.func211 λd hd=>by
  obtain⟨⟨vs,ms,cs,fs,ts,⟨⟩⟩,op,⟨⟩⟩:=d;exact⟨λ_=>none,cast (by kernel_rfl) (agy vs ms cs fs ts op)⟩
def iF(vs:List VD):List ByteArray:=vs.map λv=>v.1
def jH(fs:List FD):List ByteArray:=fs.map λf=>f.1
abbrev RP:CT:={ ps:=[oQ],pre:=λd=>d.1.1.length<=1000000,res:=λd=>([.row 9 .str (iF d.1.1)],.one (.c (.row 0))) }
abbrev amu(vs:List VD) (ms cs:List ByteArray) (fs:List FD) (ts:List SD):Nat->Option (St->iE):=λk=>match k with
 | 3=>some λ_=>.inv { α:=Nat,slots:=λk=>[(9,.c (.v (.int .i64 k))),(3,.c (.row 1))],res:=λk=>[(1,.row 9 .str (iF (vs.take k)))],inv:=λk=>k<=(vs).length,meas:=λk=>(vs).length - k,nil:=[(3,9,.str)] }
 | _=>none
theorem agz(vs:List VD) (ms cs:List ByteArray) (fs:List FD) (ts:List SD) (aA:RP.pre ((vs,ms,cs,fs,ts,()),())):
 let z2:=[SC.sl Gj vs,SC.sl Sh.str ms,SC.sl Sh.str cs,SC.sl CY fs,SC.sl mO ts];let z1:=λ(x:Nat)=>[g0 (aj.blk 27 z2),g0 (aj.row 9 Sh.str (iF (List.take x vs)))];(∃x,x<=vs.length/\(cI 0=cI (x:Int)/\SV.c (SC.row (Nat.succ 0))=SV.c (SC.row 1)/\True)/\[g0 (aj.blk 27 z2),g0 (aj.row 9 Sh.str [])]=(z1 x))/\∀(x:Nat),x<=vs.length->br (decide ((x:Int) < (vs.length:Int))) ((0<=(x:Int)/\(x:Int) < (vs.length:Int))/\∀(d:ByteArray×(I6.pair Sh.unit).den),vs[(x:Int).toNat]?=some d->jY (List.length (iF (List.take x vs))+List.length ([d.fst])) 16/\iR ((x:Int)+(1:Int))/\∃x',x'<=vs.length/\(cI ((x:Int)+(1:Int))=cI (x':Int)/\SV.c (SC.row 1)=SV.c (SC.row 1)/\True)/\[g0 (aj.blk 27 z2),g0 (aj.row 9 Sh.str (iF (List.take x vs)++[d.fst]))]=(z1 x')/\vs.length - x' < vs.length - x) ([aj.row 9 Sh.str (iF vs)]=[aj.row 9 Sh.str (iF (List.take x vs))]/\aW.one (SV.c (SC.row 0))=aW.one (SV.c (SC.row 0))):=by
 conv=>zeta
 delta cI g0 I6 iR;have hp:(vs).length<=1000000:=aA;refine⟨⟨0,by omega,⟨rfl,rfl,trivial⟩,rfl⟩,λk hk=>ah.2 ⟨λh=>?_,λh=>?_⟩⟩
 .simp only[dG]at h;refine⟨by omega,λd hd=>?_⟩
  have hd:(vs)[k]?=some d:=by simpa using hd
  have e:iF ((vs).take (k+1))=iF ((vs).take k)++[d.1]:=by
   unfold iF;rw[Hf,hd];simp
  refine⟨?_,au.2 (by omega),k+1,by omega,⟨rfl,rfl,trivial⟩,?_,by omega⟩
  .have:(iF ((vs).take k)).length<=1000000:=by simp[iF];omega
   exact bJ.2 (by simp only[sZ,AY];omega)
  .rw[e]
 .simp only[A8]at h;rw[qV (by omega)];exact⟨rfl,rfl⟩
theorem abw:aN aK.gd 183 RP:=
 jG (cx:=aK) (n:=20) (cl:=[]) ay trivial Tryz.func183 λd hd=>by
  obtain⟨⟨vs,ms,cs,fs,ts,⟨⟩⟩,⟨⟩⟩:=d;exact⟨amu vs ms cs fs ts,cast (by kernel_rfl) (agz vs ms cs fs ts hd)⟩
abbrev RQ:CT:={ ps:=[oQ],pre:=λd=>d.1.2.2.2.1.length<=1000000,res:=λd=>([.row 9 .str (jH d.1.2.2.2.1)],.one (.c (.row 0))) }
abbrev amv(vs:List VD) (ms cs:List ByteArray) (fs:List FD) (ts:List SD):Nat->Option (St->iE):=λk=>match k with
 | 3=>some λ_=>.inv { α:=Nat,slots:=λk=>[(9,.c (.v (.int .i64 k))),(3,.c (.row 1))],res:=λk=>[(1,.row 9 .str (jH (fs.take k)))],inv:=λk=>k<=(fs).length,meas:=λk=>(fs).length - k,nil:=[(3,9,.str)] }
 | _=>none
theorem agA(vs:List VD) (ms cs:List ByteArray) (fs:List FD) (ts:List SD) (aA:RQ.pre ((vs,ms,cs,fs,ts,()),())):
 let z2:=[SC.sl Gj vs,SC.sl Sh.str ms,SC.sl Sh.str cs,SC.sl CY fs,SC.sl mO ts];let z1:=λ(x:Nat)=>[g0 (aj.blk 27 z2),g0 (aj.row 9 Sh.str (jH (List.take x fs)))];(∃x,x<=fs.length/\(cI 0=cI (x:Int)/\SV.c (SC.row (Nat.succ 0))=SV.c (SC.row 1)/\True)/\[g0 (aj.blk 27 z2),g0 (aj.row 9 Sh.str [])]=(z1 x))/\∀(x:Nat),x<=fs.length->br (decide ((x:Int) < (fs.length:Int))) ((0<=(x:Int)/\(x:Int) < (fs.length:Int))/\∀(d:ByteArray×(jT.sl.pair Sh.unit).den),fs[(x:Int).toNat]?=some d->jY (List.length (jH (List.take x fs))+List.length ([d.fst])) 16/\iR ((x:Int)+(1:Int))/\∃x',x'<=fs.length/\(cI ((x:Int)+(1:Int))=cI (x':Int)/\SV.c (SC.row 1)=SV.c (SC.row 1)/\True)/\[g0 (aj.blk 27 z2),g0 (aj.row 9 Sh.str (jH (List.take x fs)++[d.fst]))]=(z1 x')/\fs.length - x' < fs.length - x) ([aj.row 9 Sh.str (jH fs)]=[aj.row 9 Sh.str (jH (List.take x fs))]/\aW.one (SV.c (SC.row 0))=aW.one (SV.c (SC.row 0))):=by
 conv=>zeta
 delta cI g0 I6 iR;have hp:(fs).length<=1000000:=aA;refine⟨⟨0,by omega,⟨rfl,rfl,trivial⟩,rfl⟩,λk hk=>ah.2 ⟨λh=>?_,λh=>?_⟩⟩
 .simp only[dG]at h;refine⟨by omega,λd hd=>?_⟩
  have hd:(fs)[k]?=some d:=by simpa using hd
  have e:jH ((fs).take (k+1))=jH ((fs).take k)++[d.1]:=by
   unfold jH;rw[Hf,hd];simp
  refine⟨?_,au.2 (by omega),k+1,by omega,⟨rfl,rfl,trivial⟩,?_,by omega⟩
  .have:(jH ((fs).take k)).length<=1000000:=by simp[jH];omega
   exact bJ.2 (by simp only[sZ,AY];omega)
  .rw[e]
 .simp only[A8]at h;rw[qV (by omega)];exact⟨rfl,rfl⟩
theorem abx:aN aK.gd 185 RQ:=
 jG (cx:=aK) (n:=20) (cl:=[]) ay trivial Tryz.func185 λd hd=>by
  obtain⟨⟨vs,ms,cs,fs,ts,⟨⟩⟩,⟨⟩⟩:=d;exact⟨amv vs ms cs fs ts,cast (by kernel_rfl) (agA vs ms cs fs ts hd)⟩
def Ig(l:List ByteArray) (x:ByteArray):Int:=match l.findIdx? (λy=>decide (y=x)) with | some k=>(k:Int) | none=>-1
theorem RS{l:List ByteArray}{x:ByteArray} (hd:l[k]?=some x) (hn:∀j < k,∀y,l[j]?=some y->y≠x):Ig l x=k:=by
 have iT:k < l.length:=(eX.1 hd).1;have:l.findIdx? (λy=>decide (y=x))=some k:=by
  rw[A55];refine⟨iT,by have:=(eX.1 hd).2;simp[this],λj hj=>?_⟩
  have:=hn j hj l[j] (mP (by omega))
  simpa using this
 simp[Ig,this]
theorem XH{l:List ByteArray}{x:ByteArray} (hn:∀(j:Nat) y,l[j]?=some y->y≠x):Ig l x = -1:=by
 have:l.findIdx? (λy=>decide (y=x))=none:=by
  rw[A76];intro y hy;obtain⟨j,hj⟩:=yT hy;simpa using hn j y hj
 simp[Ig,this]
abbrev RU:CT:={ ps:=[.sl .str,.str],pre:=λd=>d.1.length<=1000000,res:=λd=>([],.one (.c (.v (.int .i64 (Ig d.1 d.2.1))))) }
abbrev amw(l:List ByteArray) (x:ByteArray):Nat->Option (St->iE):=λk=>match k with
 | 2=>some λ_=>.inv { α:=Nat,slots:=λk=>[(8,.c (.v (.int .i64 k)))],res:=λk=>[],inv:=λk=>k<=(l).length/\∀j < k,∀y,l[j]?=some y->y≠x,meas:=λk=>(l).length - k }
 | _=>none
theorem agB(l:List ByteArray) (x:ByteArray) (aA:RU.pre (l,x,())):
 let z1:=λ(x_1:Nat)=>(x_1<=l.length/\∀(j:Nat),j < x_1->∀(y:ByteArray),l[j]?=some y->y≠x);(∃x_1,(z1 x_1)/\(cI 0=cI (x_1:Int)/\True)/\([]:List dP)=[])/\∀(x_1:Nat),(z1 x_1)->br (decide ((x_1:Int) < (l.length:Int))) ((0<=(x_1:Int)/\(x_1:Int) < (l.length:Int))/\∀(d:ByteArray),l[(x_1:Int).toNat]?=some d->br (decide (x=d)) (qI (Ig l x) (x_1:Int)) (iR ((x_1:Int)+(1:Int))/\∃x',(x'<=l.length/\∀(j:Nat),j < x'->∀(y:ByteArray),l[j]?=some y->y≠x)/\(cI ((x_1:Int)+(1:Int))=cI (x':Int)/\True)/\([]:List dP)=[]/\l.length - x' < l.length - x_1)) (qI (Ig l x) (-1:Int)):=by
 conv=>zeta
 delta dP cI qI iR;refine⟨⟨0,⟨by omega,λj hj=>by omega⟩,⟨rfl,trivial⟩,rfl⟩,λk hk=>ah.2 ⟨λh=>?_,λh=>?_⟩⟩
 .simp only[dG]at h;have hp:l.length<=1000000:=aA;refine⟨by omega,λd hd=>?_⟩
  have hd:l[k]?=some d:=by simpa using hd
  refine ah.2 ⟨λhe=>?_,λhe=>⟨au.2 (by omega),k+1,⟨by omega,λj hj y hy=>?_⟩,⟨rfl,trivial⟩,rfl,by omega⟩⟩
  .have he:x=d:=by simpa using he
   rw[RS (by rw[hd,he]) hk.2];exact⟨rfl,rfl⟩
  .by_cases gu:j=k
   .subst gu;rw[hd]at hy;cases hy;intro hh;simp[hh]at he
   .exact hk.2 j (by omega) y hy
 .simp only[A8]at h;rw[XH (λj y hy=>hk.2 j (by have:=(eX.1 hy).1;omega) y hy)];exact⟨rfl,rfl⟩
theorem aby:aN aK.gd 215 RU:=
 jG (cx:=aK) (n:=19) (cl:=[]) ay trivial Tryz.func215 λd hd=>by
  obtain⟨l,x,⟨⟩⟩:=d;exact⟨amw l x,cast (by kernel_rfl) (agB l x hd)⟩
def uV(l:List ByteArray) (x:ByteArray):Bool:=l.any λy=>decide (y=x)
theorem abz(l:List ByteArray) (x:ByteArray):uV l x=decide (0<=Ig l x):=by
 have h:=List.findIdx?_isSome (xs:=l) (p:=λy=>decide (y=x))
 unfold uV Ig;rw[<-h];cases l.findIdx? (λy=>decide (y=x)) with
 | none=>rfl
 | some k=>simp
abbrev RX:CT:={ ps:=[.sl .str,.str],pre:=λd=>d.1.length<=1000000,res:=λd=>([],vB (uV d.1 d.2.1)) }
theorem agC(l:List ByteArray) (x:ByteArray) (aA:RX.pre (l,x,())):
 l.length<=1000000/\qB (uV l x) (decide (0<=Ig l x)):=by
 delta qB;refine⟨aA,rfl,?_⟩;rw[abz]
theorem abA:aN aK.gd 209 RX:=
 jG (cx:=aK) (n:=9) (cl:=[(215,RU)]) ay ⟨aby,trivial⟩ Tryz.func209 λd hd=>by
  obtain⟨l,x,⟨⟩⟩:=d;exact⟨λ_=>none,cast (by kernel_rfl) (agC l x hd)⟩
end Go.Proofs.YtjhenjhcbcalpaaGreatDoor
