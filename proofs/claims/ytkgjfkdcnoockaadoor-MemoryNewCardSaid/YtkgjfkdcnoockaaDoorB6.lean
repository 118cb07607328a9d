/- Texts of this claim, part 6: M2D, M3, M4, M5, M6, M7, M8, L2. Conditions: those of the given rows. -/
import Derived.Test.YtkgjfkdcnoockaaDoorB5
import Derived.Test.YtkgjfkdcnoockaaDoorCards
import Derived.Test.YtkgjfkdcnoockaaDoorTie
import Derived.WalkKit
import Derived.ProofKit
import Derived.OpenShut
import Derived.Deep.DeepHandedRow
import Derived.Lib.LaidTab
set_option linter.unusedSimpArgs false
set_option linter.unusedVariables false
set_option maxRecDepth 100000
namespace Go.Proofs.YtkgjfkdcnoockaaDoor
open Go Go.Eng

@[reducible] def ctClD : CT := { ps := [shM], pre := fun d => bndM d.1, res := fun d => ([.row 3 (.int .i64) (d.1.1), .row 3 (.int .i64) (d.1.2.1), .row 28 (.sl (.int .i64)) (d.1.2.2.1), .row 3 (.int .i64) (d.1.2.2.2.1)], .one (.agg [(.row 0), (.row 1), (.row 2), (.row 3)])) }
@[reducible] def cl36d : List (Nat × CT) := [(60, ctCld)]
@[reducible] def ann36d (vs : List Int) (os : List Int) (qs : List (List Int)) (sg : List Int) : Nat → Option (St → Ann) := fun k => match k with
  | 2 => some fun _ => .cut { α := Nat, pad := 5, can := [(2, .slot 3), (3, .cell 2 0), (4, .cell 2 1), (5, .cell 2 2), (6, .cell 2 3)], slots := fun _ => [(3, .c (.own 2 0))], res := fun _ => [(2, .blk 31 [.row 3, .row 4, .row 5, .row 6]), (3, .row 3 (.int .i64) (vs)), (4, .row 3 (.int .i64) (os)), (5, .row 28 (.sl (.int .i64)) (List.replicate qs.length [])), (6, .row 3 (.int .i64) (sg))], inv := fun u => u = 0, meas := fun _ => 0 }
  | 3 => some fun _ => .inv { α := Nat, slots := fun k => [(23, .c (.v (.int .i64 k)))], res := fun k => [(5, .row 28 (.sl (.int .i64)) (qs.take k ++ List.replicate (qs.length - k) []))], inv := fun k => k ≤ qs.length, meas := fun k => qs.length - k }
  | _ => none
@[reducible] def il36d : List (Nat × IP) := []
@[reducible] def hl36d : List (Nat × Nat × CT) := []
@[reducible] def ml36d : List (Nat × MK) := []
set_option maxRecDepth 100000 in
theorem f36d_vc (vs : List Int) (os : List Int) (qs : List (List Int)) (sg : List Int) (hpre : ctClD.pre ((vs, os, qs, sg, ()), ())) :
    ((vs.length ≤ (1000000 : Nat) ∧ (os.length ≤ (1000000 : Nat) ∧ (((0 : Int) ≤ (↑qs.length : Int) ∧ (↑qs.length : Int) ≤ (↑qs.length : Int) ∧ InA (↑qs.length : Int).toNat (24 : Nat)) ∧ (sg.length ≤ (1000000 : Nat) ∧ (∃ v, v = (0 : Nat) ∧ (SV.c (SC.own (2 : Nat) (0 : Nat)) = SV.c (SC.own (2 : Nat) (0 : Nat)) ∧ True) ∧ [(([] : Go.Eng.Gd), bM6 vs os qs sg), (([] : Go.Eng.Gd), zM6), (([] : Go.Eng.Gd), Res.blk (31 : Nat) [SC.row (3 : Nat), SC.row (4 : Nat), SC.row (5 : Nat), SC.row (6 : Nat)]), (([] : Go.Eng.Gd), Res.row (3 : TypeId) I6 vs), (([] : Go.Eng.Gd), Res.row (3 : TypeId) I6 os), (([] : Go.Eng.Gd), Res.row (28 : TypeId) I6.sl (List.replicate (↑qs.length : Int).toNat [])), (([] : Go.Eng.Gd), Res.row (3 : TypeId) I6 sg)] = [(([] : Go.Eng.Gd), bM6 vs os qs sg), (([] : Go.Eng.Gd), zM6), (([] : Go.Eng.Gd), Res.blk (31 : TypeId) [SC.row (3 : Nat), SC.row (4 : Nat), SC.row (5 : Nat), SC.row (6 : Nat)]), (([] : Go.Eng.Gd), Res.row (3 : TypeId) I6 vs), (([] : Go.Eng.Gd), Res.row (3 : TypeId) I6 os), (([] : Go.Eng.Gd), Res.row (28 : TypeId) I6.sl (List.replicate qs.length [])), (([] : Go.Eng.Gd), Res.row (3 : TypeId) I6 sg)]) ∧ ∃ v, v = (0 : Nat) ∧ (SV.c (SC.own (2 : Nat) (0 : Nat)) = SV.c (SC.own (2 : Nat) (0 : Nat)) ∧ True) ∧ [(([] : Go.Eng.Gd), bM6 vs os qs sg), (([] : Go.Eng.Gd), zM6), (([] : Go.Eng.Gd), Res.blk (31 : Nat) [SC.row (3 : Nat), SC.row (4 : Nat), SC.row (5 : Nat), SC.row (6 : Nat)]), (([] : Go.Eng.Gd), Res.row (3 : TypeId) I6 vs), (([] : Go.Eng.Gd), Res.row (3 : TypeId) I6 os), (([] : Go.Eng.Gd), Res.row (28 : TypeId) I6.sl (List.replicate (↑qs.length : Int).toNat [])), (([] : Go.Eng.Gd), Res.row (3 : TypeId) I6 sg)] = [(([] : Go.Eng.Gd), bM6 vs os qs sg), (([] : Go.Eng.Gd), zM6), (([] : Go.Eng.Gd), Res.blk (31 : TypeId) [SC.row (3 : Nat), SC.row (4 : Nat), SC.row (5 : Nat), SC.row (6 : Nat)]), (([] : Go.Eng.Gd), Res.row (3 : TypeId) I6 vs), (([] : Go.Eng.Gd), Res.row (3 : TypeId) I6 os), (([] : Go.Eng.Gd), Res.row (28 : TypeId) I6.sl (List.replicate qs.length [])), (([] : Go.Eng.Gd), Res.row (3 : TypeId) I6 sg)]) ∧ sg.length ≤ (1000000 : Nat) ∧ ∃ v, v = (0 : Nat) ∧ (SV.c (SC.own (2 : Nat) (0 : Nat)) = SV.c (SC.own (2 : Nat) (0 : Nat)) ∧ True) ∧ [(([] : Go.Eng.Gd), bM6 vs os qs sg), (([] : Go.Eng.Gd), zM6), (([] : Go.Eng.Gd), Res.blk (31 : Nat) [SC.row (3 : Nat), SC.row (4 : Nat), SC.row (5 : Nat), SC.row (6 : Nat)]), (([] : Go.Eng.Gd), Res.row (3 : TypeId) I6 vs), (([] : Go.Eng.Gd), Res.row (3 : TypeId) I6 os), (([] : Go.Eng.Gd), Res.row (28 : TypeId) I6.sl (List.replicate (↑qs.length : Int).toNat [])), (([] : Go.Eng.Gd), Res.row (3 : TypeId) I6 sg)] = [(([] : Go.Eng.Gd), bM6 vs os qs sg), (([] : Go.Eng.Gd), zM6), (([] : Go.Eng.Gd), Res.blk (31 : TypeId) [SC.row (3 : Nat), SC.row (4 : Nat), SC.row (5 : Nat), SC.row (6 : Nat)]), (([] : Go.Eng.Gd), Res.row (3 : TypeId) I6 vs), (([] : Go.Eng.Gd), Res.row (3 : TypeId) I6 os), (([] : Go.Eng.Gd), Res.row (28 : TypeId) I6.sl (List.replicate qs.length [])), (([] : Go.Eng.Gd), Res.row (3 : TypeId) I6 sg)]) ∧ (sg.length ≤ (1000000 : Nat) ∧ (((0 : Int) ≤ (↑qs.length : Int) ∧ (↑qs.length : Int) ≤ (↑qs.length : Int) ∧ InA (↑qs.length : Int).toNat (24 : Nat)) ∧ (∃ v, v = (0 : Nat) ∧ (SV.c (SC.own (2 : Nat) (0 : Nat)) = SV.c (SC.own (2 : Nat) (0 : Nat)) ∧ True) ∧ [(([] : Go.Eng.Gd), bM6 vs os qs sg), (([] : Go.Eng.Gd), zM6), (([] : Go.Eng.Gd), Res.blk (31 : Nat) [SC.row (3 : Nat), SC.row (4 : Nat), SC.row (5 : Nat), SC.row (6 : Nat)]), (([] : Go.Eng.Gd), Res.row (3 : TypeId) I6 vs), (([] : Go.Eng.Gd), Res.row (3 : TypeId) I6 os), (([] : Go.Eng.Gd), Res.row (28 : TypeId) I6.sl (List.replicate (↑qs.length : Int).toNat [])), (([] : Go.Eng.Gd), Res.row (3 : TypeId) I6 sg)] = [(([] : Go.Eng.Gd), bM6 vs os qs sg), (([] : Go.Eng.Gd), zM6), (([] : Go.Eng.Gd), Res.blk (31 : TypeId) [SC.row (3 : Nat), SC.row (4 : Nat), SC.row (5 : Nat), SC.row (6 : Nat)]), (([] : Go.Eng.Gd), Res.row (3 : TypeId) I6 vs), (([] : Go.Eng.Gd), Res.row (3 : TypeId) I6 os), (([] : Go.Eng.Gd), Res.row (28 : TypeId) I6.sl (List.replicate qs.length [])), (([] : Go.Eng.Gd), Res.row (3 : TypeId) I6 sg)]) ∧ ∃ v, v = (0 : Nat) ∧ (SV.c (SC.own (2 : Nat) (0 : Nat)) = SV.c (SC.own (2 : Nat) (0 : Nat)) ∧ True) ∧ [(([] : Go.Eng.Gd), bM6 vs os qs sg), (([] : Go.Eng.Gd), zM6), (([] : Go.Eng.Gd), Res.blk (31 : Nat) [SC.row (3 : Nat), SC.row (4 : Nat), SC.row (5 : Nat), SC.row (6 : Nat)]), (([] : Go.Eng.Gd), Res.row (3 : TypeId) I6 vs), (([] : Go.Eng.Gd), Res.row (3 : TypeId) I6 os), (([] : Go.Eng.Gd), Res.row (28 : TypeId) I6.sl (List.replicate (↑qs.length : Int).toNat [])), (([] : Go.Eng.Gd), Res.row (3 : TypeId) I6 sg)] = [(([] : Go.Eng.Gd), bM6 vs os qs sg), (([] : Go.Eng.Gd), zM6), (([] : Go.Eng.Gd), Res.blk (31 : TypeId) [SC.row (3 : Nat), SC.row (4 : Nat), SC.row (5 : Nat), SC.row (6 : Nat)]), (([] : Go.Eng.Gd), Res.row (3 : TypeId) I6 vs), (([] : Go.Eng.Gd), Res.row (3 : TypeId) I6 os), (([] : Go.Eng.Gd), Res.row (28 : TypeId) I6.sl (List.replicate qs.length [])), (([] : Go.Eng.Gd), Res.row (3 : TypeId) I6 sg)]) ∧ ((0 : Int) ≤ (↑qs.length : Int) ∧ (↑qs.length : Int) ≤ (↑qs.length : Int) ∧ InA (↑qs.length : Int).toNat (24 : Nat)) ∧ ∃ v, v = (0 : Nat) ∧ (SV.c (SC.own (2 : Nat) (0 : Nat)) = SV.c (SC.own (2 : Nat) (0 : Nat)) ∧ True) ∧ [(([] : Go.Eng.Gd), bM6 vs os qs sg), (([] : Go.Eng.Gd), zM6), (([] : Go.Eng.Gd), Res.blk (31 : Nat) [SC.row (3 : Nat), SC.row (4 : Nat), SC.row (5 : Nat), SC.row (6 : Nat)]), (([] : Go.Eng.Gd), Res.row (3 : TypeId) I6 vs), (([] : Go.Eng.Gd), Res.row (3 : TypeId) I6 os), (([] : Go.Eng.Gd), Res.row (28 : TypeId) I6.sl (List.replicate (↑qs.length : Int).toNat [])), (([] : Go.Eng.Gd), Res.row (3 : TypeId) I6 sg)] = [(([] : Go.Eng.Gd), bM6 vs os qs sg), (([] : Go.Eng.Gd), zM6), (([] : Go.Eng.Gd), Res.blk (31 : TypeId) [SC.row (3 : Nat), SC.row (4 : Nat), SC.row (5 : Nat), SC.row (6 : Nat)]), (([] : Go.Eng.Gd), Res.row (3 : TypeId) I6 vs), (([] : Go.Eng.Gd), Res.row (3 : TypeId) I6 os), (([] : Go.Eng.Gd), Res.row (28 : TypeId) I6.sl (List.replicate qs.length [])), (([] : Go.Eng.Gd), Res.row (3 : TypeId) I6 sg)]) ∧ (((0 : Int) ≤ (↑qs.length : Int) ∧ (↑qs.length : Int) ≤ (↑qs.length : Int) ∧ InA (↑qs.length : Int).toNat (24 : Nat)) ∧ sg.length ≤ (1000000 : Nat) ∧ ∃ v, v = (0 : Nat) ∧ (SV.c (SC.own (2 : Nat) (0 : Nat)) = SV.c (SC.own (2 : Nat) (0 : Nat)) ∧ True) ∧ [(([] : Go.Eng.Gd), bM6 vs os qs sg), (([] : Go.Eng.Gd), zM6), (([] : Go.Eng.Gd), Res.blk (31 : Nat) [SC.row (3 : Nat), SC.row (4 : Nat), SC.row (5 : Nat), SC.row (6 : Nat)]), (([] : Go.Eng.Gd), Res.row (3 : TypeId) I6 vs), (([] : Go.Eng.Gd), Res.row (3 : TypeId) I6 os), (([] : Go.Eng.Gd), Res.row (28 : TypeId) I6.sl (List.replicate (↑qs.length : Int).toNat [])), (([] : Go.Eng.Gd), Res.row (3 : TypeId) I6 sg)] = [(([] : Go.Eng.Gd), bM6 vs os qs sg), (([] : Go.Eng.Gd), zM6), (([] : Go.Eng.Gd), Res.blk (31 : TypeId) [SC.row (3 : Nat), SC.row (4 : Nat), SC.row (5 : Nat), SC.row (6 : Nat)]), (([] : Go.Eng.Gd), Res.row (3 : TypeId) I6 vs), (([] : Go.Eng.Gd), Res.row (3 : TypeId) I6 os), (([] : Go.Eng.Gd), Res.row (28 : TypeId) I6.sl (List.replicate qs.length [])), (([] : Go.Eng.Gd), Res.row (3 : TypeId) I6 sg)]) ∧ sg.length ≤ (1000000 : Nat) ∧ ((0 : Int) ≤ (↑qs.length : Int) ∧ (↑qs.length : Int) ≤ (↑qs.length : Int) ∧ InA (↑qs.length : Int).toNat (24 : Nat)) ∧ ∃ v, v = (0 : Nat) ∧ (SV.c (SC.own (2 : Nat) (0 : Nat)) = SV.c (SC.own (2 : Nat) (0 : Nat)) ∧ True) ∧ [(([] : Go.Eng.Gd), bM6 vs os qs sg), (([] : Go.Eng.Gd), zM6), (([] : Go.Eng.Gd), Res.blk (31 : Nat) [SC.row (3 : Nat), SC.row (4 : Nat), SC.row (5 : Nat), SC.row (6 : Nat)]), (([] : Go.Eng.Gd), Res.row (3 : TypeId) I6 vs), (([] : Go.Eng.Gd), Res.row (3 : TypeId) I6 os), (([] : Go.Eng.Gd), Res.row (28 : TypeId) I6.sl (List.replicate (↑qs.length : Int).toNat [])), (([] : Go.Eng.Gd), Res.row (3 : TypeId) I6 sg)] = [(([] : Go.Eng.Gd), bM6 vs os qs sg), (([] : Go.Eng.Gd), zM6), (([] : Go.Eng.Gd), Res.blk (31 : TypeId) [SC.row (3 : Nat), SC.row (4 : Nat), SC.row (5 : Nat), SC.row (6 : Nat)]), (([] : Go.Eng.Gd), Res.row (3 : TypeId) I6 vs), (([] : Go.Eng.Gd), Res.row (3 : TypeId) I6 os), (([] : Go.Eng.Gd), Res.row (28 : TypeId) I6.sl (List.replicate qs.length [])), (([] : Go.Eng.Gd), Res.row (3 : TypeId) I6 sg)]) ∧ (((0 : Int) ≤ (↑qs.length : Int) ∧ (↑qs.length : Int) ≤ (↑qs.length : Int) ∧ InA (↑qs.length : Int).toNat (24 : Nat)) ∧ (os.length ≤ (1000000 : Nat) ∧ (sg.length ≤ (1000000 : Nat) ∧ (∃ v, v = (0 : Nat) ∧ (SV.c (SC.own (2 : Nat) (0 : Nat)) = SV.c (SC.own (2 : Nat) (0 : Nat)) ∧ True) ∧ [(([] : Go.Eng.Gd), bM6 vs os qs sg), (([] : Go.Eng.Gd), zM6), (([] : Go.Eng.Gd), Res.blk (31 : Nat) [SC.row (3 : Nat), SC.row (4 : Nat), SC.row (5 : Nat), SC.row (6 : Nat)]), (([] : Go.Eng.Gd), Res.row (3 : TypeId) I6 vs), (([] : Go.Eng.Gd), Res.row (3 : TypeId) I6 os), (([] : Go.Eng.Gd), Res.row (28 : TypeId) I6.sl (List.replicate (↑qs.length : Int).toNat [])), (([] : Go.Eng.Gd), Res.row (3 : TypeId) I6 sg)] = [(([] : Go.Eng.Gd), bM6 vs os qs sg), (([] : Go.Eng.Gd), zM6), (([] : Go.Eng.Gd), Res.blk (31 : TypeId) [SC.row (3 : Nat), SC.row (4 : Nat), SC.row (5 : Nat), SC.row (6 : Nat)]), (([] : Go.Eng.Gd), Res.row (3 : TypeId) I6 vs), (([] : Go.Eng.Gd), Res.row (3 : TypeId) I6 os), (([] : Go.Eng.Gd), Res.row (28 : TypeId) I6.sl (List.replicate qs.length [])), (([] : Go.Eng.Gd), Res.row (3 : TypeId) I6 sg)]) ∧ ∃ v, v = (0 : Nat) ∧ (SV.c (SC.own (2 : Nat) (0 : Nat)) = SV.c (SC.own (2 : Nat) (0 : Nat)) ∧ True) ∧ [(([] : Go.Eng.Gd), bM6 vs os qs sg), (([] : Go.Eng.Gd), zM6), (([] : Go.Eng.Gd), Res.blk (31 : Nat) [SC.row (3 : Nat), SC.row (4 : Nat), SC.row (5 : Nat), SC.row (6 : Nat)]), (([] : Go.Eng.Gd), Res.row (3 : TypeId) I6 vs), (([] : Go.Eng.Gd), Res.row (3 : TypeId) I6 os), (([] : Go.Eng.Gd), Res.row (28 : TypeId) I6.sl (List.replicate (↑qs.length : Int).toNat [])), (([] : Go.Eng.Gd), Res.row (3 : TypeId) I6 sg)] = [(([] : Go.Eng.Gd), bM6 vs os qs sg), (([] : Go.Eng.Gd), zM6), (([] : Go.Eng.Gd), Res.blk (31 : TypeId) [SC.row (3 : Nat), SC.row (4 : Nat), SC.row (5 : Nat), SC.row (6 : Nat)]), (([] : Go.Eng.Gd), Res.row (3 : TypeId) I6 vs), (([] : Go.Eng.Gd), Res.row (3 : TypeId) I6 os), (([] : Go.Eng.Gd), Res.row (28 : TypeId) I6.sl (List.replicate qs.length [])), (([] : Go.Eng.Gd), Res.row (3 : TypeId) I6 sg)]) ∧ sg.length ≤ (1000000 : Nat) ∧ ∃ v, v = (0 : Nat) ∧ (SV.c (SC.own (2 : Nat) (0 : Nat)) = SV.c (SC.own (2 : Nat) (0 : Nat)) ∧ True) ∧ [(([] : Go.Eng.Gd), bM6 vs os qs sg), (([] : Go.Eng.Gd), zM6), (([] : Go.Eng.Gd), Res.blk (31 : Nat) [SC.row (3 : Nat), SC.row (4 : Nat), SC.row (5 : Nat), SC.row (6 : Nat)]), (([] : Go.Eng.Gd), Res.row (3 : TypeId) I6 vs), (([] : Go.Eng.Gd), Res.row (3 : TypeId) I6 os), (([] : Go.Eng.Gd), Res.row (28 : TypeId) I6.sl (List.replicate (↑qs.length : Int).toNat [])), (([] : Go.Eng.Gd), Res.row (3 : TypeId) I6 sg)] = [(([] : Go.Eng.Gd), bM6 vs os qs sg), (([] : Go.Eng.Gd), zM6), (([] : Go.Eng.Gd), Res.blk (31 : TypeId) [SC.row (3 : Nat), SC.row (4 : Nat), SC.row (5 : Nat), SC.row (6 : Nat)]), (([] : Go.Eng.Gd), Res.row (3 : TypeId) I6 vs), (([] : Go.Eng.Gd), Res.row (3 : TypeId) I6 os), (([] : Go.Eng.Gd), Res.row (28 : TypeId) I6.sl (List.replicate qs.length [])), (([] : Go.Eng.Gd), Res.row (3 : TypeId) I6 sg)]) ∧ os.length ≤ (1000000 : Nat) ∧ sg.length ≤ (1000000 : Nat) ∧ ∃ v, v = (0 : Nat) ∧ (SV.c (SC.own (2 : Nat) (0 : Nat)) = SV.c (SC.own (2 : Nat) (0 : Nat)) ∧ True) ∧ [(([] : Go.Eng.Gd), bM6 vs os qs sg), (([] : Go.Eng.Gd), zM6), (([] : Go.Eng.Gd), Res.blk (31 : Nat) [SC.row (3 : Nat), SC.row (4 : Nat), SC.row (5 : Nat), SC.row (6 : Nat)]), (([] : Go.Eng.Gd), Res.row (3 : TypeId) I6 vs), (([] : Go.Eng.Gd), Res.row (3 : TypeId) I6 os), (([] : Go.Eng.Gd), Res.row (28 : TypeId) I6.sl (List.replicate (↑qs.length : Int).toNat [])), (([] : Go.Eng.Gd), Res.row (3 : TypeId) I6 sg)] = [(([] : Go.Eng.Gd), bM6 vs os qs sg), (([] : Go.Eng.Gd), zM6), (([] : Go.Eng.Gd), Res.blk (31 : TypeId) [SC.row (3 : Nat), SC.row (4 : Nat), SC.row (5 : Nat), SC.row (6 : Nat)]), (([] : Go.Eng.Gd), Res.row (3 : TypeId) I6 vs), (([] : Go.Eng.Gd), Res.row (3 : TypeId) I6 os), (([] : Go.Eng.Gd), Res.row (28 : TypeId) I6.sl (List.replicate qs.length [])), (([] : Go.Eng.Gd), Res.row (3 : TypeId) I6 sg)]) ∧ (os.length ≤ (1000000 : Nat) ∧ (((0 : Int) ≤ (↑qs.length : Int) ∧ (↑qs.length : Int) ≤ (↑qs.length : Int) ∧ InA (↑qs.length : Int).toNat (24 : Nat)) ∧ sg.length ≤ (1000000 : Nat) ∧ ∃ v, v = (0 : Nat) ∧ (SV.c (SC.own (2 : Nat) (0 : Nat)) = SV.c (SC.own (2 : Nat) (0 : Nat)) ∧ True) ∧ [(([] : Go.Eng.Gd), bM6 vs os qs sg), (([] : Go.Eng.Gd), zM6), (([] : Go.Eng.Gd), Res.blk (31 : Nat) [SC.row (3 : Nat), SC.row (4 : Nat), SC.row (5 : Nat), SC.row (6 : Nat)]), (([] : Go.Eng.Gd), Res.row (3 : TypeId) I6 vs), (([] : Go.Eng.Gd), Res.row (3 : TypeId) I6 os), (([] : Go.Eng.Gd), Res.row (28 : TypeId) I6.sl (List.replicate (↑qs.length : Int).toNat [])), (([] : Go.Eng.Gd), Res.row (3 : TypeId) I6 sg)] = [(([] : Go.Eng.Gd), bM6 vs os qs sg), (([] : Go.Eng.Gd), zM6), (([] : Go.Eng.Gd), Res.blk (31 : TypeId) [SC.row (3 : Nat), SC.row (4 : Nat), SC.row (5 : Nat), SC.row (6 : Nat)]), (([] : Go.Eng.Gd), Res.row (3 : TypeId) I6 vs), (([] : Go.Eng.Gd), Res.row (3 : TypeId) I6 os), (([] : Go.Eng.Gd), Res.row (28 : TypeId) I6.sl (List.replicate qs.length [])), (([] : Go.Eng.Gd), Res.row (3 : TypeId) I6 sg)]) ∧ sg.length ≤ (1000000 : Nat) ∧ ((0 : Int) ≤ (↑qs.length : Int) ∧ (↑qs.length : Int) ≤ (↑qs.length : Int) ∧ InA (↑qs.length : Int).toNat (24 : Nat)) ∧ ∃ v, v = (0 : Nat) ∧ (SV.c (SC.own (2 : Nat) (0 : Nat)) = SV.c (SC.own (2 : Nat) (0 : Nat)) ∧ True) ∧ [(([] : Go.Eng.Gd), bM6 vs os qs sg), (([] : Go.Eng.Gd), zM6), (([] : Go.Eng.Gd), Res.blk (31 : Nat) [SC.row (3 : Nat), SC.row (4 : Nat), SC.row (5 : Nat), SC.row (6 : Nat)]), (([] : Go.Eng.Gd), Res.row (3 : TypeId) I6 vs), (([] : Go.Eng.Gd), Res.row (3 : TypeId) I6 os), (([] : Go.Eng.Gd), Res.row (28 : TypeId) I6.sl (List.replicate (↑qs.length : Int).toNat [])), (([] : Go.Eng.Gd), Res.row (3 : TypeId) I6 sg)] = [(([] : Go.Eng.Gd), bM6 vs os qs sg), (([] : Go.Eng.Gd), zM6), (([] : Go.Eng.Gd), Res.blk (31 : TypeId) [SC.row (3 : Nat), SC.row (4 : Nat), SC.row (5 : Nat), SC.row (6 : Nat)]), (([] : Go.Eng.Gd), Res.row (3 : TypeId) I6 vs), (([] : Go.Eng.Gd), Res.row (3 : TypeId) I6 os), (([] : Go.Eng.Gd), Res.row (28 : TypeId) I6.sl (List.replicate qs.length [])), (([] : Go.Eng.Gd), Res.row (3 : TypeId) I6 sg)]) ∧ ((0 : Int) ≤ (↑qs.length : Int) ∧ (↑qs.length : Int) ≤ (↑qs.length : Int) ∧ InA (↑qs.length : Int).toNat (24 : Nat)) ∧ os.length ≤ (1000000 : Nat) ∧ sg.length ≤ (1000000 : Nat) ∧ ∃ v, v = (0 : Nat) ∧ (SV.c (SC.own (2 : Nat) (0 : Nat)) = SV.c (SC.own (2 : Nat) (0 : Nat)) ∧ True) ∧ [(([] : Go.Eng.Gd), bM6 vs os qs sg), (([] : Go.Eng.Gd), zM6), (([] : Go.Eng.Gd), Res.blk (31 : Nat) [SC.row (3 : Nat), SC.row (4 : Nat), SC.row (5 : Nat), SC.row (6 : Nat)]), (([] : Go.Eng.Gd), Res.row (3 : TypeId) I6 vs), (([] : Go.Eng.Gd), Res.row (3 : TypeId) I6 os), (([] : Go.Eng.Gd), Res.row (28 : TypeId) I6.sl (List.replicate (↑qs.length : Int).toNat [])), (([] : Go.Eng.Gd), Res.row (3 : TypeId) I6 sg)] = [(([] : Go.Eng.Gd), bM6 vs os qs sg), (([] : Go.Eng.Gd), zM6), (([] : Go.Eng.Gd), Res.blk (31 : TypeId) [SC.row (3 : Nat), SC.row (4 : Nat), SC.row (5 : Nat), SC.row (6 : Nat)]), (([] : Go.Eng.Gd), Res.row (3 : TypeId) I6 vs), (([] : Go.Eng.Gd), Res.row (3 : TypeId) I6 os), (([] : Go.Eng.Gd), Res.row (28 : TypeId) I6.sl (List.replicate qs.length [])), (([] : Go.Eng.Gd), Res.row (3 : TypeId) I6 sg)]) ∧ (((0 : Int) ≤ (↑qs.length : Int) ∧ (↑qs.length : Int) ≤ (↑qs.length : Int) ∧ InA (↑qs.length : Int).toNat (24 : Nat)) ∧ (vs.length ≤ (1000000 : Nat) ∧ (os.length ≤ (1000000 : Nat) ∧ (sg.length ≤ (1000000 : Nat) ∧ (∃ v, v = (0 : Nat) ∧ (SV.c (SC.own (2 : Nat) (0 : Nat)) = SV.c (SC.own (2 : Nat) (0 : Nat)) ∧ True) ∧ [(([] : Go.Eng.Gd), bM6 vs os qs sg), (([] : Go.Eng.Gd), zM6), (([] : Go.Eng.Gd), Res.blk (31 : Nat) [SC.row (3 : Nat), SC.row (4 : Nat), SC.row (5 : Nat), SC.row (6 : Nat)]), (([] : Go.Eng.Gd), Res.row (3 : TypeId) I6 vs), (([] : Go.Eng.Gd), Res.row (3 : TypeId) I6 os), (([] : Go.Eng.Gd), Res.row (28 : TypeId) I6.sl (List.replicate (↑qs.length : Int).toNat [])), (([] : Go.Eng.Gd), Res.row (3 : TypeId) I6 sg)] = [(([] : Go.Eng.Gd), bM6 vs os qs sg), (([] : Go.Eng.Gd), zM6), (([] : Go.Eng.Gd), Res.blk (31 : TypeId) [SC.row (3 : Nat), SC.row (4 : Nat), SC.row (5 : Nat), SC.row (6 : Nat)]), (([] : Go.Eng.Gd), Res.row (3 : TypeId) I6 vs), (([] : Go.Eng.Gd), Res.row (3 : TypeId) I6 os), (([] : Go.Eng.Gd), Res.row (28 : TypeId) I6.sl (List.replicate qs.length [])), (([] : Go.Eng.Gd), Res.row (3 : TypeId) I6 sg)]) ∧ ∃ v, v = (0 : Nat) ∧ (SV.c (SC.own (2 : Nat) (0 : Nat)) = SV.c (SC.own (2 : Nat) (0 : Nat)) ∧ True) ∧ [(([] : Go.Eng.Gd), bM6 vs os qs sg), (([] : Go.Eng.Gd), zM6), (([] : Go.Eng.Gd), Res.blk (31 : Nat) [SC.row (3 : Nat), SC.row (4 : Nat), SC.row (5 : Nat), SC.row (6 : Nat)]), (([] : Go.Eng.Gd), Res.row (3 : TypeId) I6 vs), (([] : Go.Eng.Gd), Res.row (3 : TypeId) I6 os), (([] : Go.Eng.Gd), Res.row (28 : TypeId) I6.sl (List.replicate (↑qs.length : Int).toNat [])), (([] : Go.Eng.Gd), Res.row (3 : TypeId) I6 sg)] = [(([] : Go.Eng.Gd), bM6 vs os qs sg), (([] : Go.Eng.Gd), zM6), (([] : Go.Eng.Gd), Res.blk (31 : TypeId) [SC.row (3 : Nat), SC.row (4 : Nat), SC.row (5 : Nat), SC.row (6 : Nat)]), (([] : Go.Eng.Gd), Res.row (3 : TypeId) I6 vs), (([] : Go.Eng.Gd), Res.row (3 : TypeId) I6 os), (([] : Go.Eng.Gd), Res.row (28 : TypeId) I6.sl (List.replicate qs.length [])), (([] : Go.Eng.Gd), Res.row (3 : TypeId) I6 sg)]) ∧ sg.length ≤ (1000000 : Nat) ∧ ∃ v, v = (0 : Nat) ∧ (SV.c (SC.own (2 : Nat) (0 : Nat)) = SV.c (SC.own (2 : Nat) (0 : Nat)) ∧ True) ∧ [(([] : Go.Eng.Gd), bM6 vs os qs sg), (([] : Go.Eng.Gd), zM6), (([] : Go.Eng.Gd), Res.blk (31 : Nat) [SC.row (3 : Nat), SC.row (4 : Nat), SC.row (5 : Nat), SC.row (6 : Nat)]), (([] : Go.Eng.Gd), Res.row (3 : TypeId) I6 vs), (([] : Go.Eng.Gd), Res.row (3 : TypeId) I6 os), (([] : Go.Eng.Gd), Res.row (28 : TypeId) I6.sl (List.replicate (↑qs.length : Int).toNat [])), (([] : Go.Eng.Gd), Res.row (3 : TypeId) I6 sg)] = [(([] : Go.Eng.Gd), bM6 vs os qs sg), (([] : Go.Eng.Gd), zM6), (([] : Go.Eng.Gd), Res.blk (31 : TypeId) [SC.row (3 : Nat), SC.row (4 : Nat), SC.row (5 : Nat), SC.row (6 : Nat)]), (([] : Go.Eng.Gd), Res.row (3 : TypeId) I6 vs), (([] : Go.Eng.Gd), Res.row (3 : TypeId) I6 os), (([] : Go.Eng.Gd), Res.row (28 : TypeId) I6.sl (List.replicate qs.length [])), (([] : Go.Eng.Gd), Res.row (3 : TypeId) I6 sg)]) ∧ os.length ≤ (1000000 : Nat) ∧ sg.length ≤ (1000000 : Nat) ∧ ∃ v, v = (0 : Nat) ∧ (SV.c (SC.own (2 : Nat) (0 : Nat)) = SV.c (SC.own (2 : Nat) (0 : Nat)) ∧ True) ∧ [(([] : Go.Eng.Gd), bM6 vs os qs sg), (([] : Go.Eng.Gd), zM6), (([] : Go.Eng.Gd), Res.blk (31 : Nat) [SC.row (3 : Nat), SC.row (4 : Nat), SC.row (5 : Nat), SC.row (6 : Nat)]), (([] : Go.Eng.Gd), Res.row (3 : TypeId) I6 vs), (([] : Go.Eng.Gd), Res.row (3 : TypeId) I6 os), (([] : Go.Eng.Gd), Res.row (28 : TypeId) I6.sl (List.replicate (↑qs.length : Int).toNat [])), (([] : Go.Eng.Gd), Res.row (3 : TypeId) I6 sg)] = [(([] : Go.Eng.Gd), bM6 vs os qs sg), (([] : Go.Eng.Gd), zM6), (([] : Go.Eng.Gd), Res.blk (31 : TypeId) [SC.row (3 : Nat), SC.row (4 : Nat), SC.row (5 : Nat), SC.row (6 : Nat)]), (([] : Go.Eng.Gd), Res.row (3 : TypeId) I6 vs), (([] : Go.Eng.Gd), Res.row (3 : TypeId) I6 os), (([] : Go.Eng.Gd), Res.row (28 : TypeId) I6.sl (List.replicate qs.length [])), (([] : Go.Eng.Gd), Res.row (3 : TypeId) I6 sg)]) ∧ vs.length ≤ (1000000 : Nat) ∧ os.length ≤ (1000000 : Nat) ∧ sg.length ≤ (1000000 : Nat) ∧ ∃ v, v = (0 : Nat) ∧ (SV.c (SC.own (2 : Nat) (0 : Nat)) = SV.c (SC.own (2 : Nat) (0 : Nat)) ∧ True) ∧ [(([] : Go.Eng.Gd), bM6 vs os qs sg), (([] : Go.Eng.Gd), zM6), (([] : Go.Eng.Gd), Res.blk (31 : Nat) [SC.row (3 : Nat), SC.row (4 : Nat), SC.row (5 : Nat), SC.row (6 : Nat)]), (([] : Go.Eng.Gd), Res.row (3 : TypeId) I6 vs), (([] : Go.Eng.Gd), Res.row (3 : TypeId) I6 os), (([] : Go.Eng.Gd), Res.row (28 : TypeId) I6.sl (List.replicate (↑qs.length : Int).toNat [])), (([] : Go.Eng.Gd), Res.row (3 : TypeId) I6 sg)] = [(([] : Go.Eng.Gd), bM6 vs os qs sg), (([] : Go.Eng.Gd), zM6), (([] : Go.Eng.Gd), Res.blk (31 : TypeId) [SC.row (3 : Nat), SC.row (4 : Nat), SC.row (5 : Nat), SC.row (6 : Nat)]), (([] : Go.Eng.Gd), Res.row (3 : TypeId) I6 vs), (([] : Go.Eng.Gd), Res.row (3 : TypeId) I6 os), (([] : Go.Eng.Gd), Res.row (28 : TypeId) I6.sl (List.replicate qs.length [])), (([] : Go.Eng.Gd), Res.row (3 : TypeId) I6 sg)]) ∧ (vs.length ≤ (1000000 : Nat) ∧ (os.length ≤ (1000000 : Nat) ∧ (((0 : Int) ≤ (↑qs.length : Int) ∧ (↑qs.length : Int) ≤ (↑qs.length : Int) ∧ InA (↑qs.length : Int).toNat (24 : Nat)) ∧ sg.length ≤ (1000000 : Nat) ∧ ∃ v, v = (0 : Nat) ∧ (SV.c (SC.own (2 : Nat) (0 : Nat)) = SV.c (SC.own (2 : Nat) (0 : Nat)) ∧ True) ∧ [(([] : Go.Eng.Gd), bM6 vs os qs sg), (([] : Go.Eng.Gd), zM6), (([] : Go.Eng.Gd), Res.blk (31 : Nat) [SC.row (3 : Nat), SC.row (4 : Nat), SC.row (5 : Nat), SC.row (6 : Nat)]), (([] : Go.Eng.Gd), Res.row (3 : TypeId) I6 vs), (([] : Go.Eng.Gd), Res.row (3 : TypeId) I6 os), (([] : Go.Eng.Gd), Res.row (28 : TypeId) I6.sl (List.replicate (↑qs.length : Int).toNat [])), (([] : Go.Eng.Gd), Res.row (3 : TypeId) I6 sg)] = [(([] : Go.Eng.Gd), bM6 vs os qs sg), (([] : Go.Eng.Gd), zM6), (([] : Go.Eng.Gd), Res.blk (31 : TypeId) [SC.row (3 : Nat), SC.row (4 : Nat), SC.row (5 : Nat), SC.row (6 : Nat)]), (([] : Go.Eng.Gd), Res.row (3 : TypeId) I6 vs), (([] : Go.Eng.Gd), Res.row (3 : TypeId) I6 os), (([] : Go.Eng.Gd), Res.row (28 : TypeId) I6.sl (List.replicate qs.length [])), (([] : Go.Eng.Gd), Res.row (3 : TypeId) I6 sg)]) ∧ sg.length ≤ (1000000 : Nat) ∧ ((0 : Int) ≤ (↑qs.length : Int) ∧ (↑qs.length : Int) ≤ (↑qs.length : Int) ∧ InA (↑qs.length : Int).toNat (24 : Nat)) ∧ ∃ v, v = (0 : Nat) ∧ (SV.c (SC.own (2 : Nat) (0 : Nat)) = SV.c (SC.own (2 : Nat) (0 : Nat)) ∧ True) ∧ [(([] : Go.Eng.Gd), bM6 vs os qs sg), (([] : Go.Eng.Gd), zM6), (([] : Go.Eng.Gd), Res.blk (31 : Nat) [SC.row (3 : Nat), SC.row (4 : Nat), SC.row (5 : Nat), SC.row (6 : Nat)]), (([] : Go.Eng.Gd), Res.row (3 : TypeId) I6 vs), (([] : Go.Eng.Gd), Res.row (3 : TypeId) I6 os), (([] : Go.Eng.Gd), Res.row (28 : TypeId) I6.sl (List.replicate (↑qs.length : Int).toNat [])), (([] : Go.Eng.Gd), Res.row (3 : TypeId) I6 sg)] = [(([] : Go.Eng.Gd), bM6 vs os qs sg), (([] : Go.Eng.Gd), zM6), (([] : Go.Eng.Gd), Res.blk (31 : TypeId) [SC.row (3 : Nat), SC.row (4 : Nat), SC.row (5 : Nat), SC.row (6 : Nat)]), (([] : Go.Eng.Gd), Res.row (3 : TypeId) I6 vs), (([] : Go.Eng.Gd), Res.row (3 : TypeId) I6 os), (([] : Go.Eng.Gd), Res.row (28 : TypeId) I6.sl (List.replicate qs.length [])), (([] : Go.Eng.Gd), Res.row (3 : TypeId) I6 sg)]) ∧ ((0 : Int) ≤ (↑qs.length : Int) ∧ (↑qs.length : Int) ≤ (↑qs.length : Int) ∧ InA (↑qs.length : Int).toNat (24 : Nat)) ∧ os.length ≤ (1000000 : Nat) ∧ sg.length ≤ (1000000 : Nat) ∧ ∃ v, v = (0 : Nat) ∧ (SV.c (SC.own (2 : Nat) (0 : Nat)) = SV.c (SC.own (2 : Nat) (0 : Nat)) ∧ True) ∧ [(([] : Go.Eng.Gd), bM6 vs os qs sg), (([] : Go.Eng.Gd), zM6), (([] : Go.Eng.Gd), Res.blk (31 : Nat) [SC.row (3 : Nat), SC.row (4 : Nat), SC.row (5 : Nat), SC.row (6 : Nat)]), (([] : Go.Eng.Gd), Res.row (3 : TypeId) I6 vs), (([] : Go.Eng.Gd), Res.row (3 : TypeId) I6 os), (([] : Go.Eng.Gd), Res.row (28 : TypeId) I6.sl (List.replicate (↑qs.length : Int).toNat [])), (([] : Go.Eng.Gd), Res.row (3 : TypeId) I6 sg)] = [(([] : Go.Eng.Gd), bM6 vs os qs sg), (([] : Go.Eng.Gd), zM6), (([] : Go.Eng.Gd), Res.blk (31 : TypeId) [SC.row (3 : Nat), SC.row (4 : Nat), SC.row (5 : Nat), SC.row (6 : Nat)]), (([] : Go.Eng.Gd), Res.row (3 : TypeId) I6 vs), (([] : Go.Eng.Gd), Res.row (3 : TypeId) I6 os), (([] : Go.Eng.Gd), Res.row (28 : TypeId) I6.sl (List.replicate qs.length [])), (([] : Go.Eng.Gd), Res.row (3 : TypeId) I6 sg)]) ∧ ((0 : Int) ≤ (↑qs.length : Int) ∧ (↑qs.length : Int) ≤ (↑qs.length : Int) ∧ InA (↑qs.length : Int).toNat (24 : Nat)) ∧ vs.length ≤ (1000000 : Nat) ∧ os.length ≤ (1000000 : Nat) ∧ sg.length ≤ (1000000 : Nat) ∧ ∃ v, v = (0 : Nat) ∧ (SV.c (SC.own (2 : Nat) (0 : Nat)) = SV.c (SC.own (2 : Nat) (0 : Nat)) ∧ True) ∧ [(([] : Go.Eng.Gd), bM6 vs os qs sg), (([] : Go.Eng.Gd), zM6), (([] : Go.Eng.Gd), Res.blk (31 : Nat) [SC.row (3 : Nat), SC.row (4 : Nat), SC.row (5 : Nat), SC.row (6 : Nat)]), (([] : Go.Eng.Gd), Res.row (3 : TypeId) I6 vs), (([] : Go.Eng.Gd), Res.row (3 : TypeId) I6 os), (([] : Go.Eng.Gd), Res.row (28 : TypeId) I6.sl (List.replicate (↑qs.length : Int).toNat [])), (([] : Go.Eng.Gd), Res.row (3 : TypeId) I6 sg)] = [(([] : Go.Eng.Gd), bM6 vs os qs sg), (([] : Go.Eng.Gd), zM6), (([] : Go.Eng.Gd), Res.blk (31 : TypeId) [SC.row (3 : Nat), SC.row (4 : Nat), SC.row (5 : Nat), SC.row (6 : Nat)]), (([] : Go.Eng.Gd), Res.row (3 : TypeId) I6 vs), (([] : Go.Eng.Gd), Res.row (3 : TypeId) I6 os), (([] : Go.Eng.Gd), Res.row (28 : TypeId) I6.sl (List.replicate qs.length [])), (([] : Go.Eng.Gd), Res.row (3 : TypeId) I6 sg)]) ∧ ∀ (v : Nat), v = (0 : Nat) → (∃ x, x ≤ qs.length ∧ (SV.c (SC.v (Value.int IntKind.i64 (0 : Int))) = SV.c (SC.v (Value.int IntKind.i64 (↑x : Int))) ∧ True) ∧ [(([] : Go.Eng.Gd), bM6 vs os qs sg), (([] : Go.Eng.Gd), zM6), (([] : Go.Eng.Gd), Res.blk (31 : TypeId) [SC.row (3 : Nat), SC.row (4 : Nat), SC.row (5 : Nat), SC.row (6 : Nat)]), (([] : Go.Eng.Gd), Res.row (3 : TypeId) I6 vs), (([] : Go.Eng.Gd), Res.row (3 : TypeId) I6 os), (([] : Go.Eng.Gd), Res.row (28 : TypeId) I6.sl (List.replicate qs.length [])), (([] : Go.Eng.Gd), Res.row (3 : TypeId) I6 sg)] = [(([] : Go.Eng.Gd), bM6 vs os qs sg), (([] : Go.Eng.Gd), zM6), (([] : Go.Eng.Gd), Res.blk (31 : TypeId) [SC.row (3 : Nat), SC.row (4 : Nat), SC.row (5 : Nat), SC.row (6 : Nat)]), (([] : Go.Eng.Gd), Res.row (3 : TypeId) I6 vs), (([] : Go.Eng.Gd), Res.row (3 : TypeId) I6 os), (([] : Go.Eng.Gd), Res.row (28 : TypeId) I6.sl (List.take x qs ++ List.replicate (qs.length - x) [])), (([] : Go.Eng.Gd), Res.row (3 : TypeId) I6 sg)]) ∧ ∀ (x : Nat), x ≤ qs.length → br (decide ((↑x : Int) < (↑qs.length : Int))) (((0 : Int) ≤ (↑x : Int) ∧ (↑x : Int) < (↑qs.length : Int)) ∧ ∀ (d : List I6.den), qs[(↑x : Int).toNat]? = some d → d.length ≤ (1000000 : Nat) ∧ ((0 : Int) ≤ (↑x : Int) ∧ (↑x : Int) < (↑(List.take x qs ++ List.replicate (qs.length - x) []).length : Int)) ∧ (↑x : Int).toNat < (List.take x qs ++ List.replicate (qs.length - x) []).length ∧ InR IntKind.i64 ((↑x : Int) + (1 : Int)) ∧ ∃ x', x' ≤ qs.length ∧ (SV.c (SC.v (Value.int IntKind.i64 ((↑x : Int) + (1 : Int)))) = SV.c (SC.v (Value.int IntKind.i64 (↑x' : Int))) ∧ True) ∧ [(([] : Go.Eng.Gd), bM6 vs os qs sg), (([] : Go.Eng.Gd), zM6), (([] : Go.Eng.Gd), Res.blk (31 : TypeId) [SC.row (3 : Nat), SC.row (4 : Nat), SC.row (5 : Nat), SC.row (6 : Nat)]), (([] : Go.Eng.Gd), Res.row (3 : TypeId) I6 vs), (([] : Go.Eng.Gd), Res.row (3 : TypeId) I6 os), (([] : Go.Eng.Gd), Res.row (28 : TypeId) I6.sl ((List.take x qs ++ List.replicate (qs.length - x) []).set (↑x : Int).toNat (d))), (([] : Go.Eng.Gd), Res.row (3 : TypeId) I6 sg)] = [(([] : Go.Eng.Gd), bM6 vs os qs sg), (([] : Go.Eng.Gd), zM6), (([] : Go.Eng.Gd), Res.blk (31 : TypeId) [SC.row (3 : Nat), SC.row (4 : Nat), SC.row (5 : Nat), SC.row (6 : Nat)]), (([] : Go.Eng.Gd), Res.row (3 : TypeId) I6 vs), (([] : Go.Eng.Gd), Res.row (3 : TypeId) I6 os), (([] : Go.Eng.Gd), Res.row (28 : TypeId) I6.sl (List.take x' qs ++ List.replicate (qs.length - x') [])), (([] : Go.Eng.Gd), Res.row (3 : TypeId) I6 sg)] ∧ qs.length - x' < qs.length - x) ([Res.row (3 : TypeId) I6 vs, Res.row (3 : TypeId) I6 os, Res.row (28 : TypeId) I6.sl qs, Res.row (3 : TypeId) I6 sg] = [Res.row (3 : TypeId) I6 vs, Res.row (3 : TypeId) I6 os, Res.row (28 : TypeId) I6.sl (List.take x qs ++ List.replicate (qs.length - x) []), Res.row (3 : TypeId) I6 sg] ∧ Ent.one (SV.agg [SC.row (0 : Nat), SC.row (1 : Nat), SC.row (2 : Nat), SC.row (3 : Nat)]) = Ent.one (SV.agg [SC.row (0 : Nat), SC.row (Nat.succ (0 : Nat)), SC.row (Nat.succ (0 : Nat)).succ, SC.row (Nat.succ (0 : Nat)).succ.succ])) := by
  obtain ⟨b1, b2, b3, b4, b5, b6⟩ : vs.length ≤ 1000 ∧ os.length ≤ 1000 ∧ qs.length ≤ 1000 ∧ sg.length ≤ 1000 ∧ (∀ q ∈ qs, q.length ≤ 1000) ∧ qs.flatten.length ≤ 100000 := hpre
  refine ⟨?_, fun u hu => ⟨⟨0, by omega, ⟨rfl, trivial⟩, ?_⟩, fun k hk => br_iff.2 ⟨fun g => ?_, fun g => ?_⟩⟩⟩
  · have hA : InA (↑qs.length : Int).toNat 24 := InA_iff.2 (by omega)
    repeat' first | exact ⟨0, rfl, ⟨rfl, trivial⟩, rfl⟩ | (refine And.intro ?_ ?_) | omega | exact hA
  · simp
  · simp only [decide_eq_true_eq] at g
    refine ⟨⟨by omega, by omega⟩, fun d hd => ⟨?_, ⟨by omega, ?_⟩, ?_, ⟨InR_i64.2 (by omega), k + 1, by omega, ⟨rfl, trivial⟩, ?_, by omega⟩⟩⟩
    · have := b5 d (List.mem_of_getElem? hd); omega
    · rw [fill_len hk]; omega
    · rw [fill_len hk]; show k < _; omega
    · have hd : qs[k]? = some d := hd
      have e1 : (qs.take k ++ List.replicate (qs.length - k) []).set (↑k : Int).toNat d = qs.take (k + 1) ++ List.replicate (qs.length - (k + 1)) [] := fill_set hd
      exact congrArg (fun z => _ :: _ :: _ :: _ :: _ :: (([] : Go.Eng.Gd), Res.row 28 I6.sl z) :: _) e1
  simp only [decide_eq_false_iff_not] at g
  have ek : k = qs.length := by omega
  subst ek
  exact ⟨by rw [fill_all (by omega) hk], rfl⟩
set_option maxHeartbeats 2000000 in
set_option maxRecDepth 100000 in
theorem f36d_met : Go.Eng.Met Tryd.prog cx0.gd 36 ctClD :=
  (met_all (cx := cx0) (n := 36) (cl := cl36d) (il := il36d) (hl := hl36d) (ml := ml36d) (rc := []) (lits := []) (suf := []) (by kernel_rfl) tis_ok ⟨f60_met, trivial⟩ trivial trivial trivial Tryd.func36 (by kernel_rfl) (by kernel_rfl) rfl (by kernel_rfl) (by kernel_rfl) (by simp) fun d hd => by
    obtain ⟨⟨vs, os, qs, sg, ⟨⟩⟩, ⟨⟩⟩ := d
    exact ⟨ann36d vs os qs sg, cast (by kernel_rfl) (f36d_vc vs os qs sg hd)⟩).met
end Go.Proofs.YtkgjfkdcnoockaaDoor
set_option linter.unusedSimpArgs false
set_option linter.unusedVariables false
set_option maxRecDepth 100000
namespace Go.Proofs.YtkgjfkdcnoockaaDoor
open Go Go.Eng

def zM : MD := ([], [], [], [], ())
noncomputable def insM (m : MD) (i n : Int) : Int := if formM m = false then 1 else if i < 0 ∨ n ≤ i then 11 else 0
noncomputable def readM (m : MD) (x : Int) : Int × Int := if insM m x m.1.length = 0 then (m.1[x.toNat]?.getD 0, 0) else (0, insM m x m.1.length)
noncomputable def writeM (m : MD) (x v : Int) : MD × Int := if insM m x m.1.length = 0 then (if valS v = true then ((m.1.set x.toNat v, m.2), 0) else (zM, 2)) else (zM, insM m x m.1.length)
noncomputable def ownM (m : MD) (i id frm to : Int) : MD × Int := if insM m i m.2.1.length = 0 then (if id < 0 then (zM, 2) else if m.2.1[i.toNat]?.getD 0 = frm then ((m.1, m.2.1.set i.toNat to, m.2.2), 0) else (zM, 30)) else (zM, insM m i m.2.1.length)
noncomputable def freeM (m : MD) (i : Int) : Bool := decide (insM m i m.2.1.length = 0) && decide (m.2.1[i.toNat]?.getD 0 = -1)
noncomputable def waitsM (m : MD) (id : Int) : Bool := m.2.2.1.any (fun q => hasI q id) || hasI m.2.2.2.1 id
theorem insM_zero {m : MD} {i n : Int} : insM m i n = 0 ↔ formM m = true ∧ 0 ≤ i ∧ i < n := by
  unfold insM
  by_cases h : formM m = true
  · rw [if_neg (by simp [h])]
    split
    · simp [h]; omega
    · simp [h]; omega
  · rw [Bool.not_eq_true] at h
    rw [if_pos h, h]; simp
@[reducible] noncomputable def ctIns : CT := { ps := [shM, .int .i64, .int .i64], pre := fun d => bndM d.1, res := fun d => ([], .one (.c (.v (.int .i64 (insM d.1 d.2.1 d.2.2.1))))) }
@[reducible] noncomputable def cl50 : List (Nat × CT) := [(48, ctFm)]
@[reducible] def ann50 (vs : List Int) (os : List Int) (qs : List (List Int)) (sg : List Int) (i : Int) (n : Int) : Nat → Option (St → Ann) := fun _ => none
@[reducible] def il50 : List (Nat × IP) := []
@[reducible] def hl50 : List (Nat × Nat × CT) := []
@[reducible] noncomputable def ml50 : List (Nat × MK) := []
set_option maxRecDepth 100000 in
theorem f50_vc (vs : List Int) (os : List Int) (qs : List (List Int)) (sg : List Int) (i : Int) (n : Int) (hpre : ctIns.pre ((vs, os, qs, sg, ()), i, n, ())) :
    bndM (vs, os, qs, sg, ()) ∧ br (!formM (vs, os, qs, sg, ())) (([] : List Go.Eng.Res) = [] ∧ Ent.one (SV.c (SC.v (Value.int IntKind.i64 (insM (vs, os, qs, sg, ()) i n)))) = Ent.one (SV.c (SC.v (Value.int IntKind.i64 (1 : Int))))) (br (decide (i < (0 : Int)) || decide (n ≤ i)) (([] : List Go.Eng.Res) = [] ∧ Ent.one (SV.c (SC.v (Value.int IntKind.i64 (insM (vs, os, qs, sg, ()) i n)))) = Ent.one (SV.c (SC.v (Value.int IntKind.i64 (11 : Int))))) (([] : List Go.Eng.Res) = [] ∧ Ent.one (SV.c (SC.v (Value.int IntKind.i64 (insM (vs, os, qs, sg, ()) i n)))) = Ent.one (SV.c (SC.v (Value.int IntKind.i64 (0 : Int)))))) := by
  unfold insM
  refine ⟨hpre, br_iff.2 ⟨fun h => ⟨rfl, ?_⟩, fun h => br_iff.2 ⟨fun g => ⟨rfl, ?_⟩, fun g => ⟨rfl, ?_⟩⟩⟩⟩
  · rw [if_pos (by simpa using h)]
  · rw [if_neg (by simpa using h), if_pos (by simpa using g)]
  · rw [if_neg (by simpa using h), if_neg (by simpa using g)]
set_option maxHeartbeats 2000000 in
set_option maxRecDepth 100000 in
theorem f50_met : Go.Eng.Met Tryd.prog cx0.gd 50 ctIns :=
  (met_all (cx := cx0) (n := 17) (cl := cl50) (il := il50) (hl := hl50) (ml := ml50) (rc := []) (lits := []) (suf := []) (by kernel_rfl) tis_ok ⟨f48_met, trivial⟩ trivial trivial trivial Tryd.func50 (by kernel_rfl) (by kernel_rfl) rfl (by kernel_rfl) (by kernel_rfl) (by simp) fun d hd => by
    obtain ⟨⟨vs, os, qs, sg, ⟨⟩⟩, i, n, ⟨⟩⟩ := d
    exact ex_of (ann50 vs os qs sg i n) (f50_vc vs os qs sg i n hd) (by kernel_rfl)).met
@[reducible] noncomputable def ctRd : CT := { ps := [shM, .int .i64], pre := fun d => bndM d.1, res := fun d => ([], .tup [.c (.v (.int .i64 ((readM d.1 d.2.1).1))), .c (.v (.int .i64 ((readM d.1 d.2.1).2)))]) }
@[reducible] noncomputable def cl26 : List (Nat × CT) := [(50, ctIns)]
@[reducible] def ann26 (vs : List Int) (os : List Int) (qs : List (List Int)) (sg : List Int) (x : Int) : Nat → Option (St → Ann) := fun _ => none
@[reducible] def il26 : List (Nat × IP) := []
@[reducible] def hl26 : List (Nat × Nat × CT) := []
@[reducible] noncomputable def ml26 : List (Nat × MK) := []
set_option maxRecDepth 100000 in
theorem f26_vc (vs : List Int) (os : List Int) (qs : List (List Int)) (sg : List Int) (x : Int) (hpre : ctRd.pre ((vs, os, qs, sg, ()), x, ())) :
    bndM (vs, os, qs, sg, ()) ∧ br (!decide (insM (vs, os, qs, sg, ()) x (↑vs.length : Int) = (0 : Int))) (([] : List Go.Eng.Res) = [] ∧ Ent.tup [SV.c (SC.v (Value.int IntKind.i64 (readM (vs, os, qs, sg, ()) x).fst)), SV.c (SC.v (Value.int IntKind.i64 (readM (vs, os, qs, sg, ()) x).snd))] = Ent.tup [SV.c (SC.v (Value.int IntKind.i64 (0 : Int))), SV.c (SC.v (Value.int IntKind.i64 (insM (vs, os, qs, sg, ()) x (↑vs.length : Int))))]) (((0 : Int) ≤ x ∧ x < (↑vs.length : Int)) ∧ ∀ (d : Int), vs[x.toNat]? = some d → ([] : List Go.Eng.Res) = [] ∧ Ent.tup [SV.c (SC.v (Value.int IntKind.i64 (readM (vs, os, qs, sg, ()) x).fst)), SV.c (SC.v (Value.int IntKind.i64 (readM (vs, os, qs, sg, ()) x).snd))] = Ent.tup [SV.c (SC.v (Value.int IntKind.i64 d)), SV.c (SC.v (Value.int IntKind.i64 (0 : Int)))]) := by
  unfold readM
  refine ⟨hpre, br_iff.2 ⟨fun h => ⟨rfl, ?_⟩, fun h => ?_⟩⟩
  · rw [if_neg (by simpa using h)]
  · have h : insM (vs, os, qs, sg, ()) x vs.length = 0 := by simpa using h
    have hx := insM_zero.1 h
    refine ⟨hx.2, fun d hd => ⟨rfl, ?_⟩⟩
    rw [if_pos h]
    simp [hd]
set_option maxHeartbeats 2000000 in
set_option maxRecDepth 100000 in
theorem f26_met : Go.Eng.Met Tryd.prog cx0.gd 26 ctRd :=
  (met_all (cx := cx0) (n := 21) (cl := cl26) (il := il26) (hl := hl26) (ml := ml26) (rc := []) (lits := []) (suf := []) (by kernel_rfl) tis_ok ⟨f50_met, trivial⟩ trivial trivial trivial Tryd.func26 (by kernel_rfl) (by kernel_rfl) rfl (by kernel_rfl) (by kernel_rfl) (by simp) fun d hd => by
    obtain ⟨⟨vs, os, qs, sg, ⟨⟩⟩, x, ⟨⟩⟩ := d
    exact ex_of (ann26 vs os qs sg x) (f26_vc vs os qs sg x hd) (by kernel_rfl)).met
@[reducible] noncomputable def ctWr : CT := { ps := [shM, .int .i64, .int .i64], pre := fun d => bndM d.1, res := fun d => ([], .tup [.agg [.sl (.int .i64) ((writeM d.1 d.2.1 d.2.2.1).1).1, .sl (.int .i64) ((writeM d.1 d.2.1 d.2.2.1).1).2.1, .sl (.sl (.int .i64)) ((writeM d.1 d.2.1 d.2.2.1).1).2.2.1, .sl (.int .i64) ((writeM d.1 d.2.1 d.2.2.1).1).2.2.2.1], .c (.v (.int .i64 ((writeM d.1 d.2.1 d.2.2.1).2)))]) }
@[reducible] noncomputable def cl28 : List (Nat × CT) := [(50, ctIns), (36, ctClD)]
@[reducible] def ann28 (vs : List Int) (os : List Int) (qs : List (List Int)) (sg : List Int) (x : Int) (v : Int) : Nat → Option (St → Ann) := fun _ => none
@[reducible] def il28 : List (Nat × IP) := []
@[reducible] def hl28 : List (Nat × Nat × CT) := []
@[reducible] noncomputable def ml28 : List (Nat × MK) := []
set_option maxRecDepth 100000 in
theorem f28_vc (vs : List Int) (os : List Int) (qs : List (List Int)) (sg : List Int) (x : Int) (v : Int) (hpre : ctWr.pre ((vs, os, qs, sg, ()), x, v, ())) :
    bndM (vs, os, qs, sg, ()) ∧ br (!decide (insM (vs, os, qs, sg, ()) x (↑vs.length : Int) = (0 : Int))) (([] : List Go.Eng.Res) = [] ∧ Ent.tup [SV.agg [SC.sl I6 (writeM (vs, os, qs, sg, ()) x v).fst.fst, SC.sl I6 (writeM (vs, os, qs, sg, ()) x v).fst.snd.fst, SC.sl I6.sl (writeM (vs, os, qs, sg, ()) x v).fst.snd.snd.fst, SC.sl I6 (writeM (vs, os, qs, sg, ()) x v).fst.snd.snd.snd.fst], SV.c (SC.v (Value.int IntKind.i64 (writeM (vs, os, qs, sg, ()) x v).snd))] = Ent.tup [SV.agg [SC.sl I6 [], SC.sl I6 [], SC.sl I6.sl [], SC.sl I6 []], SV.c (SC.v (Value.int IntKind.i64 (insM (vs, os, qs, sg, ()) x (↑vs.length : Int))))]) (br (decide (v < (-2147483648 : Int)) || decide ((2147483647 : Int) < v)) (([] : List Go.Eng.Res) = [] ∧ Ent.tup [SV.agg [SC.sl I6 (writeM (vs, os, qs, sg, ()) x v).fst.fst, SC.sl I6 (writeM (vs, os, qs, sg, ()) x v).fst.snd.fst, SC.sl I6.sl (writeM (vs, os, qs, sg, ()) x v).fst.snd.snd.fst, SC.sl I6 (writeM (vs, os, qs, sg, ()) x v).fst.snd.snd.snd.fst], SV.c (SC.v (Value.int IntKind.i64 (writeM (vs, os, qs, sg, ()) x v).snd))] = Ent.tup [SV.agg [SC.sl I6 [], SC.sl I6 [], SC.sl I6.sl [], SC.sl I6 []], SV.c (SC.v (Value.int IntKind.i64 (2 : Int)))]) (bndM (vs, os, qs, sg, ()) ∧ ((0 : Int) ≤ x ∧ x < (↑vs.length : Int)) ∧ x.toNat < vs.length ∧ ([] : List Go.Eng.Res) = [] ∧ Ent.tup [SV.agg [SC.sl I6 (writeM (vs, os, qs, sg, ()) x v).fst.fst, SC.sl I6 (writeM (vs, os, qs, sg, ()) x v).fst.snd.fst, SC.sl I6.sl (writeM (vs, os, qs, sg, ()) x v).fst.snd.snd.fst, SC.sl I6 (writeM (vs, os, qs, sg, ()) x v).fst.snd.snd.snd.fst], SV.c (SC.v (Value.int IntKind.i64 (writeM (vs, os, qs, sg, ()) x v).snd))] = Ent.tup [SV.agg [SC.sl I6 (vs.set x.toNat v), SC.sl I6 os, SC.sl I6.sl qs, SC.sl I6 sg], SV.c (SC.v (Value.int IntKind.i64 (0 : Int)))])) := by
  unfold writeM
  refine ⟨hpre, br_iff.2 ⟨fun h => ⟨rfl, ?_⟩, fun h => ?_⟩⟩
  · rw [if_neg (by simpa using h)]; rfl
  · have h : insM (vs, os, qs, sg, ()) x vs.length = 0 := by simpa using h
    have hx := insM_zero.1 h
    rw [if_pos h]
    refine br_iff.2 ⟨fun g => ⟨rfl, ?_⟩, fun g => ⟨hpre, hx.2, by omega, rfl, ?_⟩⟩
    · rw [if_neg (by rw [valS_iff]; simp at g; omega)]; rfl
    · rw [if_pos (by rw [valS_iff]; simp at g; omega)]
set_option maxHeartbeats 2000000 in
set_option maxRecDepth 100000 in
theorem f28_met : Go.Eng.Met Tryd.prog cx0.gd 28 ctWr :=
  (met_all (cx := cx0) (n := 35) (cl := cl28) (il := il28) (hl := hl28) (ml := ml28) (rc := [.data shM, .keep]) (lits := []) (suf := []) (by kernel_rfl) tis_ok ⟨f50_met, f36d_met, trivial⟩ trivial trivial trivial Tryd.func28 (by kernel_rfl) (by kernel_rfl) rfl (by kernel_rfl) (by kernel_rfl) (by simp) fun d hd => by
    obtain ⟨⟨vs, os, qs, sg, ⟨⟩⟩, x, v, ⟨⟩⟩ := d
    exact ex_of (ann28 vs os qs sg x v) (f28_vc vs os qs sg x v hd) (by kernel_rfl)).met
@[reducible] noncomputable def ctFr : CT := { ps := [shM, .int .i64], pre := fun d => bndM d.1, res := fun d => ([], vB (freeM d.1 d.2.1)) }
@[reducible] noncomputable def cl34 : List (Nat × CT) := [(50, ctIns)]
@[reducible] def ann34 (vs : List Int) (os : List Int) (qs : List (List Int)) (sg : List Int) (i : Int) : Nat → Option (St → Ann) := fun _ => none
@[reducible] def il34 : List (Nat × IP) := []
@[reducible] def hl34 : List (Nat × Nat × CT) := []
@[reducible] noncomputable def ml34 : List (Nat × MK) := []
set_option maxRecDepth 100000 in
theorem f34_vc (vs : List Int) (os : List Int) (qs : List (List Int)) (sg : List Int) (i : Int) (hpre : ctFr.pre ((vs, os, qs, sg, ()), i, ())) :
    bndM (vs, os, qs, sg, ()) ∧ (decide (insM (vs, os, qs, sg, ()) i (↑os.length : Int) = (0 : Int)) = true → (0 : Int) ≤ i ∧ i < (↑os.length : Int)) ∧ ∀ (d : Int), (decide (insM (vs, os, qs, sg, ()) i (↑os.length : Int) = (0 : Int)) = true → os[i.toNat]? = some d) → ([] : List Go.Eng.Res) = [] ∧ Ent.one (SV.c (SC.v (Value.bool (freeM (vs, os, qs, sg, ()) i)))) = Ent.one (SV.c (SC.v (Value.bool (decide (insM (vs, os, qs, sg, ()) i (↑os.length : Int) = (0 : Int)) && decide (d = (-1 : Int)))))) := by
  unfold freeM
  refine ⟨hpre, fun h => (insM_zero.1 (by simpa using h)).2, fun d hd => ⟨rfl, ?_⟩⟩
  by_cases h : insM (vs, os, qs, sg, ()) i os.length = 0
  · have := hd (by simpa using h)
    simp [this]
  · simp [h]
set_option maxHeartbeats 2000000 in
set_option maxRecDepth 100000 in
theorem f34_met : Go.Eng.Met Tryd.prog cx0.gd 34 ctFr :=
  (met_all (cx := cx0) (n := 20) (cl := cl34) (il := il34) (hl := hl34) (ml := ml34) (rc := []) (lits := []) (suf := []) (by kernel_rfl) tis_ok ⟨f50_met, trivial⟩ trivial trivial trivial Tryd.func34 (by kernel_rfl) (by kernel_rfl) rfl (by kernel_rfl) (by kernel_rfl) (by simp) fun d hd => by
    obtain ⟨⟨vs, os, qs, sg, ⟨⟩⟩, i, ⟨⟩⟩ := d
    exact ex_of (ann34 vs os qs sg i) (f34_vc vs os qs sg i hd) (by kernel_rfl)).met
@[reducible] noncomputable def ctOwn : CT := { ps := [shM, .int .i64, .int .i64, .int .i64, .int .i64], pre := fun d => bndM d.1, res := fun d => ([], .tup [.agg [.sl (.int .i64) ((ownM d.1 d.2.1 d.2.2.1 d.2.2.2.1 d.2.2.2.2.1).1).1, .sl (.int .i64) ((ownM d.1 d.2.1 d.2.2.1 d.2.2.2.1 d.2.2.2.2.1).1).2.1, .sl (.sl (.int .i64)) ((ownM d.1 d.2.1 d.2.2.1 d.2.2.2.1 d.2.2.2.2.1).1).2.2.1, .sl (.int .i64) ((ownM d.1 d.2.1 d.2.2.1 d.2.2.2.1 d.2.2.2.2.1).1).2.2.2.1], .c (.v (.int .i64 ((ownM d.1 d.2.1 d.2.2.1 d.2.2.2.1 d.2.2.2.2.1).2)))]) }
@[reducible] noncomputable def cl58 : List (Nat × CT) := [(50, ctIns), (36, ctClD)]
@[reducible] def ann58 (vs : List Int) (os : List Int) (qs : List (List Int)) (sg : List Int) (i : Int) (id : Int) (frm : Int) (to : Int) : Nat → Option (St → Ann) := fun _ => none
@[reducible] def il58 : List (Nat × IP) := []
@[reducible] def hl58 : List (Nat × Nat × CT) := []
@[reducible] noncomputable def ml58 : List (Nat × MK) := []
set_option maxRecDepth 100000 in
theorem f58_vc (vs : List Int) (os : List Int) (qs : List (List Int)) (sg : List Int) (i : Int) (id : Int) (frm : Int) (to : Int) (hpre : ctOwn.pre ((vs, os, qs, sg, ()), i, id, frm, to, ())) :
    bndM (vs, os, qs, sg, ()) ∧ br (!decide (insM (vs, os, qs, sg, ()) i (↑os.length : Int) = (0 : Int))) (([] : List Go.Eng.Res) = [] ∧ Ent.tup [SV.agg [SC.sl I6 (ownM (vs, os, qs, sg, ()) i id frm to).fst.fst, SC.sl I6 (ownM (vs, os, qs, sg, ()) i id frm to).fst.snd.fst, SC.sl I6.sl (ownM (vs, os, qs, sg, ()) i id frm to).fst.snd.snd.fst, SC.sl I6 (ownM (vs, os, qs, sg, ()) i id frm to).fst.snd.snd.snd.fst], SV.c (SC.v (Value.int IntKind.i64 (ownM (vs, os, qs, sg, ()) i id frm to).snd))] = Ent.tup [SV.agg [SC.sl I6 [], SC.sl I6 [], SC.sl I6.sl [], SC.sl I6 []], SV.c (SC.v (Value.int IntKind.i64 (insM (vs, os, qs, sg, ()) i (↑os.length : Int))))]) (br (decide (id < (0 : Int))) (([] : List Go.Eng.Res) = [] ∧ Ent.tup [SV.agg [SC.sl I6 (ownM (vs, os, qs, sg, ()) i id frm to).fst.fst, SC.sl I6 (ownM (vs, os, qs, sg, ()) i id frm to).fst.snd.fst, SC.sl I6.sl (ownM (vs, os, qs, sg, ()) i id frm to).fst.snd.snd.fst, SC.sl I6 (ownM (vs, os, qs, sg, ()) i id frm to).fst.snd.snd.snd.fst], SV.c (SC.v (Value.int IntKind.i64 (ownM (vs, os, qs, sg, ()) i id frm to).snd))] = Ent.tup [SV.agg [SC.sl I6 [], SC.sl I6 [], SC.sl I6.sl [], SC.sl I6 []], SV.c (SC.v (Value.int IntKind.i64 (2 : Int)))]) (((0 : Int) ≤ i ∧ i < (↑os.length : Int)) ∧ ∀ (d : Int), os[i.toNat]? = some d → br (!decide (d = frm)) (([] : List Go.Eng.Res) = [] ∧ Ent.tup [SV.agg [SC.sl I6 (ownM (vs, os, qs, sg, ()) i id frm to).fst.fst, SC.sl I6 (ownM (vs, os, qs, sg, ()) i id frm to).fst.snd.fst, SC.sl I6.sl (ownM (vs, os, qs, sg, ()) i id frm to).fst.snd.snd.fst, SC.sl I6 (ownM (vs, os, qs, sg, ()) i id frm to).fst.snd.snd.snd.fst], SV.c (SC.v (Value.int IntKind.i64 (ownM (vs, os, qs, sg, ()) i id frm to).snd))] = Ent.tup [SV.agg [SC.sl I6 [], SC.sl I6 [], SC.sl I6.sl [], SC.sl I6 []], SV.c (SC.v (Value.int IntKind.i64 (30 : Int)))]) (bndM (vs, os, qs, sg, ()) ∧ ((0 : Int) ≤ i ∧ i < (↑os.length : Int)) ∧ i.toNat < os.length ∧ ([] : List Go.Eng.Res) = [] ∧ Ent.tup [SV.agg [SC.sl I6 (ownM (vs, os, qs, sg, ()) i id frm to).fst.fst, SC.sl I6 (ownM (vs, os, qs, sg, ()) i id frm to).fst.snd.fst, SC.sl I6.sl (ownM (vs, os, qs, sg, ()) i id frm to).fst.snd.snd.fst, SC.sl I6 (ownM (vs, os, qs, sg, ()) i id frm to).fst.snd.snd.snd.fst], SV.c (SC.v (Value.int IntKind.i64 (ownM (vs, os, qs, sg, ()) i id frm to).snd))] = Ent.tup [SV.agg [SC.sl I6 vs, SC.sl I6 (os.set i.toNat to), SC.sl I6.sl qs, SC.sl I6 sg], SV.c (SC.v (Value.int IntKind.i64 (0 : Int)))]))) := by
  unfold ownM
  refine ⟨hpre, br_iff.2 ⟨fun h => ⟨rfl, ?_⟩, fun h => ?_⟩⟩
  · rw [if_neg (by simpa using h)]; rfl
  · have h : insM (vs, os, qs, sg, ()) i os.length = 0 := by simpa using h
    have hx := insM_zero.1 h
    rw [if_pos h]
    refine br_iff.2 ⟨fun g => ⟨rfl, ?_⟩, fun g => ⟨hx.2, fun d hd => ?_⟩⟩
    · rw [if_pos (by simpa using g)]; rfl
    · rw [if_neg (by simpa using g)]
      have e : (vs, os, qs, sg, ()).2.1[i.toNat]?.getD 0 = d := by simp [hd]
      rw [e]
      refine br_iff.2 ⟨fun g2 => ⟨rfl, ?_⟩, fun g2 => ⟨hpre, hx.2, by omega, rfl, ?_⟩⟩
      · rw [if_neg (by simpa using g2)]; rfl
      · rw [if_pos (by simpa using g2)]
set_option maxHeartbeats 2000000 in
set_option maxRecDepth 100000 in
theorem f58_met : Go.Eng.Met Tryd.prog cx0.gd 58 ctOwn :=
  (met_all (cx := cx0) (n := 43) (cl := cl58) (il := il58) (hl := hl58) (ml := ml58) (rc := [.data shM, .keep]) (lits := []) (suf := []) (by kernel_rfl) tis_ok ⟨f50_met, f36d_met, trivial⟩ trivial trivial trivial Tryd.func58 (by kernel_rfl) (by kernel_rfl) rfl (by kernel_rfl) (by kernel_rfl) (by simp) fun d hd => by
    obtain ⟨⟨vs, os, qs, sg, ⟨⟩⟩, i, id, frm, to, ⟨⟩⟩ := d
    exact ex_of (ann58 vs os qs sg i id frm to) (f58_vc vs os qs sg i id frm to hd) (by kernel_rfl)).met
@[reducible] noncomputable def ctAcq : CT := { ps := [shM, .int .i64, .int .i64], pre := fun d => bndM d.1, res := fun d => ([], .tup [.agg [.sl (.int .i64) ((ownM d.1 d.2.1 d.2.2.1 (-1) d.2.2.1).1).1, .sl (.int .i64) ((ownM d.1 d.2.1 d.2.2.1 (-1) d.2.2.1).1).2.1, .sl (.sl (.int .i64)) ((ownM d.1 d.2.1 d.2.2.1 (-1) d.2.2.1).1).2.2.1, .sl (.int .i64) ((ownM d.1 d.2.1 d.2.2.1 (-1) d.2.2.1).1).2.2.2.1], .c (.v (.int .i64 ((ownM d.1 d.2.1 d.2.2.1 (-1) d.2.2.1).2)))]) }
@[reducible] noncomputable def cl30 : List (Nat × CT) := [(58, ctOwn)]
@[reducible] def ann30 (vs : List Int) (os : List Int) (qs : List (List Int)) (sg : List Int) (i : Int) (id : Int) : Nat → Option (St → Ann) := fun _ => none
@[reducible] def il30 : List (Nat × IP) := []
@[reducible] def hl30 : List (Nat × Nat × CT) := []
@[reducible] noncomputable def ml30 : List (Nat × MK) := []
set_option maxRecDepth 100000 in
theorem f30_vc (vs : List Int) (os : List Int) (qs : List (List Int)) (sg : List Int) (i : Int) (id : Int) (hpre : ctAcq.pre ((vs, os, qs, sg, ()), i, id, ())) :
    bndM (vs, os, qs, sg, ()) ∧ ([] : List Go.Eng.Res) = [] ∧ Ent.tup [SV.agg [SC.sl I6 (ownM (vs, os, qs, sg, ()) i id (-1 : Int) id).fst.fst, SC.sl I6 (ownM (vs, os, qs, sg, ()) i id (-1 : Int) id).fst.snd.fst, SC.sl I6.sl (ownM (vs, os, qs, sg, ()) i id (-1 : Int) id).fst.snd.snd.fst, SC.sl I6 (ownM (vs, os, qs, sg, ()) i id (-1 : Int) id).fst.snd.snd.snd.fst], SV.c (SC.v (Value.int IntKind.i64 (ownM (vs, os, qs, sg, ()) i id (-1 : Int) id).snd))] = Ent.tup [SV.agg [SC.sl I6 ((ownM (vs, os, qs, sg, ()) i id (-1 : Int) id).fst.fst, (ownM (vs, os, qs, sg, ()) i id (-1 : Int) id).fst.snd.fst, (ownM (vs, os, qs, sg, ()) i id (-1 : Int) id).fst.snd.snd.fst, (ownM (vs, os, qs, sg, ()) i id (-1 : Int) id).fst.snd.snd.snd.fst, ()).fst, SC.sl I6 ((ownM (vs, os, qs, sg, ()) i id (-1 : Int) id).fst.snd.fst, (ownM (vs, os, qs, sg, ()) i id (-1 : Int) id).fst.snd.snd.fst, (ownM (vs, os, qs, sg, ()) i id (-1 : Int) id).fst.snd.snd.snd.fst, ()).fst, SC.sl I6.sl ((ownM (vs, os, qs, sg, ()) i id (-1 : Int) id).fst.snd.snd.fst, (ownM (vs, os, qs, sg, ()) i id (-1 : Int) id).fst.snd.snd.snd.fst, ()).fst, SC.sl I6 (ownM (vs, os, qs, sg, ()) i id (-1 : Int) id).fst.snd.snd.snd.fst], SV.c (SC.v (Value.int IntKind.i64 (ownM (vs, os, qs, sg, ()) i id (-1 : Int) id).snd))] := by
  exact ⟨hpre, rfl, rfl⟩
set_option maxHeartbeats 2000000 in
set_option maxRecDepth 100000 in
theorem f30_met : Go.Eng.Met Tryd.prog cx0.gd 30 ctAcq :=
  (met_all (cx := cx0) (n := 15) (cl := cl30) (il := il30) (hl := hl30) (ml := ml30) (rc := [.data shM, .keep]) (lits := []) (suf := []) (by kernel_rfl) tis_ok ⟨f58_met, trivial⟩ trivial trivial trivial Tryd.func30 (by kernel_rfl) (by kernel_rfl) rfl (by kernel_rfl) (by kernel_rfl) (by simp) fun d hd => by
    obtain ⟨⟨vs, os, qs, sg, ⟨⟩⟩, i, id, ⟨⟩⟩ := d
    exact ex_of (ann30 vs os qs sg i id) (f30_vc vs os qs sg i id hd) (by kernel_rfl)).met
@[reducible] noncomputable def ctRel : CT := { ps := [shM, .int .i64, .int .i64], pre := fun d => bndM d.1, res := fun d => ([], .tup [.agg [.sl (.int .i64) ((ownM d.1 d.2.1 d.2.2.1 d.2.2.1 (-1)).1).1, .sl (.int .i64) ((ownM d.1 d.2.1 d.2.2.1 d.2.2.1 (-1)).1).2.1, .sl (.sl (.int .i64)) ((ownM d.1 d.2.1 d.2.2.1 d.2.2.1 (-1)).1).2.2.1, .sl (.int .i64) ((ownM d.1 d.2.1 d.2.2.1 d.2.2.1 (-1)).1).2.2.2.1], .c (.v (.int .i64 ((ownM d.1 d.2.1 d.2.2.1 d.2.2.1 (-1)).2)))]) }
@[reducible] noncomputable def cl32 : List (Nat × CT) := [(58, ctOwn)]
@[reducible] def ann32 (vs : List Int) (os : List Int) (qs : List (List Int)) (sg : List Int) (i : Int) (id : Int) : Nat → Option (St → Ann) := fun _ => none
@[reducible] def il32 : List (Nat × IP) := []
@[reducible] def hl32 : List (Nat × Nat × CT) := []
@[reducible] noncomputable def ml32 : List (Nat × MK) := []
set_option maxRecDepth 100000 in
theorem f32_vc (vs : List Int) (os : List Int) (qs : List (List Int)) (sg : List Int) (i : Int) (id : Int) (hpre : ctRel.pre ((vs, os, qs, sg, ()), i, id, ())) :
    bndM (vs, os, qs, sg, ()) ∧ ([] : List Go.Eng.Res) = [] ∧ Ent.tup [SV.agg [SC.sl I6 (ownM (vs, os, qs, sg, ()) i id id (-1 : Int)).fst.fst, SC.sl I6 (ownM (vs, os, qs, sg, ()) i id id (-1 : Int)).fst.snd.fst, SC.sl I6.sl (ownM (vs, os, qs, sg, ()) i id id (-1 : Int)).fst.snd.snd.fst, SC.sl I6 (ownM (vs, os, qs, sg, ()) i id id (-1 : Int)).fst.snd.snd.snd.fst], SV.c (SC.v (Value.int IntKind.i64 (ownM (vs, os, qs, sg, ()) i id id (-1 : Int)).snd))] = Ent.tup [SV.agg [SC.sl I6 ((ownM (vs, os, qs, sg, ()) i id id (-1 : Int)).fst.fst, (ownM (vs, os, qs, sg, ()) i id id (-1 : Int)).fst.snd.fst, (ownM (vs, os, qs, sg, ()) i id id (-1 : Int)).fst.snd.snd.fst, (ownM (vs, os, qs, sg, ()) i id id (-1 : Int)).fst.snd.snd.snd.fst, ()).fst, SC.sl I6 ((ownM (vs, os, qs, sg, ()) i id id (-1 : Int)).fst.snd.fst, (ownM (vs, os, qs, sg, ()) i id id (-1 : Int)).fst.snd.snd.fst, (ownM (vs, os, qs, sg, ()) i id id (-1 : Int)).fst.snd.snd.snd.fst, ()).fst, SC.sl I6.sl ((ownM (vs, os, qs, sg, ()) i id id (-1 : Int)).fst.snd.snd.fst, (ownM (vs, os, qs, sg, ()) i id id (-1 : Int)).fst.snd.snd.snd.fst, ()).fst, SC.sl I6 (ownM (vs, os, qs, sg, ()) i id id (-1 : Int)).fst.snd.snd.snd.fst], SV.c (SC.v (Value.int IntKind.i64 (ownM (vs, os, qs, sg, ()) i id id (-1 : Int)).snd))] := by
  exact ⟨hpre, rfl, rfl⟩
set_option maxHeartbeats 2000000 in
set_option maxRecDepth 100000 in
theorem f32_met : Go.Eng.Met Tryd.prog cx0.gd 32 ctRel :=
  (met_all (cx := cx0) (n := 15) (cl := cl32) (il := il32) (hl := hl32) (ml := ml32) (rc := [.data shM, .keep]) (lits := []) (suf := []) (by kernel_rfl) tis_ok ⟨f58_met, trivial⟩ trivial trivial trivial Tryd.func32 (by kernel_rfl) (by kernel_rfl) rfl (by kernel_rfl) (by kernel_rfl) (by simp) fun d hd => by
    obtain ⟨⟨vs, os, qs, sg, ⟨⟩⟩, i, id, ⟨⟩⟩ := d
    exact ex_of (ann32 vs os qs sg i id) (f32_vc vs os qs sg i id hd) (by kernel_rfl)).met
@[reducible] noncomputable def ctWts : CT := { ps := [shM, .int .i64], pre := fun d => bndM d.1, res := fun d => ([], vB (waitsM d.1 d.2.1)) }
@[reducible] noncomputable def cl51 : List (Nat × CT) := [(77, ctCon), (54, ctHas)]
@[reducible] def ann51 (vs : List Int) (os : List Int) (qs : List (List Int)) (sg : List Int) (id : Int) : Nat → Option (St → Ann) := fun k => match k with
  | 2 => some fun _ => .inv { α := Nat, slots := fun k => [(10, .c (.v (.int .i64 k)))], res := fun k => [], inv := fun k => k ≤ (qs).length ∧ ∀ j < k, ∀ q, qs[j]? = some q → hasI q id = false, meas := fun k => (qs).length - k }
  | _ => none
@[reducible] def il51 : List (Nat × IP) := []
@[reducible] def hl51 : List (Nat × Nat × CT) := []
@[reducible] noncomputable def ml51 : List (Nat × MK) := []
set_option maxRecDepth 100000 in
theorem f51_vc (vs : List Int) (os : List Int) (qs : List (List Int)) (sg : List Int) (id : Int) (hpre : ctWts.pre ((vs, os, qs, sg, ()), id, ())) :
    (∃ x, (x ≤ qs.length ∧ ∀ (j : Nat), j < x → ∀ (q : List Int), qs[j]? = some q → hasI q id = false) ∧ (SV.c (SC.v (Value.int IntKind.i64 (0 : Int))) = SV.c (SC.v (Value.int IntKind.i64 (↑x : Int))) ∧ True) ∧ [(([] : Go.Eng.Gd), bM6 vs os qs sg)] = [(([] : Go.Eng.Gd), bM6 vs os qs sg)]) ∧ ∀ (x : Nat), (x ≤ qs.length ∧ ∀ (j : Nat), j < x → ∀ (q : List Int), qs[j]? = some q → hasI q id = false) → br (decide ((↑x : Int) < (↑qs.length : Int))) (((0 : Int) ≤ (↑x : Int) ∧ (↑x : Int) < (↑qs.length : Int)) ∧ ∀ (d : List I6.den), qs[(↑x : Int).toNat]? = some d → d.length ≤ (4611686018427387904 : Nat) ∧ br (hasI d id) (([] : List Go.Eng.Res) = [] ∧ Ent.one (SV.c (SC.v (Value.bool (waitsM (vs, os, qs, sg, ()) id)))) = Ent.one (SV.c (SC.v (Value.bool true)))) (InR IntKind.i64 ((↑x : Int) + (1 : Int)) ∧ ∃ x', (x' ≤ qs.length ∧ ∀ (j : Nat), j < x' → ∀ (q : List Int), qs[j]? = some q → hasI q id = false) ∧ (SV.c (SC.v (Value.int IntKind.i64 ((↑x : Int) + (1 : Int)))) = SV.c (SC.v (Value.int IntKind.i64 (↑x' : Int))) ∧ True) ∧ [(([] : Go.Eng.Gd), bM6 vs os qs sg)] = [(([] : Go.Eng.Gd), bM6 vs os qs sg)] ∧ qs.length - x' < qs.length - x)) (sg.length ≤ (1000000 : Nat) ∧ ([] : List Go.Eng.Res) = [] ∧ Ent.one (SV.c (SC.v (Value.bool (waitsM (vs, os, qs, sg, ()) id)))) = Ent.one (SV.c (SC.v (Value.bool (hasI sg id))))) := by
  obtain ⟨b1, b2, b3, b4, b5, b6⟩ : vs.length ≤ 1000 ∧ os.length ≤ 1000 ∧ qs.length ≤ 1000 ∧ sg.length ≤ 1000 ∧ (∀ q ∈ qs, q.length ≤ 1000) ∧ qs.flatten.length ≤ 100000 := hpre
  refine ⟨⟨0, ⟨by omega, fun j hj => by omega⟩, ⟨rfl, trivial⟩, rfl⟩, fun k hk => br_iff.2 ⟨fun g => ?_, fun g => ?_⟩⟩
  · simp only [decide_eq_true_eq] at g
    refine ⟨⟨by omega, by omega⟩, fun d hd => ⟨?_, br_iff.2 ⟨fun g2 => ⟨rfl, ?_⟩, fun g2 => ⟨InR_i64.2 (by omega), k + 1, ⟨by omega, fun j hj q hq => ?_⟩, ⟨rfl, trivial⟩, rfl, by omega⟩⟩⟩⟩
    · have := b5 d (List.mem_of_getElem? hd); omega
    · have : waitsM (vs, os, qs, sg, ()) id = true := by
        unfold waitsM
        rw [Bool.or_eq_true]
        exact .inl (List.any_eq_true.2 ⟨d, List.mem_of_getElem? hd, g2⟩)
      rw [this]
    · by_cases hjk : j = k
      · subst hjk
        have hd : qs[j]? = some d := hd
        rw [hd] at hq; cases hq
        exact g2
      · exact hk.2 j (by omega) q hq
  simp only [decide_eq_false_iff_not] at g
  have : waitsM (vs, os, qs, sg, ()) id = hasI sg id := by
    unfold waitsM
    have : (qs.any fun q => hasI q id) = false := by
      rw [List.any_eq_false]
      intro q hq
      obtain ⟨j, hj⟩ := List.getElem?_of_mem hq
      rw [hk.2 j (by have := (List.getElem?_eq_some_iff.1 hj).1; omega) q hj]; simp
    simp [this]
  exact ⟨by omega, rfl, by rw [this]⟩
set_option maxHeartbeats 2000000 in
set_option maxRecDepth 100000 in
theorem f51_met : Go.Eng.Met Tryd.prog cx0.gd 51 ctWts :=
  (met_all (cx := cx0) (n := 22) (cl := cl51) (il := il51) (hl := hl51) (ml := ml51) (rc := []) (lits := []) (suf := []) (by kernel_rfl) tis_ok ⟨f77_met, f54_met, trivial⟩ trivial trivial trivial Tryd.func51 (by kernel_rfl) (by kernel_rfl) rfl (by kernel_rfl) (by kernel_rfl) (by simp) fun d hd => by
    obtain ⟨⟨vs, os, qs, sg, ⟨⟩⟩, id, ⟨⟩⟩ := d
    exact ex_of (ann51 vs os qs sg id) (f51_vc vs os qs sg id hd) (by kernel_rfl)).met
end Go.Proofs.YtkgjfkdcnoockaaDoor
set_option linter.unusedSimpArgs false
set_option linter.unusedVariables false
set_option maxRecDepth 100000
namespace Go.Proofs.YtkgjfkdcnoockaaDoor
open Go Go.Eng

noncomputable def enqM (m : MD) (c id : Int) : MD × Int := if insM m c m.2.2.1.length = 0 then (if id < 0 then (zM, 2) else if waitsM m id = true then (zM, 30) else ((m.1, m.2.1, m.2.2.1.set c.toNat (m.2.2.1[c.toNat]?.getD [] ++ [id]), m.2.2.2), 0)) else (zM, insM m c m.2.2.1.length)
def addsI (sg l : List Int) : List Int := l.foldl (fun s x => makeI (s ++ [x])) sg
theorem addsI_take {sg l : List Int} {k : Nat} {d : Int} (h : l[k]? = some d) : addsI sg (l.take (k + 1)) = makeI (addsI sg (l.take k) ++ [d]) := by
  unfold addsI
  rw [List.take_add_one, h]; simp
theorem addsI_len : ∀ (l sg : List Int), (addsI sg l).length ≤ sg.length + l.length
  | [], sg => by simp [addsI]
  | x :: l, sg => by
    have := addsI_len l (makeI (sg ++ [x]))
    have h2 := make_le (sg ++ [x]) []
    have e : addsI sg (x :: l) = addsI (makeI (sg ++ [x])) l := rfl
    rw [e]
    unfold makeI at *
    simp only [List.length_append, List.length_cons, List.length_nil] at *
    omega
noncomputable def wkM (m : MD) (c n : Int) : MD × Int × Int := if insM m c m.2.2.1.length = 0 then ((m.1, m.2.1, m.2.2.1.set c.toNat ((m.2.2.1[c.toNat]?.getD []).drop (minI n ((m.2.2.1[c.toNat]?.getD []).length : Int)).toNat), addsI m.2.2.2.1 ((m.2.2.1[c.toNat]?.getD []).take (minI n ((m.2.2.1[c.toNat]?.getD []).length : Int)).toNat), ()), minI n ((m.2.2.1[c.toNat]?.getD []).length : Int), 0) else (zM, 0, insM m c m.2.2.1.length)
noncomputable def wakeM (m : MD) (id : Int) : MD × Int := if formM m = false then (zM, 1) else if hasI m.2.2.2.1 id = false then (zM, 30) else ((m.1, m.2.1, m.2.2.1, filI (makeI m.2.2.2.1) [id] false, ()), 0)
def newM (vs : List VD) (ms cs : List ByteArray) (fs : List FD) (ts : List SD) : MD × Int := if (chkP vs ms cs fs ts).1 = 0 then ((vs.map (·.2.1), List.replicate ms.length (-1), List.replicate cs.length [], [], ()), 0) else (zM, (chkP vs ms cs fs ts).1)
@[reducible] noncomputable def ctEnq : CT := { ps := [shM, .int .i64, .int .i64], pre := fun d => bndM d.1, res := fun d => ([], .tup [.agg [.sl (.int .i64) ((enqM d.1 d.2.1 d.2.2.1).1).1, .sl (.int .i64) ((enqM d.1 d.2.1 d.2.2.1).1).2.1, .sl (.sl (.int .i64)) ((enqM d.1 d.2.1 d.2.2.1).1).2.2.1, .sl (.int .i64) ((enqM d.1 d.2.1 d.2.2.1).1).2.2.2.1], .c (.v (.int .i64 ((enqM d.1 d.2.1 d.2.2.1).2)))]) }
@[reducible] noncomputable def cl18 : List (Nat × CT) := [(50, ctIns), (51, ctWts), (36, ctClO)]
@[reducible] def ann18 (vs : List Int) (os : List Int) (qs : List (List Int)) (sg : List Int) (c : Int) (id : Int) : Nat → Option (St → Ann) := fun _ => none
@[reducible] def il18 : List (Nat × IP) := []
@[reducible] def hl18 : List (Nat × Nat × CT) := []
@[reducible] noncomputable def ml18 : List (Nat × MK) := []
set_option maxRecDepth 100000 in
theorem f18_vc (vs : List Int) (os : List Int) (qs : List (List Int)) (sg : List Int) (c : Int) (id : Int) (hpre : ctEnq.pre ((vs, os, qs, sg, ()), c, id, ())) :
    bndM (vs, os, qs, sg, ()) ∧ br (!decide (insM (vs, os, qs, sg, ()) c (↑qs.length : Int) = (0 : Int))) (([] : List Go.Eng.Res) = [] ∧ Ent.tup [SV.agg [SC.sl I6 (enqM (vs, os, qs, sg, ()) c id).fst.fst, SC.sl I6 (enqM (vs, os, qs, sg, ()) c id).fst.snd.fst, SC.sl I6.sl (enqM (vs, os, qs, sg, ()) c id).fst.snd.snd.fst, SC.sl I6 (enqM (vs, os, qs, sg, ()) c id).fst.snd.snd.snd.fst], SV.c (SC.v (Value.int IntKind.i64 (enqM (vs, os, qs, sg, ()) c id).snd))] = Ent.tup [SV.agg [SC.sl I6 [], SC.sl I6 [], SC.sl I6.sl [], SC.sl I6 []], SV.c (SC.v (Value.int IntKind.i64 (insM (vs, os, qs, sg, ()) c (↑qs.length : Int))))]) (br (decide (id < (0 : Int))) (([] : List Go.Eng.Res) = [] ∧ Ent.tup [SV.agg [SC.sl I6 (enqM (vs, os, qs, sg, ()) c id).fst.fst, SC.sl I6 (enqM (vs, os, qs, sg, ()) c id).fst.snd.fst, SC.sl I6.sl (enqM (vs, os, qs, sg, ()) c id).fst.snd.snd.fst, SC.sl I6 (enqM (vs, os, qs, sg, ()) c id).fst.snd.snd.snd.fst], SV.c (SC.v (Value.int IntKind.i64 (enqM (vs, os, qs, sg, ()) c id).snd))] = Ent.tup [SV.agg [SC.sl I6 [], SC.sl I6 [], SC.sl I6.sl [], SC.sl I6 []], SV.c (SC.v (Value.int IntKind.i64 (2 : Int)))]) (bndM (vs, os, qs, sg, ()) ∧ br (waitsM (vs, os, qs, sg, ()) id) (([] : List Go.Eng.Res) = [] ∧ Ent.tup [SV.agg [SC.sl I6 (enqM (vs, os, qs, sg, ()) c id).fst.fst, SC.sl I6 (enqM (vs, os, qs, sg, ()) c id).fst.snd.fst, SC.sl I6.sl (enqM (vs, os, qs, sg, ()) c id).fst.snd.snd.fst, SC.sl I6 (enqM (vs, os, qs, sg, ()) c id).fst.snd.snd.snd.fst], SV.c (SC.v (Value.int IntKind.i64 (enqM (vs, os, qs, sg, ()) c id).snd))] = Ent.tup [SV.agg [SC.sl I6 [], SC.sl I6 [], SC.sl I6.sl [], SC.sl I6 []], SV.c (SC.v (Value.int IntKind.i64 (30 : Int)))]) (bndM (vs, os, qs, sg, ()) ∧ ((0 : Int) ≤ c ∧ c < (↑qs.length : Int)) ∧ c.toNat < qs.length ∧ ∀ (d : List I6.den), qs[c.toNat]? = some d → false = false ∧ (decide (c.toNat < qs.length) = true → ((decide (c.toNat < qs.length) = true ∧ c.toNat < qs.length) ∧ ∀ (d : List I6.den), qs[c.toNat]? = some d → InA (List.length (d) + List.length ([id])) (8 : Nat) ∧ ((0 : Int) ≤ c ∧ c < (↑qs.length : Int)) ∧ c.toNat < qs.length ∧ c.toNat = c.toNat ∧ ∀ (e0 : List I6.den), qs[c.toNat]? = some e0 → ([] : List Go.Eng.Res) = [] ∧ Ent.tup [SV.agg [SC.sl I6 (enqM (vs, os, qs, sg, ()) c id).fst.fst, SC.sl I6 (enqM (vs, os, qs, sg, ()) c id).fst.snd.fst, SC.sl I6.sl (enqM (vs, os, qs, sg, ()) c id).fst.snd.snd.fst, SC.sl I6 (enqM (vs, os, qs, sg, ()) c id).fst.snd.snd.snd.fst], SV.c (SC.v (Value.int IntKind.i64 (enqM (vs, os, qs, sg, ()) c id).snd))] = Ent.tup [SV.agg [SC.sl I6 vs, SC.sl I6 os, SC.sl I6.sl (qs.set c.toNat ((d ++ [id]))), SC.sl I6 sg], SV.c (SC.v (Value.int IntKind.i64 (0 : Int)))]) ∧ ((decide (c.toNat < qs.length) = true ∧ c.toNat < qs.length) ∧ ∀ (d : List I6.den), qs[c.toNat]? = some d → InA (List.length (d) + List.length ([id])) (8 : Nat) ∧ ((0 : Int) ≤ c ∧ c < (↑qs.length : Int)) ∧ c.toNat < qs.length ∧ c.toNat = c.toNat ∧ ∀ (e0 : List I6.den), qs[c.toNat]? = some e0 → ([] : List Go.Eng.Res) = [] ∧ Ent.tup [SV.agg [SC.sl I6 (enqM (vs, os, qs, sg, ()) c id).fst.fst, SC.sl I6 (enqM (vs, os, qs, sg, ()) c id).fst.snd.fst, SC.sl I6.sl (enqM (vs, os, qs, sg, ()) c id).fst.snd.snd.fst, SC.sl I6 (enqM (vs, os, qs, sg, ()) c id).fst.snd.snd.snd.fst], SV.c (SC.v (Value.int IntKind.i64 (enqM (vs, os, qs, sg, ()) c id).snd))] = Ent.tup [SV.agg [SC.sl I6 vs, SC.sl I6 os, SC.sl I6.sl (qs.set c.toNat ((d ++ [id]))), SC.sl I6 sg], SV.c (SC.v (Value.int IntKind.i64 (0 : Int)))]) ∧ (decide (c.toNat < qs.length) = true ∧ c.toNat < qs.length) ∧ ∀ (d : List I6.den), qs[c.toNat]? = some d → InA (List.length (d) + List.length ([id])) (8 : Nat) ∧ ((0 : Int) ≤ c ∧ c < (↑qs.length : Int)) ∧ c.toNat < qs.length ∧ c.toNat = c.toNat ∧ ∀ (e0 : List I6.den), qs[c.toNat]? = some e0 → ([] : List Go.Eng.Res) = [] ∧ Ent.tup [SV.agg [SC.sl I6 (enqM (vs, os, qs, sg, ()) c id).fst.fst, SC.sl I6 (enqM (vs, os, qs, sg, ()) c id).fst.snd.fst, SC.sl I6.sl (enqM (vs, os, qs, sg, ()) c id).fst.snd.snd.fst, SC.sl I6 (enqM (vs, os, qs, sg, ()) c id).fst.snd.snd.snd.fst], SV.c (SC.v (Value.int IntKind.i64 (enqM (vs, os, qs, sg, ()) c id).snd))] = Ent.tup [SV.agg [SC.sl I6 vs, SC.sl I6 os, SC.sl I6.sl (qs.set c.toNat ((d ++ [id]))), SC.sl I6 sg], SV.c (SC.v (Value.int IntKind.i64 (0 : Int)))]) ∧ (decide (c.toNat < qs.length) = false → False ∧ False ∧ False)))) := by
  unfold enqM
  have hb := hpre
  obtain ⟨b1, b2, b3, b4, b5, b6⟩ : vs.length ≤ 1000 ∧ os.length ≤ 1000 ∧ qs.length ≤ 1000 ∧ sg.length ≤ 1000 ∧ (∀ q ∈ qs, q.length ≤ 1000) ∧ qs.flatten.length ≤ 100000 := hpre
  refine ⟨hb, br_iff.2 ⟨fun h => ⟨rfl, ?_⟩, fun h => ?_⟩⟩
  · rw [if_neg (by simpa using h)]; rfl
  have h : insM (vs, os, qs, sg, ()) c qs.length = 0 := by simpa using h
  have hx := insM_zero.1 h
  rw [if_pos h]
  refine br_iff.2 ⟨fun g => ⟨rfl, ?_⟩, fun g => ⟨hb, br_iff.2 ⟨fun w => ⟨rfl, ?_⟩, fun w => ⟨hb, hx.2, by omega, fun d hd => ⟨rfl, ?_⟩⟩⟩⟩⟩
  · rw [if_pos (by simpa using g)]; rfl
  · rw [if_neg (by simpa using g), if_pos w]; rfl
  rw [if_neg (by simpa using g), if_neg (by simpa using w)]
  have hc : decide (c.toNat < qs.length) = true := by rw [decide_eq_true_eq]; omega
  have hl := b5 d (List.mem_of_getElem? hd)
  have e : (vs, os, qs, sg, ()).2.2.1[c.toNat]?.getD [] = d := by simp [hd]
  rw [e]
  have key : ∀ d' : List Int, qs[c.toNat]? = some d' → d' = d := fun d' h' => by rw [hd] at h'; cases h'; rfl
  have hI : InA (d.length + 1) 8 := InA_iff.2 (by omega)
  have hz : ¬ decide (c.toNat < qs.length) = false := by rw [hc]; simp
  refine ⟨fun _ => ?_, fun q => absurd q hz⟩
  have F : (decide (c.toNat < qs.length) = true ∧ c.toNat < qs.length) := ⟨hc, by omega⟩
  repeat' first | exact F | (refine And.intro ?_ ?_)
  all_goals
    intro d' h'
    cases key d' h'
    exact ⟨hI, hx.2, by omega, rfl, fun _ _ => ⟨rfl, rfl⟩⟩
set_option maxHeartbeats 2000000 in
set_option maxRecDepth 100000 in
theorem f18_met : Go.Eng.Met Tryd.prog cx0.gd 18 ctEnq :=
  (met_all (cx := cx0) (n := 42) (cl := cl18) (il := il18) (hl := hl18) (ml := ml18) (rc := [.data shM, .keep]) (lits := []) (suf := []) (by kernel_rfl) tis_ok ⟨f50_met, f51_met, f36_met, trivial⟩ trivial trivial trivial Tryd.func18 (by kernel_rfl) (by kernel_rfl) rfl (by kernel_rfl) (by kernel_rfl) (by simp) fun d hd => by
    obtain ⟨⟨vs, os, qs, sg, ⟨⟩⟩, c, id, ⟨⟩⟩ := d
    exact ex_of (ann18 vs os qs sg c id) (f18_vc vs os qs sg c id hd) (by kernel_rfl)).met
@[reducible] noncomputable def ctWks : CT := { ps := [shM, .int .i64, .int .i64], pre := fun d => bndM d.1 ∧ 0 ≤ d.2.2.1, res := fun d => ([], .tup [.agg [.sl (.int .i64) ((wkM d.1 d.2.1 d.2.2.1).1).1, .sl (.int .i64) ((wkM d.1 d.2.1 d.2.2.1).1).2.1, .sl (.sl (.int .i64)) ((wkM d.1 d.2.1 d.2.2.1).1).2.2.1, .sl (.int .i64) ((wkM d.1 d.2.1 d.2.2.1).1).2.2.2.1], .c (.v (.int .i64 ((wkM d.1 d.2.1 d.2.2.1).2.1))), .c (.v (.int .i64 ((wkM d.1 d.2.1 d.2.2.1).2.2)))]) }
@[reducible] noncomputable def cl52 : List (Nat × CT) := [(50, ctIns), (78, ctAdd), (60, ctCld), (36, ctClD)]
@[reducible] def ann52 (vs : List Int) (os : List Int) (qs : List (List Int)) (sg : List Int) (c : Int) (n : Int) : Nat → Option (St → Ann) := fun k => match k with
  | 7 => some fun s => .inv { α := Nat, can := [(5, .cell 6 3)], slots := fun k => [(41, .c (.v (.int .i64 k)))], res := fun k => [(5, .row 3 (.int .i64) (addsI sg ((slotL (.int .i64) s 39).take k)))], inv := fun k => k ≤ (slotL (.int .i64) s 39).length, meas := fun k => (slotL (.int .i64) s 39).length - k }
  | _ => none
@[reducible] def il52 : List (Nat × IP) := []
@[reducible] def hl52 : List (Nat × Nat × CT) := []
@[reducible] noncomputable def ml52 : List (Nat × MK) := []
set_option maxRecDepth 100000 in
theorem f52_vc (vs : List Int) (os : List Int) (qs : List (List Int)) (sg : List Int) (c : Int) (n : Int) (hpre : ctWks.pre ((vs, os, qs, sg, ()), c, n, ())) :
    bndM (vs, os, qs, sg, ()) ∧ br (!decide (insM (vs, os, qs, sg, ()) c (↑qs.length : Int) = (0 : Int))) (([] : List Go.Eng.Res) = [] ∧ Ent.tup [SV.agg [SC.sl I6 (wkM (vs, os, qs, sg, ()) c n).fst.fst, SC.sl I6 (wkM (vs, os, qs, sg, ()) c n).fst.snd.fst, SC.sl I6.sl (wkM (vs, os, qs, sg, ()) c n).fst.snd.snd.fst, SC.sl I6 (wkM (vs, os, qs, sg, ()) c n).fst.snd.snd.snd.fst], SV.c (SC.v (Value.int IntKind.i64 (wkM (vs, os, qs, sg, ()) c n).snd.fst)), SV.c (SC.v (Value.int IntKind.i64 (wkM (vs, os, qs, sg, ()) c n).snd.snd))] = Ent.tup [SV.agg [SC.sl I6 [], SC.sl I6 [], SC.sl I6.sl [], SC.sl I6 []], SV.c (SC.v (Value.int IntKind.i64 (0 : Int))), SV.c (SC.v (Value.int IntKind.i64 (insM (vs, os, qs, sg, ()) c (↑qs.length : Int))))]) (bndM (vs, os, qs, sg, ()) ∧ ((0 : Int) ≤ c ∧ c < (↑qs.length : Int)) ∧ c.toNat < qs.length ∧ ∀ (d : List I6.den), qs[c.toNat]? = some d → ((0 : Int) ≤ c ∧ c < (↑qs.length : Int)) ∧ c.toNat < qs.length ∧ ∀ (d_1 : List I6.den), qs[c.toNat]? = some d_1 → ((0 : Int) ≤ (0 : Int) ∧ (0 : Int) ≤ minI n (↑d.length : Int) ∧ minI n (↑d.length : Int) ≤ (↑d_1.length : Int)) ∧ (∃ x, x ≤ List.length (List.drop (0 : Nat) (List.take (minI n (↑d.length : Int)).toNat d_1)) ∧ (SV.c (SC.v (Value.int IntKind.i64 (0 : Int))) = SV.c (SC.v (Value.int IntKind.i64 (↑x : Int))) ∧ True) ∧ [(([] : Go.Eng.Gd), bM6 vs os qs sg), (([] : Go.Eng.Gd), zM6), (([] : Go.Eng.Gd), Res.row (3 : TypeId) I6 vs), (([] : Go.Eng.Gd), Res.row (3 : TypeId) I6 os), (([] : Go.Eng.Gd), Res.row (28 : TypeId) I6.sl qs), (([] : Go.Eng.Gd), Res.row (3 : TypeId) I6 sg), (([] : Go.Eng.Gd), Res.blk (31 : Nat) [SC.row (2 : Nat), SC.row (3 : Nat), SC.row (4 : Nat), SC.row (5 : Nat)])] = [(([] : Go.Eng.Gd), bM6 vs os qs sg), (([] : Go.Eng.Gd), zM6), (([] : Go.Eng.Gd), Res.row (3 : TypeId) I6 vs), (([] : Go.Eng.Gd), Res.row (3 : TypeId) I6 os), (([] : Go.Eng.Gd), Res.row (28 : TypeId) I6.sl qs), (([] : Go.Eng.Gd), Res.row (3 : TypeId) I6 (addsI sg (List.take x (List.drop (0 : Nat) (List.take (minI n (↑d.length : Int)).toNat d_1))))), (([] : Go.Eng.Gd), Res.blk (31 : Nat) [SC.row (2 : Nat), SC.row (3 : Nat), SC.row (4 : Nat), SC.row (5 : Nat)])]) ∧ ∀ (x : Nat), x ≤ List.length (List.drop (0 : Nat) (List.take (minI n (↑d.length : Int)).toNat d_1)) → br (decide ((↑x : Int) < (↑(List.drop (0 : Nat) (List.take (minI n (↑d.length : Int)).toNat d_1)).length : Int))) (((0 : Int) ≤ (↑x : Int) ∧ (↑x : Int) < (↑(List.drop (0 : Nat) (List.take (minI n (↑d.length : Int)).toNat d_1)).length : Int)) ∧ ∀ (d_2 : Int), (List.drop (0 : Nat) (List.take (minI n (↑d.length : Int)).toNat d_1))[(↑x : Int).toNat]? = some d_2 → (addsI sg (List.take x (List.drop (0 : Nat) (List.take (minI n (↑d.length : Int)).toNat d_1)))).length ≤ (999999 : Nat) ∧ InR IntKind.i64 ((↑x : Int) + (1 : Int)) ∧ ∃ x', x' ≤ List.length (List.drop (0 : Nat) (List.take (minI n (↑d.length : Int)).toNat d_1)) ∧ (SV.c (SC.v (Value.int IntKind.i64 ((↑x : Int) + (1 : Int)))) = SV.c (SC.v (Value.int IntKind.i64 (↑x' : Int))) ∧ True) ∧ [(([] : Go.Eng.Gd), bM6 vs os qs sg), (([] : Go.Eng.Gd), zM6), (([] : Go.Eng.Gd), Res.row (3 : TypeId) I6 vs), (([] : Go.Eng.Gd), Res.row (3 : TypeId) I6 os), (([] : Go.Eng.Gd), Res.row (28 : TypeId) I6.sl qs), (([] : Go.Eng.Gd), Res.row (3 : TypeId) I6 (makeI (addsI sg (List.take x (List.drop (0 : Nat) (List.take (minI n (↑d.length : Int)).toNat d_1))) ++ [d_2]))), (([] : Go.Eng.Gd), Res.blk (31 : Nat) [SC.row (2 : Nat), SC.row (3 : Nat), SC.row (4 : Nat), SC.row (5 : Nat)])] = [(([] : Go.Eng.Gd), bM6 vs os qs sg), (([] : Go.Eng.Gd), zM6), (([] : Go.Eng.Gd), Res.row (3 : TypeId) I6 vs), (([] : Go.Eng.Gd), Res.row (3 : TypeId) I6 os), (([] : Go.Eng.Gd), Res.row (28 : TypeId) I6.sl qs), (([] : Go.Eng.Gd), Res.row (3 : TypeId) I6 (addsI sg (List.take x' (List.drop (0 : Nat) (List.take (minI n (↑d.length : Int)).toNat d_1))))), (([] : Go.Eng.Gd), Res.blk (31 : Nat) [SC.row (2 : Nat), SC.row (3 : Nat), SC.row (4 : Nat), SC.row (5 : Nat)])] ∧ List.length (List.drop (0 : Nat) (List.take (minI n (↑d.length : Int)).toNat d_1)) - x' < List.length (List.drop (0 : Nat) (List.take (minI n (↑d.length : Int)).toNat d_1)) - x) (((0 : Int) ≤ c ∧ c < (↑qs.length : Int)) ∧ c.toNat < qs.length ∧ ∀ (d_2 : List I6.den), qs[c.toNat]? = some d_2 → ((0 : Int) ≤ minI n (↑d.length : Int) ∧ minI n (↑d.length : Int) ≤ (↑d_2.length : Int) ∧ (↑d_2.length : Int) ≤ (↑d_2.length : Int)) ∧ (List.drop (minI n (↑d.length : Int)).toNat (List.take (↑d_2.length : Int).toNat d_2)).length ≤ (1000000 : Nat) ∧ ((0 : Int) ≤ c ∧ c < (↑qs.length : Int)) ∧ c.toNat < qs.length ∧ ([] : List Go.Eng.Res) = [] ∧ Ent.tup [SV.agg [SC.sl I6 (wkM (vs, os, qs, sg, ()) c n).fst.fst, SC.sl I6 (wkM (vs, os, qs, sg, ()) c n).fst.snd.fst, SC.sl I6.sl (wkM (vs, os, qs, sg, ()) c n).fst.snd.snd.fst, SC.sl I6 (wkM (vs, os, qs, sg, ()) c n).fst.snd.snd.snd.fst], SV.c (SC.v (Value.int IntKind.i64 (wkM (vs, os, qs, sg, ()) c n).snd.fst)), SV.c (SC.v (Value.int IntKind.i64 (wkM (vs, os, qs, sg, ()) c n).snd.snd))] = Ent.tup [SV.agg [SC.sl I6 vs, SC.sl I6 os, SC.sl I6.sl (qs.set c.toNat (List.drop (minI n (↑d.length : Int)).toNat (List.take (↑d_2.length : Int).toNat d_2))), SC.sl I6 (addsI sg (List.take x (List.drop (0 : Nat) (List.take (minI n (↑d.length : Int)).toNat d_1))))], SV.c (SC.v (Value.int IntKind.i64 (minI n (↑d.length : Int)))), SV.c (SC.v (Value.int IntKind.i64 (0 : Int)))])) := by
  obtain ⟨hb, hn⟩ : bndM (vs, os, qs, sg, ()) ∧ 0 ≤ n := hpre
  unfold wkM
  obtain ⟨b1, b2, b3, b4, b5, b6⟩ : vs.length ≤ 1000 ∧ os.length ≤ 1000 ∧ qs.length ≤ 1000 ∧ sg.length ≤ 1000 ∧ (∀ q ∈ qs, q.length ≤ 1000) ∧ qs.flatten.length ≤ 100000 := id hb
  refine ⟨hb, br_iff.2 ⟨fun h => ⟨rfl, ?_⟩, fun h => ?_⟩⟩
  · rw [if_neg (by simpa using h)]; rfl
  have h : insM (vs, os, qs, sg, ()) c qs.length = 0 := by simpa using h
  have hx := insM_zero.1 h
  rw [if_pos h]
  refine ⟨hb, hx.2, by omega, fun d hd => ⟨hx.2, by omega, fun d1 hd1 => ?_⟩⟩
  rw [hd] at hd1; cases hd1
  have hl := b5 d (List.mem_of_getElem? hd)
  have e : (vs, os, qs, sg, ()).2.2.1[c.toNat]?.getD [] = d := by simp [hd]
  rw [e]
  have hm : 0 ≤ minI n (d.length : Int) ∧ minI n (d.length : Int) ≤ d.length := by unfold minI; split <;> omega
  generalize minI n (d.length : Int) = k at hm
  rw [List.drop_zero]
  have h2 : (d.take k.toNat).length ≤ 1000 := by rw [List.length_take]; omega
  refine ⟨⟨by omega, hm⟩, ⟨0, by omega, ⟨rfl, trivial⟩, rfl⟩, fun j hj => br_iff.2 ⟨fun g => ?_, fun g => ?_⟩⟩
  · simp only [decide_eq_true_eq] at g
    refine ⟨⟨by omega, by omega⟩, fun x hx2 => ⟨?_, InR_i64.2 (by omega), j + 1, by omega, ⟨rfl, trivial⟩, ?_, by omega⟩⟩
    · have := addsI_len ((d.take k.toNat).take j) sg
      rw [List.length_take] at this; omega
    · have hx2 : (d.take k.toNat)[j]? = some x := hx2
      rw [addsI_take hx2]
  simp only [decide_eq_false_iff_not] at g
  refine ⟨hx.2, by omega, fun d2 hd2 => ?_⟩
  rw [hd] at hd2; cases hd2
  have e2 : List.take (d.length : Int).toNat d = d := List.take_of_length_le (by omega)
  rw [e2]
  refine ⟨⟨by omega, by omega, by omega⟩, by rw [List.length_drop]; omega, hx.2, by omega, rfl, ?_⟩
  rw [List.take_of_length_le (i := j) (by omega)]
set_option maxHeartbeats 2000000 in
set_option maxRecDepth 100000 in
theorem f52_met : Go.Eng.Met Tryd.prog cx0.gd 52 ctWks :=
  (met_all (cx := cx0) (n := 65) (cl := cl52) (il := il52) (hl := hl52) (ml := ml52) (rc := [.data shM, .keep, .keep]) (lits := []) (suf := []) (by kernel_rfl) tis_ok ⟨f50_met, f78_met, f60_met, f36d_met, trivial⟩ trivial trivial trivial Tryd.func52 (by kernel_rfl) (by kernel_rfl) rfl (by kernel_rfl) (by kernel_rfl) (by simp) fun d hd => by
    obtain ⟨⟨vs, os, qs, sg, ⟨⟩⟩, c, n, ⟨⟩⟩ := d
    exact ex_of (ann52 vs os qs sg c n) (f52_vc vs os qs sg c n hd) (by kernel_rfl)).met
@[reducible] noncomputable def ctSig : CT := { ps := [shM, .int .i64], pre := fun d => bndM d.1, res := fun d => ([], .tup [.agg [.sl (.int .i64) ((wkM d.1 d.2.1 1).1).1, .sl (.int .i64) ((wkM d.1 d.2.1 1).1).2.1, .sl (.sl (.int .i64)) ((wkM d.1 d.2.1 1).1).2.2.1, .sl (.int .i64) ((wkM d.1 d.2.1 1).1).2.2.2.1], .c (.v (.int .i64 ((wkM d.1 d.2.1 1).2.1))), .c (.v (.int .i64 ((wkM d.1 d.2.1 1).2.2)))]) }
@[reducible] noncomputable def cl20 : List (Nat × CT) := [(52, ctWks)]
@[reducible] def ann20 (vs : List Int) (os : List Int) (qs : List (List Int)) (sg : List Int) (c : Int) : Nat → Option (St → Ann) := fun _ => none
@[reducible] def il20 : List (Nat × IP) := []
@[reducible] def hl20 : List (Nat × Nat × CT) := []
@[reducible] noncomputable def ml20 : List (Nat × MK) := []
set_option maxRecDepth 100000 in
theorem f20_vc (vs : List Int) (os : List Int) (qs : List (List Int)) (sg : List Int) (c : Int) (hpre : ctSig.pre ((vs, os, qs, sg, ()), c, ())) :
    (bndM (vs, os, qs, sg, ()) ∧ (0 : I6.den) ≤ (1 : Int)) ∧ ([] : List Go.Eng.Res) = [] ∧ Ent.tup [SV.agg [SC.sl I6 (wkM (vs, os, qs, sg, ()) c (1 : Int)).fst.fst, SC.sl I6 (wkM (vs, os, qs, sg, ()) c (1 : Int)).fst.snd.fst, SC.sl I6.sl (wkM (vs, os, qs, sg, ()) c (1 : Int)).fst.snd.snd.fst, SC.sl I6 (wkM (vs, os, qs, sg, ()) c (1 : Int)).fst.snd.snd.snd.fst], SV.c (SC.v (Value.int IntKind.i64 (wkM (vs, os, qs, sg, ()) c (1 : Int)).snd.fst)), SV.c (SC.v (Value.int IntKind.i64 (wkM (vs, os, qs, sg, ()) c (1 : Int)).snd.snd))] = Ent.tup [SV.agg [SC.sl I6 ((wkM (vs, os, qs, sg, ()) c (1 : Int)).fst.fst, (wkM (vs, os, qs, sg, ()) c (1 : Int)).fst.snd.fst, (wkM (vs, os, qs, sg, ()) c (1 : Int)).fst.snd.snd.fst, (wkM (vs, os, qs, sg, ()) c (1 : Int)).fst.snd.snd.snd.fst, ()).fst, SC.sl I6 ((wkM (vs, os, qs, sg, ()) c (1 : Int)).fst.snd.fst, (wkM (vs, os, qs, sg, ()) c (1 : Int)).fst.snd.snd.fst, (wkM (vs, os, qs, sg, ()) c (1 : Int)).fst.snd.snd.snd.fst, ()).fst, SC.sl I6.sl ((wkM (vs, os, qs, sg, ()) c (1 : Int)).fst.snd.snd.fst, (wkM (vs, os, qs, sg, ()) c (1 : Int)).fst.snd.snd.snd.fst, ()).fst, SC.sl I6 (wkM (vs, os, qs, sg, ()) c (1 : Int)).fst.snd.snd.snd.fst], SV.c (SC.v (Value.int IntKind.i64 (wkM (vs, os, qs, sg, ()) c (1 : Int)).snd.fst)), SV.c (SC.v (Value.int IntKind.i64 (wkM (vs, os, qs, sg, ()) c (1 : Int)).snd.snd))] := by
  exact ⟨⟨hpre, by decide⟩, rfl, rfl⟩
set_option maxHeartbeats 2000000 in
set_option maxRecDepth 100000 in
theorem f20_met : Go.Eng.Met Tryd.prog cx0.gd 20 ctSig :=
  (met_all (cx := cx0) (n := 13) (cl := cl20) (il := il20) (hl := hl20) (ml := ml20) (rc := [.data shM, .keep, .keep]) (lits := []) (suf := []) (by kernel_rfl) tis_ok ⟨f52_met, trivial⟩ trivial trivial trivial Tryd.func20 (by kernel_rfl) (by kernel_rfl) rfl (by kernel_rfl) (by kernel_rfl) (by simp) fun d hd => by
    obtain ⟨⟨vs, os, qs, sg, ⟨⟩⟩, c, ⟨⟩⟩ := d
    exact ex_of (ann20 vs os qs sg c) (f20_vc vs os qs sg c hd) (by kernel_rfl)).met
@[reducible] noncomputable def ctWke : CT := { ps := [shM, .int .i64], pre := fun d => bndM d.1, res := fun d => ([], .tup [.agg [.sl (.int .i64) ((wakeM d.1 d.2.1).1).1, .sl (.int .i64) ((wakeM d.1 d.2.1).1).2.1, .sl (.sl (.int .i64)) ((wakeM d.1 d.2.1).1).2.2.1, .sl (.int .i64) ((wakeM d.1 d.2.1).1).2.2.2.1], .c (.v (.int .i64 ((wakeM d.1 d.2.1).2)))]) }
@[reducible] noncomputable def cl24 : List (Nat × CT) := [(48, ctFm), (54, ctHas), (55, ctRem), (36, ctClD)]
@[reducible] def ann24 (vs : List Int) (os : List Int) (qs : List (List Int)) (sg : List Int) (id : Int) : Nat → Option (St → Ann) := fun _ => none
@[reducible] def il24 : List (Nat × IP) := []
@[reducible] def hl24 : List (Nat × Nat × CT) := []
@[reducible] noncomputable def ml24 : List (Nat × MK) := []
set_option maxRecDepth 100000 in
theorem f24_vc (vs : List Int) (os : List Int) (qs : List (List Int)) (sg : List Int) (id : Int) (hpre : ctWke.pre ((vs, os, qs, sg, ()), id, ())) :
    bndM (vs, os, qs, sg, ()) ∧ br (!formM (vs, os, qs, sg, ())) (([] : List Go.Eng.Res) = [] ∧ Ent.tup [SV.agg [SC.sl I6 (wakeM (vs, os, qs, sg, ()) id).fst.fst, SC.sl I6 (wakeM (vs, os, qs, sg, ()) id).fst.snd.fst, SC.sl I6.sl (wakeM (vs, os, qs, sg, ()) id).fst.snd.snd.fst, SC.sl I6 (wakeM (vs, os, qs, sg, ()) id).fst.snd.snd.snd.fst], SV.c (SC.v (Value.int IntKind.i64 (wakeM (vs, os, qs, sg, ()) id).snd))] = Ent.tup [SV.agg [SC.sl I6 [], SC.sl I6 [], SC.sl I6.sl [], SC.sl I6 []], SV.c (SC.v (Value.int IntKind.i64 (1 : Int)))]) (sg.length ≤ (1000000 : Nat) ∧ br (!hasI sg id) (([] : List Go.Eng.Res) = [] ∧ Ent.tup [SV.agg [SC.sl I6 (wakeM (vs, os, qs, sg, ()) id).fst.fst, SC.sl I6 (wakeM (vs, os, qs, sg, ()) id).fst.snd.fst, SC.sl I6.sl (wakeM (vs, os, qs, sg, ()) id).fst.snd.snd.fst, SC.sl I6 (wakeM (vs, os, qs, sg, ()) id).fst.snd.snd.snd.fst], SV.c (SC.v (Value.int IntKind.i64 (wakeM (vs, os, qs, sg, ()) id).snd))] = Ent.tup [SV.agg [SC.sl I6 [], SC.sl I6 [], SC.sl I6.sl [], SC.sl I6 []], SV.c (SC.v (Value.int IntKind.i64 (30 : Int)))]) (bndM (vs, os, qs, sg, ()) ∧ sg.length ≤ (1000000 : Nat) ∧ ([] : List Go.Eng.Res) = [] ∧ Ent.tup [SV.agg [SC.sl I6 (wakeM (vs, os, qs, sg, ()) id).fst.fst, SC.sl I6 (wakeM (vs, os, qs, sg, ()) id).fst.snd.fst, SC.sl I6.sl (wakeM (vs, os, qs, sg, ()) id).fst.snd.snd.fst, SC.sl I6 (wakeM (vs, os, qs, sg, ()) id).fst.snd.snd.snd.fst], SV.c (SC.v (Value.int IntKind.i64 (wakeM (vs, os, qs, sg, ()) id).snd))] = Ent.tup [SV.agg [SC.sl I6 vs, SC.sl I6 os, SC.sl I6.sl qs, SC.sl I6 (filI (makeI sg) [id] false)], SV.c (SC.v (Value.int IntKind.i64 (0 : Int)))])) := by
  have hb := hpre
  obtain ⟨b1, b2, b3, b4, b5, b6⟩ : vs.length ≤ 1000 ∧ os.length ≤ 1000 ∧ qs.length ≤ 1000 ∧ sg.length ≤ 1000 ∧ (∀ q ∈ qs, q.length ≤ 1000) ∧ qs.flatten.length ≤ 100000 := hpre
  unfold wakeM
  refine ⟨hb, br_iff.2 ⟨fun h => ⟨rfl, ?_⟩, fun h => ⟨by omega, br_iff.2 ⟨fun g => ⟨rfl, ?_⟩, fun g => ⟨hb, by omega, rfl, ?_⟩⟩⟩⟩⟩
  · rw [if_pos (by simpa using h)]; rfl
  · rw [if_neg (by simpa using h), if_pos (by simpa using g)]; rfl
  · rw [if_neg (by simpa using h), if_neg (by simpa using g)]
set_option maxHeartbeats 2000000 in
set_option maxRecDepth 100000 in
theorem f24_met : Go.Eng.Met Tryd.prog cx0.gd 24 ctWke :=
  (met_all (cx := cx0) (n := 25) (cl := cl24) (il := il24) (hl := hl24) (ml := ml24) (rc := [.data shM, .keep]) (lits := []) (suf := []) (by kernel_rfl) tis_ok ⟨f48_met, f54_met, f55_met, f36d_met, trivial⟩ trivial trivial trivial Tryd.func24 (by kernel_rfl) (by kernel_rfl) rfl (by kernel_rfl) (by kernel_rfl) (by simp) fun d hd => by
    obtain ⟨⟨vs, os, qs, sg, ⟨⟩⟩, id, ⟨⟩⟩ := d
    exact ex_of (ann24 vs os qs sg id) (f24_vc vs os qs sg id hd) (by kernel_rfl)).met
@[reducible] noncomputable def ctNew : CT := { ps := [shP], pre := fun d => bnd d, res := fun d => ([], .tup [.agg [.sl (.int .i64) ((newM d.1.1 d.1.2.1 d.1.2.2.1 d.1.2.2.2.1 d.1.2.2.2.2.1).1).1, .sl (.int .i64) ((newM d.1.1 d.1.2.1 d.1.2.2.1 d.1.2.2.2.1 d.1.2.2.2.2.1).1).2.1, .sl (.sl (.int .i64)) ((newM d.1.1 d.1.2.1 d.1.2.2.1 d.1.2.2.2.1 d.1.2.2.2.2.1).1).2.2.1, .sl (.int .i64) ((newM d.1.1 d.1.2.1 d.1.2.2.1 d.1.2.2.2.1 d.1.2.2.2.2.1).1).2.2.2.1], .c (.v (.int .i64 ((newM d.1.1 d.1.2.1 d.1.2.2.1 d.1.2.2.2.1 d.1.2.2.2.2.1).2)))]) }
@[reducible] noncomputable def cl13 : List (Nat × CT) := [(44, ctChk)]
@[reducible] def ann13 (vs : List VD) (ms : List ByteArray) (cs : List ByteArray) (fs : List FD) (ts : List SD) : Nat → Option (St → Ann) := fun k => match k with
  | 6 => some fun s => .inv { α := Nat, nilC := [(3, 0, 3, .int .i64)], slots := fun k => [(28, .c (.v (.int .i64 k)))], res := fun k => [(4, .row 3 (.int .i64) ((vs.take k).map (·.2.1)))], inv := fun k => k ≤ vs.length, meas := fun k => vs.length - k }
  | 11 => some fun s => .inv { α := Nat, nilC := [(3, 1, 3, .int .i64)], slots := fun k => [(43, .c (.v (.int .i64 k)))], res := fun k => [(5, .row 3 (.int .i64) (List.replicate k (-1)))], inv := fun k => k ≤ ms.length, meas := fun k => ms.length - k }
  | _ => none
@[reducible] def il13 : List (Nat × IP) := []
@[reducible] def hl13 : List (Nat × Nat × CT) := []
@[reducible] noncomputable def ml13 : List (Nat × MK) := []
set_option maxRecDepth 100000 in
theorem f13_vc (vs : List VD) (ms : List ByteArray) (cs : List ByteArray) (fs : List FD) (ts : List SD) (hpre : ctNew.pre ((vs, ms, cs, fs, ts, ()), ())) :
    (vs.length ≤ (1000000 : Nat) ∧ ms.length ≤ (1000000 : Nat) ∧ cs.length ≤ (1000000 : Nat) ∧ fs.length ≤ (1000000 : Nat) ∧ ts.length ≤ (1000000 : Nat) ∧ (∀ (x : Sh.str.den × (shI.sl.pair Sh.unit).den), x ∈ fs → List.length x.snd.fst ≤ (1000000 : Nat)) ∧ (instL fs).length ≤ (1000000 : Nat)) ∧ br (!decide ((chkP vs ms cs fs ts).fst = (0 : Int))) (([] : List Go.Eng.Res) = [] ∧ Ent.tup [SV.agg [SC.sl I6 (newM vs ms cs fs ts).fst.fst, SC.sl I6 (newM vs ms cs fs ts).fst.snd.fst, SC.sl I6.sl (newM vs ms cs fs ts).fst.snd.snd.fst, SC.sl I6 (newM vs ms cs fs ts).fst.snd.snd.snd.fst], SV.c (SC.v (Value.int IntKind.i64 (newM vs ms cs fs ts).snd))] = Ent.tup [SV.agg [SC.sl I6 [], SC.sl I6 [], SC.sl I6.sl [], SC.sl I6 []], SV.c (SC.v (Value.int IntKind.i64 (chkP vs ms cs fs ts).fst))]) (((0 : Int) ≤ (↑cs.length : Int) ∧ (↑cs.length : Int) ≤ (↑cs.length : Int) ∧ InA (↑cs.length : Int).toNat (24 : Nat)) ∧ (∃ x, x ≤ vs.length ∧ (SV.c (SC.v (Value.int IntKind.i64 (0 : Int))) = SV.c (SC.v (Value.int IntKind.i64 (↑x : Int))) ∧ True) ∧ [(([] : Go.Eng.Gd), Res.blk (27 : Nat) [SC.sl (Sh.str.pair (I6.pair Sh.unit)) vs, SC.sl Sh.str ms, SC.sl Sh.str cs, SC.sl (Sh.str.pair (shI.sl.pair Sh.unit)) fs, SC.sl (I6.pair (I6.pair Sh.unit)) ts]), (([] : Go.Eng.Gd), zM6), (([] : Go.Eng.Gd), Res.row (28 : TypeId) I6.sl (List.replicate (↑cs.length : Int).toNat [])), (([] : Go.Eng.Gd), Res.blk (31 : Nat) [SC.row (Nat.succ (0 : Nat)).succ.succ.succ, nS6, SC.row (Nat.succ (0 : Nat)).succ, nS6]), (([] : Go.Eng.Gd), Res.row (3 : TypeId) I6 [])] = [(([] : Go.Eng.Gd), Res.blk (27 : Nat) [SC.sl (Sh.str.pair (I6.pair Sh.unit)) vs, SC.sl Sh.str ms, SC.sl Sh.str cs, SC.sl (Sh.str.pair (shI.sl.pair Sh.unit)) fs, SC.sl (I6.pair (I6.pair Sh.unit)) ts]), (([] : Go.Eng.Gd), zM6), (([] : Go.Eng.Gd), Res.row (28 : TypeId) I6.sl (List.replicate (↑cs.length : Int).toNat [])), (([] : Go.Eng.Gd), Res.blk (31 : Nat) [SC.row (Nat.succ (0 : Nat)).succ.succ.succ, nS6, SC.row (Nat.succ (0 : Nat)).succ, nS6]), (([] : Go.Eng.Gd), Res.row (3 : TypeId) I6 (List.map (fun x => x.snd.fst) (List.take x vs)))]) ∧ ∀ (x : Nat), x ≤ vs.length → br (decide ((↑x : Int) < (↑vs.length : Int))) (((0 : Int) ≤ (↑x : Int) ∧ (↑x : Int) < (↑vs.length : Int)) ∧ ∀ (d : Sh.str.den × (I6.pair Sh.unit).den), vs[(↑x : Int).toNat]? = some d → InA (List.length (List.map (fun x => x.snd.fst) (List.take x vs)) + List.length ([d.snd.fst])) (8 : Nat) ∧ InR IntKind.i64 ((↑x : Int) + (1 : Int)) ∧ ∃ x', x' ≤ vs.length ∧ (SV.c (SC.v (Value.int IntKind.i64 ((↑x : Int) + (1 : Int)))) = SV.c (SC.v (Value.int IntKind.i64 (↑x' : Int))) ∧ True) ∧ [(([] : Go.Eng.Gd), Res.blk (27 : Nat) [SC.sl (Sh.str.pair (I6.pair Sh.unit)) vs, SC.sl Sh.str ms, SC.sl Sh.str cs, SC.sl (Sh.str.pair (shI.sl.pair Sh.unit)) fs, SC.sl (I6.pair (I6.pair Sh.unit)) ts]), (([] : Go.Eng.Gd), zM6), (([] : Go.Eng.Gd), Res.row (28 : TypeId) I6.sl (List.replicate (↑cs.length : Int).toNat [])), (([] : Go.Eng.Gd), Res.blk (31 : Nat) [SC.row (Nat.succ (0 : Nat)).succ.succ.succ, nS6, SC.row (Nat.succ (0 : Nat)).succ, nS6]), (([] : Go.Eng.Gd), Res.row (3 : TypeId) I6 (List.map (fun x => x.snd.fst) (List.take x vs) ++ [d.snd.fst]))] = [(([] : Go.Eng.Gd), Res.blk (27 : Nat) [SC.sl (Sh.str.pair (I6.pair Sh.unit)) vs, SC.sl Sh.str ms, SC.sl Sh.str cs, SC.sl (Sh.str.pair (shI.sl.pair Sh.unit)) fs, SC.sl (I6.pair (I6.pair Sh.unit)) ts]), (([] : Go.Eng.Gd), zM6), (([] : Go.Eng.Gd), Res.row (28 : TypeId) I6.sl (List.replicate (↑cs.length : Int).toNat [])), (([] : Go.Eng.Gd), Res.blk (31 : Nat) [SC.row (Nat.succ (0 : Nat)).succ.succ.succ, nS6, SC.row (Nat.succ (0 : Nat)).succ, nS6]), (([] : Go.Eng.Gd), Res.row (3 : TypeId) I6 (List.map (fun x => x.snd.fst) (List.take x' vs)))] ∧ vs.length - x' < vs.length - x) ((∃ x_1, x_1 ≤ ms.length ∧ (SV.c (SC.v (Value.int IntKind.i64 (0 : Int))) = SV.c (SC.v (Value.int IntKind.i64 (↑x_1 : Int))) ∧ True) ∧ [(([] : Go.Eng.Gd), Res.blk (27 : Nat) [SC.sl (Sh.str.pair (I6.pair Sh.unit)) vs, SC.sl Sh.str ms, SC.sl Sh.str cs, SC.sl (Sh.str.pair (shI.sl.pair Sh.unit)) fs, SC.sl (I6.pair (I6.pair Sh.unit)) ts]), (([] : Go.Eng.Gd), zM6), (([] : Go.Eng.Gd), Res.row (28 : TypeId) I6.sl (List.replicate (↑cs.length : Int).toNat [])), (([] : Go.Eng.Gd), Res.blk (31 : Nat) [SC.row (Nat.succ (0 : Nat)).succ.succ.succ, SC.row (Nat.succ (0 : Nat)).succ.succ.succ.succ, SC.row (Nat.succ (0 : Nat)).succ, nS6]), (([] : Go.Eng.Gd), Res.row (3 : TypeId) I6 (List.map (fun x => x.snd.fst) (List.take x vs))), (([] : Go.Eng.Gd), Res.row (3 : TypeId) I6 [])] = [(([] : Go.Eng.Gd), Res.blk (27 : Nat) [SC.sl (Sh.str.pair (I6.pair Sh.unit)) vs, SC.sl Sh.str ms, SC.sl Sh.str cs, SC.sl (Sh.str.pair (shI.sl.pair Sh.unit)) fs, SC.sl (I6.pair (I6.pair Sh.unit)) ts]), (([] : Go.Eng.Gd), zM6), (([] : Go.Eng.Gd), Res.row (28 : TypeId) I6.sl (List.replicate (↑cs.length : Int).toNat [])), (([] : Go.Eng.Gd), Res.blk (31 : Nat) [SC.row (Nat.succ (0 : Nat)).succ.succ.succ, SC.row (Nat.succ (0 : Nat)).succ.succ.succ.succ, SC.row (Nat.succ (0 : Nat)).succ, nS6]), (([] : Go.Eng.Gd), Res.row (3 : TypeId) I6 (List.map (fun x => x.snd.fst) (List.take x vs))), (([] : Go.Eng.Gd), Res.row (3 : TypeId) I6 (List.replicate x_1 (-1 : I6.den)))]) ∧ ∀ (x_1 : Nat), x_1 ≤ ms.length → br (decide ((↑x_1 : Int) < (↑ms.length : Int))) (InA (List.length (List.replicate x_1 (-1 : I6.den)) + (1 : Nat)) (8 : Nat) ∧ InR IntKind.i64 ((↑x_1 : Int) + (1 : Int)) ∧ ∃ x', x' ≤ ms.length ∧ (SV.c (SC.v (Value.int IntKind.i64 ((↑x_1 : Int) + (1 : Int)))) = SV.c (SC.v (Value.int IntKind.i64 (↑x' : Int))) ∧ True) ∧ [(([] : Go.Eng.Gd), Res.blk (27 : Nat) [SC.sl (Sh.str.pair (I6.pair Sh.unit)) vs, SC.sl Sh.str ms, SC.sl Sh.str cs, SC.sl (Sh.str.pair (shI.sl.pair Sh.unit)) fs, SC.sl (I6.pair (I6.pair Sh.unit)) ts]), (([] : Go.Eng.Gd), zM6), (([] : Go.Eng.Gd), Res.row (28 : TypeId) I6.sl (List.replicate (↑cs.length : Int).toNat [])), (([] : Go.Eng.Gd), Res.blk (31 : Nat) [SC.row (Nat.succ (0 : Nat)).succ.succ.succ, SC.row (Nat.succ (0 : Nat)).succ.succ.succ.succ, SC.row (Nat.succ (0 : Nat)).succ, nS6]), (([] : Go.Eng.Gd), Res.row (3 : TypeId) I6 (List.map (fun x => x.snd.fst) (List.take x vs))), (([] : Go.Eng.Gd), Res.row (3 : TypeId) I6 (List.replicate x_1 (-1 : I6.den) ++ [(-1 : Int)]))] = [(([] : Go.Eng.Gd), Res.blk (27 : Nat) [SC.sl (Sh.str.pair (I6.pair Sh.unit)) vs, SC.sl Sh.str ms, SC.sl Sh.str cs, SC.sl (Sh.str.pair (shI.sl.pair Sh.unit)) fs, SC.sl (I6.pair (I6.pair Sh.unit)) ts]), (([] : Go.Eng.Gd), zM6), (([] : Go.Eng.Gd), Res.row (28 : TypeId) I6.sl (List.replicate (↑cs.length : Int).toNat [])), (([] : Go.Eng.Gd), Res.blk (31 : Nat) [SC.row (Nat.succ (0 : Nat)).succ.succ.succ, SC.row (Nat.succ (0 : Nat)).succ.succ.succ.succ, SC.row (Nat.succ (0 : Nat)).succ, nS6]), (([] : Go.Eng.Gd), Res.row (3 : TypeId) I6 (List.map (fun x => x.snd.fst) (List.take x vs))), (([] : Go.Eng.Gd), Res.row (3 : TypeId) I6 (List.replicate x' (-1 : I6.den)))] ∧ ms.length - x' < ms.length - x_1) (([] : List Go.Eng.Res) = [] ∧ Ent.tup [SV.agg [SC.sl I6 (newM vs ms cs fs ts).fst.fst, SC.sl I6 (newM vs ms cs fs ts).fst.snd.fst, SC.sl I6.sl (newM vs ms cs fs ts).fst.snd.snd.fst, SC.sl I6 (newM vs ms cs fs ts).fst.snd.snd.snd.fst], SV.c (SC.v (Value.int IntKind.i64 (newM vs ms cs fs ts).snd))] = Ent.tup [SV.agg [SC.sl I6 (List.map (fun x => x.snd.fst) (List.take x vs)), SC.sl I6 (List.replicate x_1 (-1 : I6.den)), SC.sl I6.sl (List.replicate (↑cs.length : Int).toNat []), SC.sl I6 []], SV.c (SC.v (Value.int IntKind.i64 (0 : Int)))]))) := by
  have hb : vs.length ≤ 1000000 ∧ ms.length ≤ 1000000 ∧ cs.length ≤ 1000000 := ⟨hpre.1, hpre.2.1, hpre.2.2.1⟩
  obtain ⟨b1, b2, b3⟩ := hb
  unfold newM
  refine ⟨hpre, br_iff.2 ⟨fun h => ⟨rfl, ?_⟩, fun h => ?_⟩⟩
  · rw [if_neg (by simpa using h)]; rfl
  rw [if_pos (by simpa using h)]
  refine ⟨⟨by omega, by omega, InA_iff.2 (by omega)⟩, ⟨0, by omega, ⟨rfl, trivial⟩, rfl⟩, fun k hk => br_iff.2 ⟨fun g => ?_, fun g => ?_⟩⟩
  · simp only [decide_eq_true_eq] at g
    refine ⟨⟨by omega, by omega⟩, fun d hd => ⟨InA_iff.2 ?_, InR_i64.2 (by omega), k + 1, by omega, ⟨rfl, trivial⟩, ?_, by omega⟩⟩
    · simp only [List.length_map, List.length_take, List.length_cons, List.length_nil]; omega
    · have hd : vs[k]? = some d := hd
      have e : List.map (fun x : VD => x.snd.fst) (List.take (k + 1) vs) = List.map (fun x : VD => x.snd.fst) (List.take k vs) ++ [d.2.1] := by rw [List.take_add_one, hd]; simp
      rw [e]
  simp only [decide_eq_false_iff_not] at g
  rw [List.take_of_length_le (i := k) (by omega)]
  refine ⟨⟨0, by omega, ⟨rfl, trivial⟩, rfl⟩, fun j hj => br_iff.2 ⟨fun g2 => ?_, fun g2 => ?_⟩⟩
  · simp only [decide_eq_true_eq] at g2
    refine ⟨InA_iff.2 ?_, InR_i64.2 (by omega), j + 1, by omega, ⟨rfl, trivial⟩, ?_, by omega⟩
    · simp only [List.length_replicate]; omega
    · have e : List.replicate (j + 1) (-1 : Int) = List.replicate j (-1) ++ [-1] := List.replicate_succ'
      rw [show List.replicate (j + 1) (-1 : I6.den) = List.replicate j (-1) ++ [-1] from e]
  simp only [decide_eq_false_iff_not] at g2
  have ej : j = ms.length := by omega
  subst ej
  exact ⟨rfl, rfl⟩
set_option maxHeartbeats 2000000 in
set_option maxRecDepth 100000 in
theorem f13_met : Go.Eng.Met Tryd.prog cx0.gd 13 ctNew :=
  (met_all (cx := cx0) (n := 52) (cl := cl13) (il := il13) (hl := hl13) (ml := ml13) (rc := [.data shM, .keep]) (lits := []) (suf := []) (by kernel_rfl) tis_ok ⟨f44_met, trivial⟩ trivial trivial trivial Tryd.func13 (by kernel_rfl) (by kernel_rfl) rfl (by kernel_rfl) (by kernel_rfl) (by simp) fun d hd => by
    obtain ⟨⟨vs, ms, cs, fs, ts, ⟨⟩⟩, ⟨⟩⟩ := d
    exact ex_of (ann13 vs ms cs fs ts) (f13_vc vs ms cs fs ts hd) (by kernel_rfl)).met
end Go.Proofs.YtkgjfkdcnoockaaDoor
set_option linter.unusedSimpArgs false
set_option linter.unusedVariables false
set_option maxRecDepth 100000
namespace Go.Proofs.YtkgjfkdcnoockaaDoor
open Go Go.Eng

theorem ins_bad {m : MD} {i n : Int} (h : formM m = false) : insM m i n = 1 := by unfold insM; rw [if_pos h]
theorem ins_out {m : MD} {i n : Int} (h : formM m = true) (g : i < 0 ∨ n ≤ i) : insM m i n = 11 := by unfold insM; rw [if_neg (by simp [h]), if_pos g]
theorem ins_in {m : MD} {i n : Int} (h : formM m = true) (g : ¬ (i < 0 ∨ n ≤ i)) : insM m i n = 0 := by unfold insM; rw [if_neg (by simp [h]), if_neg g]
noncomputable def ownE (m : MD) (i id now : Int) : Int := if insM m i m.2.1.length = 0 then (if id < 0 then 2 else if m.2.1[i.toNat]?.getD 0 = now then 0 else 30) else insM m i m.2.1.length
theorem ownE_zero {m : MD} {i id now : Int} (h : ownE m i id now = 0) : insM m i m.2.1.length = 0 ∧ ¬ id < 0 ∧ m.2.1[i.toNat]?.getD 0 = now := by
  unfold ownE at h
  split at h
  · rename_i h0
    split at h
    · cases h
    · rename_i h1
      split at h
      · rename_i h2; exact ⟨h0, h1, h2⟩
      · cases h
  · rename_i h0; exact absurd h h0
theorem ownM_bad {m : MD} {i id frm to : Int} (h : ownE m i id frm ≠ 0) : ownM m i id frm to = (zM, ownE m i id frm) := by
  unfold ownE at h ⊢
  unfold ownM
  split
  · rename_i h0
    rw [if_pos h0] at h
    split
    · rfl
    · rename_i h1
      rw [if_neg h1] at h
      split
      · rename_i h2; rw [if_pos h2] at h; exact absurd rfl h
      · rfl
  · rfl
theorem ownM_ok {m : MD} {i id frm to : Int} (h : ownE m i id frm = 0) : ownM m i id frm to = ((m.1, m.2.1.set i.toNat to, m.2.2), 0) := by
  obtain ⟨h0, h1, h2⟩ := ownE_zero h
  unfold ownM
  rw [if_pos h0, if_neg h1, if_pos h2]

@[reducible] def cl37 : List (Nat × CT) := [(61, ctCop)]
@[reducible] def ann37 (vs : List Int) (os : List Int) (qs : List (List Int)) (sg : List Int) : Nat → Option (St → Ann) := fun k => match k with
  | 2 => some fun _ => .cut { α := Nat, pad := 4, can := [(2, .slot 3), (3, .cell 2 0), (4, .cell 2 1), (5, .cell 2 3)], slots := fun _ => [(3, .c (.own 2 0))], res := fun _ => [(2, .blk 31 [.row 3, .row 4, .v (.slice none 0 0), .row 5]), (3, .row 3 (.int .i64) (vs)), (4, .row 3 (.int .i64) (os)), (5, .row 3 (.int .i64) (sg))], inv := fun u => u = 0, meas := fun _ => 0 }
  | 3 => some fun _ => .inv { α := Nat, nilC := [(2, 2, 28, .sl (.int .i64))], slots := fun k => [(4, .c (.v (.int .i64 k)))], res := fun k => [(6, .row 28 (.sl (.int .i64)) (qs.take k))], inv := fun k => k ≤ qs.length, meas := fun k => qs.length - k }
  | _ => none
@[reducible] def il37 : List (Nat × IP) := []
@[reducible] def hl37 : List (Nat × Nat × CT) := []
@[reducible] def ml37 : List (Nat × MK) := []
set_option maxRecDepth 100000 in
theorem f37_vc (vs : List Int) (os : List Int) (qs : List (List Int)) (sg : List Int) (hpre : ctClD.pre ((vs, os, qs, sg, ()), ())) :
    ((vs.length ≤ (1000000 : Nat) ∧ (os.length ≤ (1000000 : Nat) ∧ (sg.length ≤ (1000000 : Nat) ∧ (∃ v, v = (0 : Nat) ∧ (SV.c (SC.own (2 : Nat) (0 : Nat)) = SV.c (SC.own (2 : Nat) (0 : Nat)) ∧ True) ∧ [(([] : Go.Eng.Gd), bM6 vs os qs sg), (([] : Go.Eng.Gd), zM6), (([] : Go.Eng.Gd), Res.blk (31 : Nat) [SC.row (3 : Nat), SC.row (4 : Nat), nS6, SC.row (5 : Nat)]), (([] : Go.Eng.Gd), Res.row (3 : TypeId) I6 vs), (([] : Go.Eng.Gd), Res.row (3 : TypeId) I6 os), (([] : Go.Eng.Gd), Res.row (3 : TypeId) I6 sg)] = [(([] : Go.Eng.Gd), bM6 vs os qs sg), (([] : Go.Eng.Gd), zM6), (([] : Go.Eng.Gd), Res.blk (31 : TypeId) [SC.row (3 : Nat), SC.row (4 : Nat), nS6, SC.row (5 : Nat)]), (([] : Go.Eng.Gd), Res.row (3 : TypeId) I6 vs), (([] : Go.Eng.Gd), Res.row (3 : TypeId) I6 os), (([] : Go.Eng.Gd), Res.row (3 : TypeId) I6 sg)]) ∧ ∃ v, v = (0 : Nat) ∧ (SV.c (SC.own (2 : Nat) (0 : Nat)) = SV.c (SC.own (2 : Nat) (0 : Nat)) ∧ True) ∧ [(([] : Go.Eng.Gd), bM6 vs os qs sg), (([] : Go.Eng.Gd), zM6), (([] : Go.Eng.Gd), Res.blk (31 : Nat) [SC.row (3 : Nat), SC.row (4 : Nat), nS6, SC.row (5 : Nat)]), (([] : Go.Eng.Gd), Res.row (3 : TypeId) I6 vs), (([] : Go.Eng.Gd), Res.row (3 : TypeId) I6 os), (([] : Go.Eng.Gd), Res.row (3 : TypeId) I6 sg)] = [(([] : Go.Eng.Gd), bM6 vs os qs sg), (([] : Go.Eng.Gd), zM6), (([] : Go.Eng.Gd), Res.blk (31 : TypeId) [SC.row (3 : Nat), SC.row (4 : Nat), nS6, SC.row (5 : Nat)]), (([] : Go.Eng.Gd), Res.row (3 : TypeId) I6 vs), (([] : Go.Eng.Gd), Res.row (3 : TypeId) I6 os), (([] : Go.Eng.Gd), Res.row (3 : TypeId) I6 sg)]) ∧ sg.length ≤ (1000000 : Nat) ∧ ∃ v, v = (0 : Nat) ∧ (SV.c (SC.own (2 : Nat) (0 : Nat)) = SV.c (SC.own (2 : Nat) (0 : Nat)) ∧ True) ∧ [(([] : Go.Eng.Gd), bM6 vs os qs sg), (([] : Go.Eng.Gd), zM6), (([] : Go.Eng.Gd), Res.blk (31 : Nat) [SC.row (3 : Nat), SC.row (4 : Nat), nS6, SC.row (5 : Nat)]), (([] : Go.Eng.Gd), Res.row (3 : TypeId) I6 vs), (([] : Go.Eng.Gd), Res.row (3 : TypeId) I6 os), (([] : Go.Eng.Gd), Res.row (3 : TypeId) I6 sg)] = [(([] : Go.Eng.Gd), bM6 vs os qs sg), (([] : Go.Eng.Gd), zM6), (([] : Go.Eng.Gd), Res.blk (31 : TypeId) [SC.row (3 : Nat), SC.row (4 : Nat), nS6, SC.row (5 : Nat)]), (([] : Go.Eng.Gd), Res.row (3 : TypeId) I6 vs), (([] : Go.Eng.Gd), Res.row (3 : TypeId) I6 os), (([] : Go.Eng.Gd), Res.row (3 : TypeId) I6 sg)]) ∧ os.length ≤ (1000000 : Nat) ∧ sg.length ≤ (1000000 : Nat) ∧ ∃ v, v = (0 : Nat) ∧ (SV.c (SC.own (2 : Nat) (0 : Nat)) = SV.c (SC.own (2 : Nat) (0 : Nat)) ∧ True) ∧ [(([] : Go.Eng.Gd), bM6 vs os qs sg), (([] : Go.Eng.Gd), zM6), (([] : Go.Eng.Gd), Res.blk (31 : Nat) [SC.row (3 : Nat), SC.row (4 : Nat), nS6, SC.row (5 : Nat)]), (([] : Go.Eng.Gd), Res.row (3 : TypeId) I6 vs), (([] : Go.Eng.Gd), Res.row (3 : TypeId) I6 os), (([] : Go.Eng.Gd), Res.row (3 : TypeId) I6 sg)] = [(([] : Go.Eng.Gd), bM6 vs os qs sg), (([] : Go.Eng.Gd), zM6), (([] : Go.Eng.Gd), Res.blk (31 : TypeId) [SC.row (3 : Nat), SC.row (4 : Nat), nS6, SC.row (5 : Nat)]), (([] : Go.Eng.Gd), Res.row (3 : TypeId) I6 vs), (([] : Go.Eng.Gd), Res.row (3 : TypeId) I6 os), (([] : Go.Eng.Gd), Res.row (3 : TypeId) I6 sg)]) ∧ vs.length ≤ (1000000 : Nat) ∧ os.length ≤ (1000000 : Nat) ∧ sg.length ≤ (1000000 : Nat) ∧ ∃ v, v = (0 : Nat) ∧ (SV.c (SC.own (2 : Nat) (0 : Nat)) = SV.c (SC.own (2 : Nat) (0 : Nat)) ∧ True) ∧ [(([] : Go.Eng.Gd), bM6 vs os qs sg), (([] : Go.Eng.Gd), zM6), (([] : Go.Eng.Gd), Res.blk (31 : Nat) [SC.row (3 : Nat), SC.row (4 : Nat), nS6, SC.row (5 : Nat)]), (([] : Go.Eng.Gd), Res.row (3 : TypeId) I6 vs), (([] : Go.Eng.Gd), Res.row (3 : TypeId) I6 os), (([] : Go.Eng.Gd), Res.row (3 : TypeId) I6 sg)] = [(([] : Go.Eng.Gd), bM6 vs os qs sg), (([] : Go.Eng.Gd), zM6), (([] : Go.Eng.Gd), Res.blk (31 : TypeId) [SC.row (3 : Nat), SC.row (4 : Nat), nS6, SC.row (5 : Nat)]), (([] : Go.Eng.Gd), Res.row (3 : TypeId) I6 vs), (([] : Go.Eng.Gd), Res.row (3 : TypeId) I6 os), (([] : Go.Eng.Gd), Res.row (3 : TypeId) I6 sg)]) ∧ ∀ (v : Nat), v = (0 : Nat) → (∃ x, x ≤ qs.length ∧ (SV.c (SC.v (Value.int IntKind.i64 (0 : Int))) = SV.c (SC.v (Value.int IntKind.i64 (↑x : Int))) ∧ True) ∧ [(([] : Go.Eng.Gd), bM6 vs os qs sg), (([] : Go.Eng.Gd), zM6), (([] : Go.Eng.Gd), Res.blk (31 : TypeId) [SC.row (3 : Nat), SC.row (4 : Nat), SC.row (Nat.succ (0 : Nat)).succ.succ.succ.succ.succ, SC.row (5 : Nat)]), (([] : Go.Eng.Gd), Res.row (3 : TypeId) I6 vs), (([] : Go.Eng.Gd), Res.row (3 : TypeId) I6 os), (([] : Go.Eng.Gd), Res.row (3 : TypeId) I6 sg), (([] : Go.Eng.Gd), Res.row (28 : TypeId) I6.sl [])] = [(([] : Go.Eng.Gd), bM6 vs os qs sg), (([] : Go.Eng.Gd), zM6), (([] : Go.Eng.Gd), Res.blk (31 : TypeId) [SC.row (3 : Nat), SC.row (4 : Nat), SC.row (Nat.succ (0 : Nat)).succ.succ.succ.succ.succ, SC.row (5 : Nat)]), (([] : Go.Eng.Gd), Res.row (3 : TypeId) I6 vs), (([] : Go.Eng.Gd), Res.row (3 : TypeId) I6 os), (([] : Go.Eng.Gd), Res.row (3 : TypeId) I6 sg), (([] : Go.Eng.Gd), Res.row (28 : TypeId) I6.sl (List.take x qs))]) ∧ ∀ (x : Nat), x ≤ qs.length → br (decide ((↑x : Int) < (↑qs.length : Int))) (((0 : Int) ≤ (↑x : Int) ∧ (↑x : Int) < (↑qs.length : Int)) ∧ ∀ (d : List I6.den), qs[(↑x : Int).toNat]? = some d → d.length ≤ (1000000 : Nat) ∧ InA (List.length (List.take x qs) + List.length ([d])) (24 : Nat) ∧ InR IntKind.i64 ((↑x : Int) + (1 : Int)) ∧ ∃ x', x' ≤ qs.length ∧ (SV.c (SC.v (Value.int IntKind.i64 ((↑x : Int) + (1 : Int)))) = SV.c (SC.v (Value.int IntKind.i64 (↑x' : Int))) ∧ True) ∧ [(([] : Go.Eng.Gd), bM6 vs os qs sg), (([] : Go.Eng.Gd), zM6), (([] : Go.Eng.Gd), Res.blk (31 : TypeId) [SC.row (3 : Nat), SC.row (4 : Nat), SC.row (Nat.succ (0 : Nat)).succ.succ.succ.succ.succ, SC.row (5 : Nat)]), (([] : Go.Eng.Gd), Res.row (3 : TypeId) I6 vs), (([] : Go.Eng.Gd), Res.row (3 : TypeId) I6 os), (([] : Go.Eng.Gd), Res.row (3 : TypeId) I6 sg), (([] : Go.Eng.Gd), Res.row (28 : TypeId) I6.sl (List.take x qs ++ [d]))] = [(([] : Go.Eng.Gd), bM6 vs os qs sg), (([] : Go.Eng.Gd), zM6), (([] : Go.Eng.Gd), Res.blk (31 : TypeId) [SC.row (3 : Nat), SC.row (4 : Nat), SC.row (Nat.succ (0 : Nat)).succ.succ.succ.succ.succ, SC.row (5 : Nat)]), (([] : Go.Eng.Gd), Res.row (3 : TypeId) I6 vs), (([] : Go.Eng.Gd), Res.row (3 : TypeId) I6 os), (([] : Go.Eng.Gd), Res.row (3 : TypeId) I6 sg), (([] : Go.Eng.Gd), Res.row (28 : TypeId) I6.sl (List.take x' qs))] ∧ qs.length - x' < qs.length - x) ([Res.row (3 : TypeId) I6 vs, Res.row (3 : TypeId) I6 os, Res.row (28 : TypeId) I6.sl qs, Res.row (3 : TypeId) I6 sg] = [Res.row (3 : TypeId) I6 vs, Res.row (3 : TypeId) I6 os, Res.row (28 : TypeId) I6.sl (List.take x qs), Res.row (3 : TypeId) I6 sg] ∧ Ent.one (SV.agg [SC.row (0 : Nat), SC.row (1 : Nat), SC.row (2 : Nat), SC.row (3 : Nat)]) = Ent.one (SV.agg [SC.row (0 : Nat), SC.row (Nat.succ (0 : Nat)), SC.row (Nat.succ (0 : Nat)).succ, SC.row (Nat.succ (0 : Nat)).succ.succ])) := by
  obtain ⟨b1, b2, b3, b4, b5, b6⟩ : vs.length ≤ 1000 ∧ os.length ≤ 1000 ∧ qs.length ≤ 1000 ∧ sg.length ≤ 1000 ∧ (∀ q ∈ qs, q.length ≤ 1000) ∧ qs.flatten.length ≤ 100000 := hpre
  refine ⟨?_, fun u hu => ⟨⟨0, by omega, ⟨rfl, trivial⟩, rfl⟩, fun k hk => br_iff.2 ⟨fun g => ?_, fun g => ?_⟩⟩⟩
  · repeat' first | exact ⟨0, rfl, ⟨rfl, trivial⟩, rfl⟩ | (refine And.intro ?_ ?_) | omega
  · simp only [decide_eq_true_eq] at g
    refine ⟨⟨by omega, by omega⟩, fun d hd => ⟨?_, InA_iff.2 ?_, InR_i64.2 (by omega), k + 1, by omega, ⟨rfl, trivial⟩, ?_, by omega⟩⟩
    · have := b5 d (List.mem_of_getElem? hd); omega
    · simp only [List.length_take, List.length_cons, List.length_nil]; omega
    · have hd : qs[k]? = some d := hd
      have e : qs.take (k + 1) = qs.take k ++ [d] := by rw [List.take_add_one, hd]; simp
      rw [e]
  simp only [decide_eq_false_iff_not] at g
  rw [List.take_of_length_le (i := k) (by omega)]
  exact ⟨rfl, rfl⟩
set_option maxHeartbeats 2000000 in
set_option maxRecDepth 100000 in
theorem f37_met : Go.Eng.Met Tryd.prog cx0.gd 37 ctClD :=
  (met_all (cx := cx0) (n := 34) (cl := cl37) (il := il37) (hl := hl37) (ml := ml37) (rc := []) (lits := []) (suf := []) (by kernel_rfl) tis_ok ⟨f61_met, trivial⟩ trivial trivial trivial Tryd.func37 (by kernel_rfl) (by kernel_rfl) rfl (by kernel_rfl) (by kernel_rfl) (by simp) fun d hd => by
    obtain ⟨⟨vs, os, qs, sg, ⟨⟩⟩, ⟨⟩⟩ := d
    exact ex_of (ann37 vs os qs sg) (f37_vc vs os qs sg hd) (by kernel_rfl)).met
@[reducible] noncomputable def cl27 : List (Nat × CT) := [(40, ctWf)]
@[reducible] def ann27 (vs : List Int) (os : List Int) (qs : List (List Int)) (sg : List Int) (x : Int) : Nat → Option (St → Ann) := fun _ => none
@[reducible] def il27 : List (Nat × IP) := []
@[reducible] def hl27 : List (Nat × Nat × CT) := []
@[reducible] noncomputable def ml27 : List (Nat × MK) := []
set_option maxRecDepth 100000 in
theorem f27_vc (vs : List Int) (os : List Int) (qs : List (List Int)) (sg : List Int) (x : Int) (hpre : ctRd.pre ((vs, os, qs, sg, ()), x, ())) :
    bndM (vs, os, qs, sg, ()) ∧ br (!formM (vs, os, qs, sg, ())) (([] : List Go.Eng.Res) = [] ∧ Ent.tup [SV.c (SC.v (Value.int IntKind.i64 (readM (vs, os, qs, sg, ()) x).fst)), SV.c (SC.v (Value.int IntKind.i64 (readM (vs, os, qs, sg, ()) x).snd))] = Ent.tup [SV.c (SC.v (Value.int IntKind.i64 (0 : Int))), SV.c (SC.v (Value.int IntKind.i64 (1 : Int)))]) (br (decide (x < (0 : Int)) || decide ((↑vs.length : Int) ≤ x)) (([] : List Go.Eng.Res) = [] ∧ Ent.tup [SV.c (SC.v (Value.int IntKind.i64 (readM (vs, os, qs, sg, ()) x).fst)), SV.c (SC.v (Value.int IntKind.i64 (readM (vs, os, qs, sg, ()) x).snd))] = Ent.tup [SV.c (SC.v (Value.int IntKind.i64 (0 : Int))), SV.c (SC.v (Value.int IntKind.i64 (11 : Int)))]) (((0 : Int) ≤ x ∧ x < (↑vs.length : Int)) ∧ ∀ (d : Int), vs[x.toNat]? = some d → ([] : List Go.Eng.Res) = [] ∧ Ent.tup [SV.c (SC.v (Value.int IntKind.i64 (readM (vs, os, qs, sg, ()) x).fst)), SV.c (SC.v (Value.int IntKind.i64 (readM (vs, os, qs, sg, ()) x).snd))] = Ent.tup [SV.c (SC.v (Value.int IntKind.i64 d)), SV.c (SC.v (Value.int IntKind.i64 (0 : Int)))])) := by
  unfold readM
  refine ⟨hpre, br_iff.2 ⟨fun h => ⟨rfl, ?_⟩, fun h => br_iff.2 ⟨fun g => ⟨rfl, ?_⟩, fun g => ?_⟩⟩⟩
  · rw [ins_bad (by simpa using h)]; rfl
  · rw [ins_out (by simpa using h) (by simpa using g)]; rfl
  · have g : ¬ (x < 0 ∨ (vs.length : Int) ≤ x) := by simpa using g
    refine ⟨⟨by omega, by omega⟩, fun d hd => ⟨rfl, ?_⟩⟩
    rw [ins_in (by simpa using h) g, if_pos rfl]
    simp [hd]
set_option maxHeartbeats 2000000 in
set_option maxRecDepth 100000 in
theorem f27_met : Go.Eng.Met Tryd.prog cx0.gd 27 ctRd :=
  (met_all (cx := cx0) (n := 23) (cl := cl27) (il := il27) (hl := hl27) (ml := ml27) (rc := []) (lits := []) (suf := []) (by kernel_rfl) tis_ok ⟨f40_met, trivial⟩ trivial trivial trivial Tryd.func27 (by kernel_rfl) (by kernel_rfl) rfl (by kernel_rfl) (by kernel_rfl) (by simp) fun d hd => by
    obtain ⟨⟨vs, os, qs, sg, ⟨⟩⟩, x, ⟨⟩⟩ := d
    exact ex_of (ann27 vs os qs sg x) (f27_vc vs os qs sg x hd) (by kernel_rfl)).met
@[reducible] noncomputable def cl29 : List (Nat × CT) := [(40, ctWf), (37, ctClD)]
@[reducible] def ann29 (vs : List Int) (os : List Int) (qs : List (List Int)) (sg : List Int) (x : Int) (v : Int) : Nat → Option (St → Ann) := fun _ => none
@[reducible] def il29 : List (Nat × IP) := []
@[reducible] def hl29 : List (Nat × Nat × CT) := []
@[reducible] noncomputable def ml29 : List (Nat × MK) := []
set_option maxRecDepth 100000 in
theorem f29_vc (vs : List Int) (os : List Int) (qs : List (List Int)) (sg : List Int) (x : Int) (v : Int) (hpre : ctWr.pre ((vs, os, qs, sg, ()), x, v, ())) :
    bndM (vs, os, qs, sg, ()) ∧ br (!formM (vs, os, qs, sg, ())) (([] : List Go.Eng.Res) = [] ∧ Ent.tup [SV.agg [SC.sl I6 (writeM (vs, os, qs, sg, ()) x v).fst.fst, SC.sl I6 (writeM (vs, os, qs, sg, ()) x v).fst.snd.fst, SC.sl I6.sl (writeM (vs, os, qs, sg, ()) x v).fst.snd.snd.fst, SC.sl I6 (writeM (vs, os, qs, sg, ()) x v).fst.snd.snd.snd.fst], SV.c (SC.v (Value.int IntKind.i64 (writeM (vs, os, qs, sg, ()) x v).snd))] = Ent.tup [SV.agg [SC.sl I6 [], SC.sl I6 [], SC.sl I6.sl [], SC.sl I6 []], SV.c (SC.v (Value.int IntKind.i64 (1 : Int)))]) (br (decide (x < (0 : Int)) || decide ((↑vs.length : Int) ≤ x)) (([] : List Go.Eng.Res) = [] ∧ Ent.tup [SV.agg [SC.sl I6 (writeM (vs, os, qs, sg, ()) x v).fst.fst, SC.sl I6 (writeM (vs, os, qs, sg, ()) x v).fst.snd.fst, SC.sl I6.sl (writeM (vs, os, qs, sg, ()) x v).fst.snd.snd.fst, SC.sl I6 (writeM (vs, os, qs, sg, ()) x v).fst.snd.snd.snd.fst], SV.c (SC.v (Value.int IntKind.i64 (writeM (vs, os, qs, sg, ()) x v).snd))] = Ent.tup [SV.agg [SC.sl I6 [], SC.sl I6 [], SC.sl I6.sl [], SC.sl I6 []], SV.c (SC.v (Value.int IntKind.i64 (11 : Int)))]) (br (decide (v < (-2147483648 : Int)) || decide ((2147483647 : Int) < v)) (([] : List Go.Eng.Res) = [] ∧ Ent.tup [SV.agg [SC.sl I6 (writeM (vs, os, qs, sg, ()) x v).fst.fst, SC.sl I6 (writeM (vs, os, qs, sg, ()) x v).fst.snd.fst, SC.sl I6.sl (writeM (vs, os, qs, sg, ()) x v).fst.snd.snd.fst, SC.sl I6 (writeM (vs, os, qs, sg, ()) x v).fst.snd.snd.snd.fst], SV.c (SC.v (Value.int IntKind.i64 (writeM (vs, os, qs, sg, ()) x v).snd))] = Ent.tup [SV.agg [SC.sl I6 [], SC.sl I6 [], SC.sl I6.sl [], SC.sl I6 []], SV.c (SC.v (Value.int IntKind.i64 (2 : Int)))]) (bndM (vs, os, qs, sg, ()) ∧ ((0 : Int) ≤ x ∧ x < (↑vs.length : Int)) ∧ x.toNat < vs.length ∧ ([] : List Go.Eng.Res) = [] ∧ Ent.tup [SV.agg [SC.sl I6 (writeM (vs, os, qs, sg, ()) x v).fst.fst, SC.sl I6 (writeM (vs, os, qs, sg, ()) x v).fst.snd.fst, SC.sl I6.sl (writeM (vs, os, qs, sg, ()) x v).fst.snd.snd.fst, SC.sl I6 (writeM (vs, os, qs, sg, ()) x v).fst.snd.snd.snd.fst], SV.c (SC.v (Value.int IntKind.i64 (writeM (vs, os, qs, sg, ()) x v).snd))] = Ent.tup [SV.agg [SC.sl I6 (vs.set x.toNat v), SC.sl I6 os, SC.sl I6.sl qs, SC.sl I6 sg], SV.c (SC.v (Value.int IntKind.i64 (0 : Int)))]))) := by
  unfold writeM
  have hb := hpre
  refine ⟨hpre, br_iff.2 ⟨fun h => ⟨rfl, ?_⟩, fun h => br_iff.2 ⟨fun g => ⟨rfl, ?_⟩, fun g => ?_⟩⟩⟩
  · rw [ins_bad (by simpa using h)]; rfl
  · rw [ins_out (by simpa using h) (by simpa using g)]; rfl
  · have g : ¬ (x < 0 ∨ (vs.length : Int) ≤ x) := by simpa using g
    rw [ins_in (by simpa using h) g, if_pos rfl]
    refine br_iff.2 ⟨fun g2 => ⟨rfl, ?_⟩, fun g2 => ⟨hb, ⟨by omega, by omega⟩, by omega, rfl, ?_⟩⟩
    · rw [if_neg (by rw [valS_iff]; simp at g2; omega)]; rfl
    · rw [if_pos (by rw [valS_iff]; simp at g2; omega)]
set_option maxHeartbeats 2000000 in
set_option maxRecDepth 100000 in
theorem f29_met : Go.Eng.Met Tryd.prog cx0.gd 29 ctWr :=
  (met_all (cx := cx0) (n := 38) (cl := cl29) (il := il29) (hl := hl29) (ml := ml29) (rc := [.data shM, .keep]) (lits := []) (suf := []) (by kernel_rfl) tis_ok ⟨f40_met, f37_met, trivial⟩ trivial trivial trivial Tryd.func29 (by kernel_rfl) (by kernel_rfl) rfl (by kernel_rfl) (by kernel_rfl) (by simp) fun d hd => by
    obtain ⟨⟨vs, os, qs, sg, ⟨⟩⟩, x, v, ⟨⟩⟩ := d
    exact ex_of (ann29 vs os qs sg x v) (f29_vc vs os qs sg x v hd) (by kernel_rfl)).met
@[reducible] noncomputable def cl35 : List (Nat × CT) := [(40, ctWf)]
@[reducible] def ann35 (vs : List Int) (os : List Int) (qs : List (List Int)) (sg : List Int) (i : Int) : Nat → Option (St → Ann) := fun _ => none
@[reducible] def il35 : List (Nat × IP) := []
@[reducible] def hl35 : List (Nat × Nat × CT) := []
@[reducible] noncomputable def ml35 : List (Nat × MK) := []
set_option maxRecDepth 100000 in
theorem f35_vc (vs : List Int) (os : List Int) (qs : List (List Int)) (sg : List Int) (i : Int) (hpre : ctFr.pre ((vs, os, qs, sg, ()), i, ())) :
    bndM (vs, os, qs, sg, ()) ∧ ((formM (vs, os, qs, sg, ()) && decide ((0 : Int) ≤ i) && decide (i < (↑os.length : Int))) = true → (0 : Int) ≤ i ∧ i < (↑os.length : Int)) ∧ ∀ (d : Int), ((formM (vs, os, qs, sg, ()) && decide ((0 : Int) ≤ i) && decide (i < (↑os.length : Int))) = true → os[i.toNat]? = some d) → ([] : List Go.Eng.Res) = [] ∧ Ent.one (SV.c (SC.v (Value.bool (freeM (vs, os, qs, sg, ()) i)))) = Ent.one (SV.c (SC.v (Value.bool (formM (vs, os, qs, sg, ()) && decide ((0 : Int) ≤ i) && decide (i < (↑os.length : Int)) && decide (d = (-1 : Int)))))) := by
  unfold freeM
  refine ⟨hpre, fun h => ?_, fun d hd => ⟨rfl, ?_⟩⟩
  · simp at h; omega
  · by_cases h : insM (vs, os, qs, sg, ()) i os.length = 0
    · have hx := insM_zero.1 h
      have := hd (by simp [hx])
      have e : (vs, os, qs, sg, ()).2.1[i.toNat]?.getD 0 = d := by show os[i.toNat]?.getD 0 = d; rw [this]; rfl
      rw [e]
      simp only [hx, h, decide_true, Bool.true_and]
    · have hx : ¬ (formM (vs, os, qs, sg, ()) = true ∧ 0 ≤ i ∧ i < os.length) := fun q => h (insM_zero.2 q)
      have e : (formM (vs, os, qs, sg, ()) && decide (0 ≤ i) && decide (i < (os.length : Int))) = false := by
        rw [Bool.eq_false_iff]; intro q; simp at q; exact hx ⟨q.1.1, q.1.2, q.2⟩
      rw [e]; simp [h]
set_option maxHeartbeats 2000000 in
set_option maxRecDepth 100000 in
theorem f35_met : Go.Eng.Met Tryd.prog cx0.gd 35 ctFr :=
  (met_all (cx := cx0) (n := 26) (cl := cl35) (il := il35) (hl := hl35) (ml := ml35) (rc := []) (lits := []) (suf := []) (by kernel_rfl) tis_ok ⟨f40_met, trivial⟩ trivial trivial trivial Tryd.func35 (by kernel_rfl) (by kernel_rfl) rfl (by kernel_rfl) (by kernel_rfl) (by simp) fun d hd => by
    obtain ⟨⟨vs, os, qs, sg, ⟨⟩⟩, i, ⟨⟩⟩ := d
    exact ex_of (ann35 vs os qs sg i) (f35_vc vs os qs sg i hd) (by kernel_rfl)).met
@[reducible] noncomputable def ctOwE : CT := { ps := [shM, .int .i64, .int .i64, .int .i64], pre := fun d => bndM d.1, res := fun d => ([], .one (.c (.v (.int .i64 (ownE d.1 d.2.1 d.2.2.1 d.2.2.2.1))))) }
@[reducible] noncomputable def cl59 : List (Nat × CT) := [(40, ctWf)]
@[reducible] def ann59 (vs : List Int) (os : List Int) (qs : List (List Int)) (sg : List Int) (i : Int) (id : Int) (now : Int) : Nat → Option (St → Ann) := fun _ => none
@[reducible] def il59 : List (Nat × IP) := []
@[reducible] def hl59 : List (Nat × Nat × CT) := []
@[reducible] noncomputable def ml59 : List (Nat × MK) := []
set_option maxRecDepth 100000 in
theorem f59_vc (vs : List Int) (os : List Int) (qs : List (List Int)) (sg : List Int) (i : Int) (id : Int) (now : Int) (hpre : ctOwE.pre ((vs, os, qs, sg, ()), i, id, now, ())) :
    bndM (vs, os, qs, sg, ()) ∧ br (!formM (vs, os, qs, sg, ())) (([] : List Go.Eng.Res) = [] ∧ Ent.one (SV.c (SC.v (Value.int IntKind.i64 (ownE (vs, os, qs, sg, ()) i id now)))) = Ent.one (SV.c (SC.v (Value.int IntKind.i64 (1 : Int))))) (br (decide (i < (0 : Int)) || decide ((↑os.length : Int) ≤ i)) (([] : List Go.Eng.Res) = [] ∧ Ent.one (SV.c (SC.v (Value.int IntKind.i64 (ownE (vs, os, qs, sg, ()) i id now)))) = Ent.one (SV.c (SC.v (Value.int IntKind.i64 (11 : Int))))) (br (decide (id < (0 : Int))) (([] : List Go.Eng.Res) = [] ∧ Ent.one (SV.c (SC.v (Value.int IntKind.i64 (ownE (vs, os, qs, sg, ()) i id now)))) = Ent.one (SV.c (SC.v (Value.int IntKind.i64 (2 : Int))))) (((0 : Int) ≤ i ∧ i < (↑os.length : Int)) ∧ ∀ (d : Int), os[i.toNat]? = some d → br (!decide (d = now)) (([] : List Go.Eng.Res) = [] ∧ Ent.one (SV.c (SC.v (Value.int IntKind.i64 (ownE (vs, os, qs, sg, ()) i id now)))) = Ent.one (SV.c (SC.v (Value.int IntKind.i64 (30 : Int))))) (([] : List Go.Eng.Res) = [] ∧ Ent.one (SV.c (SC.v (Value.int IntKind.i64 (ownE (vs, os, qs, sg, ()) i id now)))) = Ent.one (SV.c (SC.v (Value.int IntKind.i64 (0 : Int)))))))) := by
  unfold ownE
  refine ⟨hpre, br_iff.2 ⟨fun h => ⟨rfl, ?_⟩, fun h => br_iff.2 ⟨fun g => ⟨rfl, ?_⟩, fun g => ?_⟩⟩⟩
  · rw [ins_bad (by simpa using h)]; rfl
  · rw [ins_out (by simpa using h) (by simpa using g)]; rfl
  · have g : ¬ (i < 0 ∨ (os.length : Int) ≤ i) := by simpa using g
    rw [ins_in (by simpa using h) g, if_pos rfl]
    refine br_iff.2 ⟨fun g2 => ⟨rfl, ?_⟩, fun g2 => ⟨⟨by omega, by omega⟩, fun d hd => br_iff.2 ⟨fun g3 => ⟨rfl, ?_⟩, fun g3 => ⟨rfl, ?_⟩⟩⟩⟩
    · rw [if_pos (by simpa using g2)]
    all_goals
      rw [if_neg (by simpa using g2)]
      have e : (vs, os, qs, sg, ()).2.1[i.toNat]?.getD 0 = d := by simp [hd]
      rw [e]
    · rw [if_neg (by simpa using g3)]
    · rw [if_pos (by simpa using g3)]
set_option maxHeartbeats 2000000 in
set_option maxRecDepth 100000 in
theorem f59_met : Go.Eng.Met Tryd.prog cx0.gd 59 ctOwE :=
  (met_all (cx := cx0) (n := 30) (cl := cl59) (il := il59) (hl := hl59) (ml := ml59) (rc := []) (lits := []) (suf := []) (by kernel_rfl) tis_ok ⟨f40_met, trivial⟩ trivial trivial trivial Tryd.func59 (by kernel_rfl) (by kernel_rfl) rfl (by kernel_rfl) (by kernel_rfl) (by simp) fun d hd => by
    obtain ⟨⟨vs, os, qs, sg, ⟨⟩⟩, i, id, now, ⟨⟩⟩ := d
    exact ex_of (ann59 vs os qs sg i id now) (f59_vc vs os qs sg i id now hd) (by kernel_rfl)).met
@[reducible] noncomputable def cl31 : List (Nat × CT) := [(59, ctOwE), (37, ctClD)]
@[reducible] def ann31 (vs : List Int) (os : List Int) (qs : List (List Int)) (sg : List Int) (i : Int) (id : Int) : Nat → Option (St → Ann) := fun _ => none
@[reducible] def il31 : List (Nat × IP) := []
@[reducible] def hl31 : List (Nat × Nat × CT) := []
@[reducible] noncomputable def ml31 : List (Nat × MK) := []
set_option maxRecDepth 100000 in
theorem f31_vc (vs : List Int) (os : List Int) (qs : List (List Int)) (sg : List Int) (i : Int) (id : Int) (hpre : ctAcq.pre ((vs, os, qs, sg, ()), i, id, ())) :
    bndM (vs, os, qs, sg, ()) ∧ br (!decide (ownE (vs, os, qs, sg, ()) i id (-1 : Int) = (0 : Int))) (([] : List Go.Eng.Res) = [] ∧ Ent.tup [SV.agg [SC.sl I6 (ownM (vs, os, qs, sg, ()) i id (-1 : Int) id).fst.fst, SC.sl I6 (ownM (vs, os, qs, sg, ()) i id (-1 : Int) id).fst.snd.fst, SC.sl I6.sl (ownM (vs, os, qs, sg, ()) i id (-1 : Int) id).fst.snd.snd.fst, SC.sl I6 (ownM (vs, os, qs, sg, ()) i id (-1 : Int) id).fst.snd.snd.snd.fst], SV.c (SC.v (Value.int IntKind.i64 (ownM (vs, os, qs, sg, ()) i id (-1 : Int) id).snd))] = Ent.tup [SV.agg [SC.sl I6 [], SC.sl I6 [], SC.sl I6.sl [], SC.sl I6 []], SV.c (SC.v (Value.int IntKind.i64 (ownE (vs, os, qs, sg, ()) i id (-1 : Int))))]) (bndM (vs, os, qs, sg, ()) ∧ ((0 : Int) ≤ i ∧ i < (↑os.length : Int)) ∧ i.toNat < os.length ∧ ([] : List Go.Eng.Res) = [] ∧ Ent.tup [SV.agg [SC.sl I6 (ownM (vs, os, qs, sg, ()) i id (-1 : Int) id).fst.fst, SC.sl I6 (ownM (vs, os, qs, sg, ()) i id (-1 : Int) id).fst.snd.fst, SC.sl I6.sl (ownM (vs, os, qs, sg, ()) i id (-1 : Int) id).fst.snd.snd.fst, SC.sl I6 (ownM (vs, os, qs, sg, ()) i id (-1 : Int) id).fst.snd.snd.snd.fst], SV.c (SC.v (Value.int IntKind.i64 (ownM (vs, os, qs, sg, ()) i id (-1 : Int) id).snd))] = Ent.tup [SV.agg [SC.sl I6 vs, SC.sl I6 (os.set i.toNat id), SC.sl I6.sl qs, SC.sl I6 sg], SV.c (SC.v (Value.int IntKind.i64 (0 : Int)))]) := by
  refine ⟨hpre, br_iff.2 ⟨fun h => ⟨rfl, ?_⟩, fun h => ?_⟩⟩
  · rw [ownM_bad (by simpa using h)]; rfl
  · have h : ownE (vs, os, qs, sg, ()) i id (-1) = 0 := by simpa using h
    have hx := insM_zero.1 (ownE_zero h).1
    exact ⟨hpre, hx.2, by have := hx.2; simp at this; omega, rfl, by rw [ownM_ok h]⟩
set_option maxHeartbeats 2000000 in
set_option maxRecDepth 100000 in
theorem f31_met : Go.Eng.Met Tryd.prog cx0.gd 31 ctAcq :=
  (met_all (cx := cx0) (n := 26) (cl := cl31) (il := il31) (hl := hl31) (ml := ml31) (rc := [.data shM, .keep]) (lits := []) (suf := []) (by kernel_rfl) tis_ok ⟨f59_met, f37_met, trivial⟩ trivial trivial trivial Tryd.func31 (by kernel_rfl) (by kernel_rfl) rfl (by kernel_rfl) (by kernel_rfl) (by simp) fun d hd => by
    obtain ⟨⟨vs, os, qs, sg, ⟨⟩⟩, i, id, ⟨⟩⟩ := d
    exact ex_of (ann31 vs os qs sg i id) (f31_vc vs os qs sg i id hd) (by kernel_rfl)).met
@[reducible] noncomputable def cl33 : List (Nat × CT) := [(59, ctOwE), (37, ctClD)]
@[reducible] def ann33 (vs : List Int) (os : List Int) (qs : List (List Int)) (sg : List Int) (i : Int) (id : Int) : Nat → Option (St → Ann) := fun _ => none
@[reducible] def il33 : List (Nat × IP) := []
@[reducible] def hl33 : List (Nat × Nat × CT) := []
@[reducible] noncomputable def ml33 : List (Nat × MK) := []
set_option maxRecDepth 100000 in
theorem f33_vc (vs : List Int) (os : List Int) (qs : List (List Int)) (sg : List Int) (i : Int) (id : Int) (hpre : ctRel.pre ((vs, os, qs, sg, ()), i, id, ())) :
    bndM (vs, os, qs, sg, ()) ∧ br (!decide (ownE (vs, os, qs, sg, ()) i id id = (0 : Int))) (([] : List Go.Eng.Res) = [] ∧ Ent.tup [SV.agg [SC.sl I6 (ownM (vs, os, qs, sg, ()) i id id (-1 : Int)).fst.fst, SC.sl I6 (ownM (vs, os, qs, sg, ()) i id id (-1 : Int)).fst.snd.fst, SC.sl I6.sl (ownM (vs, os, qs, sg, ()) i id id (-1 : Int)).fst.snd.snd.fst, SC.sl I6 (ownM (vs, os, qs, sg, ()) i id id (-1 : Int)).fst.snd.snd.snd.fst], SV.c (SC.v (Value.int IntKind.i64 (ownM (vs, os, qs, sg, ()) i id id (-1 : Int)).snd))] = Ent.tup [SV.agg [SC.sl I6 [], SC.sl I6 [], SC.sl I6.sl [], SC.sl I6 []], SV.c (SC.v (Value.int IntKind.i64 (ownE (vs, os, qs, sg, ()) i id id)))]) (bndM (vs, os, qs, sg, ()) ∧ ((0 : Int) ≤ i ∧ i < (↑os.length : Int)) ∧ i.toNat < os.length ∧ ([] : List Go.Eng.Res) = [] ∧ Ent.tup [SV.agg [SC.sl I6 (ownM (vs, os, qs, sg, ()) i id id (-1 : Int)).fst.fst, SC.sl I6 (ownM (vs, os, qs, sg, ()) i id id (-1 : Int)).fst.snd.fst, SC.sl I6.sl (ownM (vs, os, qs, sg, ()) i id id (-1 : Int)).fst.snd.snd.fst, SC.sl I6 (ownM (vs, os, qs, sg, ()) i id id (-1 : Int)).fst.snd.snd.snd.fst], SV.c (SC.v (Value.int IntKind.i64 (ownM (vs, os, qs, sg, ()) i id id (-1 : Int)).snd))] = Ent.tup [SV.agg [SC.sl I6 vs, SC.sl I6 (os.set i.toNat (-1 : Int)), SC.sl I6.sl qs, SC.sl I6 sg], SV.c (SC.v (Value.int IntKind.i64 (0 : Int)))]) := by
  refine ⟨hpre, br_iff.2 ⟨fun h => ⟨rfl, ?_⟩, fun h => ?_⟩⟩
  · rw [ownM_bad (by simpa using h)]; rfl
  · have h : ownE (vs, os, qs, sg, ()) i id id = 0 := by simpa using h
    have hx := insM_zero.1 (ownE_zero h).1
    exact ⟨hpre, hx.2, by have := hx.2; simp at this; omega, rfl, by rw [ownM_ok h]⟩
set_option maxHeartbeats 2000000 in
set_option maxRecDepth 100000 in
theorem f33_met : Go.Eng.Met Tryd.prog cx0.gd 33 ctRel :=
  (met_all (cx := cx0) (n := 26) (cl := cl33) (il := il33) (hl := hl33) (ml := ml33) (rc := [.data shM, .keep]) (lits := []) (suf := []) (by kernel_rfl) tis_ok ⟨f59_met, f37_met, trivial⟩ trivial trivial trivial Tryd.func33 (by kernel_rfl) (by kernel_rfl) rfl (by kernel_rfl) (by kernel_rfl) (by simp) fun d hd => by
    obtain ⟨⟨vs, os, qs, sg, ⟨⟩⟩, i, id, ⟨⟩⟩ := d
    exact ex_of (ann33 vs os qs sg i id) (f33_vc vs os qs sg i id hd) (by kernel_rfl)).met
end Go.Proofs.YtkgjfkdcnoockaaDoor
set_option linter.unusedSimpArgs false
set_option linter.unusedVariables false
set_option maxRecDepth 100000
namespace Go.Proofs.YtkgjfkdcnoockaaDoor
open Go Go.Eng

def oneP : PD := ([(⟨#[120]⟩, 4, ())], [⟨#[109]⟩], [⟨#[99]⟩], [(⟨#[102]⟩, [], ())], [(0, 0, ())], ())
def fewM (m : MD) : Bool := decide (m.1.length ≤ 20) && decide (m.2.1.length ≤ 20) && decide (m.2.2.1.length ≤ 20) && decide (m.2.2.2.1.length ≤ 60) && m.2.2.1.all (fun q => decide (q.length ≤ 60))
@[reducible] def ctFew : CT := { ps := [shM], pre := fun d => True, res := fun d => ([], vB (fewM d.1)) }
@[reducible] def cl11 : List (Nat × CT) := []
@[reducible] def ann11 (vs : List Int) (os : List Int) (qs : List (List Int)) (sg : List Int) : Nat → Option (St → Ann) := fun k => match k with
  | 4 => some fun _ => .inv { α := Nat, slots := fun k => [(30, .c (.v (.int .i64 k)))], res := fun k => [], inv := fun k => k ≤ (qs).length ∧ ∀ j < k, ∀ q, qs[j]? = some q → q.length ≤ 60, meas := fun k => (qs).length - k }
  | _ => none
@[reducible] def il11 : List (Nat × IP) := []
@[reducible] def hl11 : List (Nat × Nat × CT) := []
@[reducible] def ml11 : List (Nat × MK) := []
set_option maxRecDepth 100000 in
theorem f11_vc (vs : List Int) (os : List Int) (qs : List (List Int)) (sg : List Int) :
    br (decide ((20 : Int) < (↑vs.length : Int)) || decide ((20 : Int) < (↑os.length : Int)) || decide ((20 : Int) < (↑qs.length : Int)) || decide ((60 : Int) < (↑sg.length : Int))) (([] : List Go.Eng.Res) = [] ∧ Ent.one (SV.c (SC.v (Value.bool (fewM (vs, os, qs, sg, ()))))) = Ent.one (SV.c (SC.v (Value.bool false)))) ((∃ x, (x ≤ qs.length ∧ ∀ (j : Nat), j < x → ∀ (q : List Int), qs[j]? = some q → q.length ≤ (60 : Nat)) ∧ (SV.c (SC.v (Value.int IntKind.i64 (0 : Int))) = SV.c (SC.v (Value.int IntKind.i64 (↑x : Int))) ∧ True) ∧ [(([] : Go.Eng.Gd), bM6 vs os qs sg)] = [(([] : Go.Eng.Gd), bM6 vs os qs sg)]) ∧ ∀ (x : Nat), (x ≤ qs.length ∧ ∀ (j : Nat), j < x → ∀ (q : List Int), qs[j]? = some q → q.length ≤ (60 : Nat)) → br (decide ((↑x : Int) < (↑qs.length : Int))) (((0 : Int) ≤ (↑x : Int) ∧ (↑x : Int) < (↑qs.length : Int)) ∧ ∀ (d : List I6.den), qs[(↑x : Int).toNat]? = some d → br (decide ((60 : Int) < (↑d.length : Int))) (([] : List Go.Eng.Res) = [] ∧ Ent.one (SV.c (SC.v (Value.bool (fewM (vs, os, qs, sg, ()))))) = Ent.one (SV.c (SC.v (Value.bool false)))) (InR IntKind.i64 ((↑x : Int) + (1 : Int)) ∧ ∃ x', (x' ≤ qs.length ∧ ∀ (j : Nat), j < x' → ∀ (q : List Int), qs[j]? = some q → q.length ≤ (60 : Nat)) ∧ (SV.c (SC.v (Value.int IntKind.i64 ((↑x : Int) + (1 : Int)))) = SV.c (SC.v (Value.int IntKind.i64 (↑x' : Int))) ∧ True) ∧ [(([] : Go.Eng.Gd), bM6 vs os qs sg)] = [(([] : Go.Eng.Gd), bM6 vs os qs sg)] ∧ qs.length - x' < qs.length - x)) (([] : List Go.Eng.Res) = [] ∧ Ent.one (SV.c (SC.v (Value.bool (fewM (vs, os, qs, sg, ()))))) = Ent.one (SV.c (SC.v (Value.bool true))))) := by
  refine br_iff.2 ⟨fun h => ⟨rfl, ?_⟩, fun h => ?_⟩
  · have e : fewM (vs, os, qs, sg, ()) = false := by
      unfold fewM
      rw [Bool.eq_false_iff]; intro q; simp at q h; omega
    rw [e]
  simp only [Bool.or_eq_false_iff, decide_eq_false_iff_not] at h
  refine ⟨⟨0, ⟨by omega, fun j hj => by omega⟩, ⟨rfl, trivial⟩, rfl⟩, fun k hk => br_iff.2 ⟨fun g => ?_, fun g => ?_⟩⟩
  · simp only [decide_eq_true_eq] at g
    refine ⟨⟨by omega, by omega⟩, fun d hd => br_iff.2 ⟨fun g2 => ⟨rfl, ?_⟩, fun g2 => ⟨InR_i64.2 (by omega), k + 1, ⟨by omega, fun j hj q hq => ?_⟩, ⟨rfl, trivial⟩, rfl, by omega⟩⟩⟩
    · have e : fewM (vs, os, qs, sg, ()) = false := by
        unfold fewM
        rw [Bool.eq_false_iff]; intro q
        simp only [Bool.and_eq_true, List.all_eq_true, decide_eq_true_eq] at q g2
        have := q.2 d (List.mem_of_getElem? hd)
        omega
      rw [e]
    · by_cases hjk : j = k
      · subst hjk
        have hd : qs[j]? = some d := hd
        rw [hd] at hq; cases hq
        simp at g2; omega
      · exact hk.2 j (by omega) q hq
  simp only [decide_eq_false_iff_not] at g
  have e : fewM (vs, os, qs, sg, ()) = true := by
    unfold fewM
    simp only [Bool.and_eq_true, List.all_eq_true, decide_eq_true_eq]
    refine ⟨⟨⟨⟨by omega, by omega⟩, by omega⟩, by omega⟩, fun q hq => ?_⟩
    obtain ⟨j, hj⟩ := List.getElem?_of_mem hq
    exact hk.2 j (by have := (List.getElem?_eq_some_iff.1 hj).1; omega) q hj
  exact ⟨rfl, by rw [e]⟩
set_option maxHeartbeats 2000000 in
set_option maxRecDepth 100000 in
theorem f11_met : Go.Eng.Met Tryd.prog cx0.gd 11 ctFew :=
  (met_all (cx := cx0) (n := 38) (cl := cl11) (il := il11) (hl := hl11) (ml := ml11) (rc := []) (lits := []) (suf := []) (by kernel_rfl) tis_ok trivial trivial trivial trivial Tryd.func11 (by kernel_rfl) (by kernel_rfl) rfl (by kernel_rfl) (by kernel_rfl) (by simp) fun d hd => by
    obtain ⟨⟨vs, os, qs, sg, ⟨⟩⟩, ⟨⟩⟩ := d
    exact ex_of (ann11 vs os qs sg) (f11_vc vs os qs sg) (by kernel_rfl)).met
@[reducible] def ctOne : CT := { ps := [], pre := fun d => True, res := fun d => ([], .one (ofDat shP oneP)) }
@[reducible] def cl43 : List (Nat × CT) := []
@[reducible] def ann43  : Nat → Option (St → Ann) := fun _ => none
@[reducible] def il43 : List (Nat × IP) := []
@[reducible] def hl43 : List (Nat × Nat × CT) := []
@[reducible] def ml43 : List (Nat × MK) := []
set_option maxRecDepth 100000 in
theorem f43_vc  :
    ([] : List Go.Eng.Res) = [] ∧ Ent.one (SV.agg [SC.sl (Sh.str.pair (I6.pair Sh.unit)) [({ data := #[(120 : UInt8)] : ByteArray }, (4 : Int), ())], SC.sl Sh.str [{ data := #[(109 : UInt8)] : ByteArray }], SC.sl Sh.str [{ data := #[(99 : UInt8)] : ByteArray }], SC.sl (Sh.str.pair (shI.sl.pair Sh.unit)) [({ data := #[(102 : UInt8)] : ByteArray }, [], ())], SC.sl (I6.pair (I6.pair Sh.unit)) [((0 : Int), (0 : Int), ())]]) = Ent.one (SV.agg [SC.sl (Sh.str.pair (I6.pair Sh.unit)) [({ data := #[(120 : UInt8)] : ByteArray }, (4 : Int), ())], SC.sl Sh.str [{ data := #[(109 : UInt8)] : ByteArray }], SC.sl Sh.str [{ data := #[(99 : UInt8)] : ByteArray }], SC.sl (Sh.str.pair (shI.sl.pair Sh.unit)) [({ data := #[(102 : UInt8)] : ByteArray }, [], ())], SC.sl (I6.pair (I6.pair Sh.unit)) [((0 : Int), (0 : Int), ())]]) := by
  exact ⟨rfl, rfl⟩
set_option maxHeartbeats 2000000 in
set_option maxRecDepth 100000 in
theorem f43_met : Go.Eng.Met Tryd.prog cx0.gd 43 ctOne :=
  (met_all (cx := cx0) (n := 10) (cl := cl43) (il := il43) (hl := hl43) (ml := ml43) (rc := [.data shP]) (lits := []) (suf := []) (by kernel_rfl) tis_ok trivial trivial trivial trivial Tryd.func43 (by kernel_rfl) (by kernel_rfl) rfl (by kernel_rfl) (by kernel_rfl) (by simp) fun d hd => by
    obtain ⟨⟩ := d
    exact ex_of (ann43 ) (f43_vc ) (by kernel_rfl)).met
theorem fm0 : formM (([4], [-1], [[]], [], ()) : MD) = true := formM_iff.2 ⟨by decide, by decide, by decide, validI_iff.1 (by decide), by decide, by decide, by decide, by decide⟩
theorem bd0 : bndM (([4], [-1], [[]], [], ()) : MD) := ⟨by decide, by decide, by decide, by decide, by decide, by decide⟩
theorem fm1 : formM (([4], [-1], [[3]], [], ()) : MD) = true := formM_iff.2 ⟨by decide, by decide, by decide, validI_iff.1 (by decide), by decide, by decide, by decide, by decide⟩
theorem bd1 : bndM (([4], [-1], [[3]], [], ()) : MD) := ⟨by decide, by decide, by decide, by decide, by decide, by decide⟩
theorem fm2 : formM (([4], [-1], [[3, 1]], [], ()) : MD) = true := formM_iff.2 ⟨by decide, by decide, by decide, validI_iff.1 (by decide), by decide, by decide, by decide, by decide⟩
theorem bd2 : bndM (([4], [-1], [[3, 1]], [], ()) : MD) := ⟨by decide, by decide, by decide, by decide, by decide, by decide⟩
theorem fm3 : formM (([4], [-1], [[1]], [3], ()) : MD) = true := formM_iff.2 ⟨by decide, by decide, by decide, validI_iff.1 (by decide), by decide, by decide, by decide, by decide⟩
theorem bd3 : bndM (([4], [-1], [[1]], [3], ()) : MD) := ⟨by decide, by decide, by decide, by decide, by decide, by decide⟩
theorem fm4 : formM (([4], [-1], [[1]], [], ()) : MD) = true := formM_iff.2 ⟨by decide, by decide, by decide, validI_iff.1 (by decide), by decide, by decide, by decide, by decide⟩
theorem bd4 : bndM (([4], [-1], [[1]], [], ()) : MD) := ⟨by decide, by decide, by decide, by decide, by decide, by decide⟩
theorem ex1 : enqM (([4], [-1], [[]], [], ()) : MD) 0 3 = ((([4], [-1], [[3]], [], ()) : MD), 0) := by
  unfold enqM
  rw [ins_in fm0 (by decide), if_pos rfl, if_neg (by decide), if_neg (by decide)]; rfl
theorem ex2 : enqM (([4], [-1], [[3]], [], ()) : MD) 0 1 = ((([4], [-1], [[3, 1]], [], ()) : MD), 0) := by
  unfold enqM
  rw [ins_in fm1 (by decide), if_pos rfl, if_neg (by decide), if_neg (by decide)]; rfl
theorem ex3 : wkM (([4], [-1], [[3, 1]], [], ()) : MD) 0 1 = ((([4], [-1], [[1]], [3], ()) : MD), 1, 0) := by
  unfold wkM
  rw [ins_in fm2 (by decide), if_pos rfl]; rfl
theorem ex4 : wakeM (([4], [-1], [[1]], [3], ()) : MD) 1 = (zM, 30) := by
  unfold wakeM
  rw [fm3, if_neg (by decide), if_pos (by decide)]
theorem ex5 : wakeM (([4], [-1], [[1]], [3], ()) : MD) 3 = ((([4], [-1], [[1]], [], ()) : MD), 0) := by
  unfold wakeM
  rw [fm3, if_neg (by decide), if_neg (by decide)]; rfl
theorem ex6 : readM (([4], [-1], [[1]], [], ()) : MD) 0 = (4, 0) := by
  unfold readM
  rw [ins_in fm4 (by decide), if_pos rfl]; rfl
theorem ex7 : freeM (([4], [-1], [[1]], [], ()) : MD) 0 = true := by
  unfold freeM
  rw [ins_in fm4 (by decide)]; rfl
@[reducible] def ctExa : CT := { ps := [], pre := fun d => True, res := fun d => ([], vB (true)) }
@[reducible] noncomputable def cl12 : List (Nat × CT) := [(43, ctOne), (13, ctNew), (18, ctEnq), (20, ctSig), (24, ctWke), (26, ctRd), (34, ctFr), (41, ct13)]
@[reducible] def ann12  : Nat → Option (St → Ann) := fun k => match k with
  | 2 => some fun _ => .cut { α := Nat, pad := 1, can := [(0, .slot 1)], slots := fun _ => [(1, .c (.own 0 0)), (2, .c (.v (.int .i64 0)))], res := fun _ => [(0, .blk 31 [.sl (.int .i64) [4], .sl (.int .i64) [-1], .sl (.sl (.int .i64)) [[]], .sl (.int .i64) []])], inv := fun u => u = 0, meas := fun _ => 0 }
  | 3 => some fun _ => .cut { α := Nat, pad := 1, can := [(1, .slot 3)], slots := fun _ => [(3, .c (.own 1 0)), (4, .c (.v (.int .i64 0)))], res := fun _ => [(1, .blk 31 [.sl (.int .i64) [4], .sl (.int .i64) [-1], .sl (.sl (.int .i64)) [[3]], .sl (.int .i64) []])], inv := fun u => u = 0, meas := fun _ => 0 }
  | 4 => some fun _ => .cut { α := Nat, pad := 1, can := [(2, .slot 5)], slots := fun _ => [(5, .c (.own 2 0)), (6, .c (.v (.int .i64 0)))], res := fun _ => [(2, .blk 31 [.sl (.int .i64) [4], .sl (.int .i64) [-1], .sl (.sl (.int .i64)) [[3, 1]], .sl (.int .i64) []])], inv := fun u => u = 0, meas := fun _ => 0 }
  | 5 => some fun _ => .cut { α := Nat, pad := 1, can := [(3, .slot 7)], slots := fun _ => [(7, .c (.own 3 0)), (8, .c (.v (.int .i64 1))), (9, .c (.v (.int .i64 0)))], res := fun _ => [(3, .blk 31 [.sl (.int .i64) [4], .sl (.int .i64) [-1], .sl (.sl (.int .i64)) [[1]], .sl (.int .i64) [3]])], inv := fun u => u = 0, meas := fun _ => 0 }
  | 6 => some fun _ => .cut { α := Nat, pad := 1, can := [(4, .slot 10)], slots := fun _ => [(10, .c (.own 4 0)), (11, .c (.v (.int .i64 30)))], res := fun _ => [(4, .blk 31 [.sl (.int .i64) [], .sl (.int .i64) [], .sl (.sl (.int .i64)) [], .sl (.int .i64) []])], inv := fun u => u = 0, meas := fun _ => 0 }
  | 7 => some fun _ => .cut { α := Nat, pad := 1, can := [(5, .slot 12)], slots := fun _ => [(12, .c (.own 5 0)), (13, .c (.v (.int .i64 0)))], res := fun _ => [(5, .blk 31 [.sl (.int .i64) [4], .sl (.int .i64) [-1], .sl (.sl (.int .i64)) [[1]], .sl (.int .i64) []])], inv := fun u => u = 0, meas := fun _ => 0 }
  | 10 => some fun _ => .cut { α := MD, slots := fun _ => [(14, .c (.v (.int .i64 4))), (15, .c (.v (.int .i64 0)))], res := fun u => [(5, .blk 31 [.sl (.int .i64) u.1, .sl (.int .i64) u.2.1, .sl (.sl (.int .i64)) u.2.2.1, .sl (.int .i64) u.2.2.2.1])], inv := fun u => u = ([4], [-1], [[1]], [], ()), meas := fun _ => 0 }
  | _ => none
@[reducible] def il12 : List (Nat × IP) := []
@[reducible] def hl12 : List (Nat × Nat × CT) := []
@[reducible] noncomputable def ml12 : List (Nat × MK) := []
set_option maxRecDepth 100000 in
theorem f12_vc  :
    (True ∧ ((1 : Nat) ≤ (1000000 : Nat) ∧ (1 : Nat) ≤ (1000000 : Nat) ∧ (1 : Nat) ≤ (1000000 : Nat) ∧ (1 : Nat) ≤ (1000000 : Nat) ∧ (1 : Nat) ≤ (1000000 : Nat) ∧ (∀ (x : Sh.str.den × (shI.sl.pair Sh.unit).den), x ∈ [({ data := #[(102 : UInt8)] : ByteArray }, [], ())] → List.length x.snd.fst ≤ (1000000 : Nat)) ∧ (0 : Nat) ≤ (1000000 : Nat)) ∧ ∃ v, v = (0 : Nat) ∧ (SV.c (SC.own (0 : Nat) (0 : Nat)) = SV.c (SC.own (0 : Nat) (0 : Nat)) ∧ SV.c (SC.v (Value.int IntKind.i64 (0 : Int))) = SV.c (SC.v (Value.int IntKind.i64 (0 : Int))) ∧ True) ∧ [(([] : Go.Eng.Gd), Res.blk (31 : Nat) [SC.sl I6 (List.map (fun x => x.snd.fst) [({ data := #[(120 : UInt8)] : ByteArray }, (4 : Int), ())]), SC.sl I6 (List.replicate (1 : Nat) (-1 : Int)), SC.sl I6.sl (List.replicate (1 : Nat) []), SC.sl I6 []])] = [(([] : Go.Eng.Gd), Res.blk (31 : TypeId) [SC.sl I6 [(4 : I6.den)], SC.sl I6 [(-1 : I6.den)], SC.sl I6.sl [[]], SC.sl I6 []])]) ∧ ∀ (v : Nat), v = (0 : Nat) → (bndM ([(4 : I6.den)], [(-1 : I6.den)], [[]], [], ()) ∧ ∃ v, v = (0 : Nat) ∧ (SV.c (SC.own (1 : Nat) (0 : Nat)) = SV.c (SC.own (1 : Nat) (0 : Nat)) ∧ SV.c (SC.v (Value.int IntKind.i64 (enqM ([(4 : I6.den)], [(-1 : I6.den)], [[]], [], ()) (0 : Int) (3 : Int)).snd)) = SV.c (SC.v (Value.int IntKind.i64 (0 : Int))) ∧ True) ∧ [(([] : Go.Eng.Gd), Res.blk (31 : TypeId) [SC.sl I6 [(4 : I6.den)], SC.sl I6 [(-1 : I6.den)], SC.sl I6.sl [[]], SC.sl I6 []]), (([] : Go.Eng.Gd), Res.blk (31 : Nat) [SC.sl I6 (enqM ([(4 : I6.den)], [(-1 : I6.den)], [[]], [], ()) (0 : Int) (3 : Int)).fst.fst, SC.sl I6 (enqM ([(4 : I6.den)], [(-1 : I6.den)], [[]], [], ()) (0 : Int) (3 : Int)).fst.snd.fst, SC.sl I6.sl (enqM ([(4 : I6.den)], [(-1 : I6.den)], [[]], [], ()) (0 : Int) (3 : Int)).fst.snd.snd.fst, SC.sl I6 (enqM ([(4 : I6.den)], [(-1 : I6.den)], [[]], [], ()) (0 : Int) (3 : Int)).fst.snd.snd.snd.fst])] = [(([] : Go.Eng.Gd), Res.blk (31 : TypeId) [SC.sl I6 [(4 : I6.den)], SC.sl I6 [(-1 : I6.den)], SC.sl I6.sl [[]], SC.sl I6 []]), (([] : Go.Eng.Gd), Res.blk (31 : TypeId) [SC.sl I6 [(4 : I6.den)], SC.sl I6 [(-1 : I6.den)], SC.sl I6.sl [[(3 : I6.den)]], SC.sl I6 []])]) ∧ ∀ (v : Nat), v = (0 : Nat) → (bndM ([(4 : I6.den)], [(-1 : I6.den)], [[(3 : I6.den)]], [], ()) ∧ ∃ v, v = (0 : Nat) ∧ (SV.c (SC.own (2 : Nat) (0 : Nat)) = SV.c (SC.own (2 : Nat) (0 : Nat)) ∧ SV.c (SC.v (Value.int IntKind.i64 (enqM ([(4 : I6.den)], [(-1 : I6.den)], [[(3 : I6.den)]], [], ()) (0 : Int) (1 : Int)).snd)) = SV.c (SC.v (Value.int IntKind.i64 (0 : Int))) ∧ True) ∧ [(([] : Go.Eng.Gd), Res.blk (31 : TypeId) [SC.sl I6 [(4 : I6.den)], SC.sl I6 [(-1 : I6.den)], SC.sl I6.sl [[]], SC.sl I6 []]), (([] : Go.Eng.Gd), Res.blk (31 : TypeId) [SC.sl I6 [(4 : I6.den)], SC.sl I6 [(-1 : I6.den)], SC.sl I6.sl [[(3 : I6.den)]], SC.sl I6 []]), (([] : Go.Eng.Gd), Res.blk (31 : Nat) [SC.sl I6 (enqM ([(4 : I6.den)], [(-1 : I6.den)], [[(3 : I6.den)]], [], ()) (0 : Int) (1 : Int)).fst.fst, SC.sl I6 (enqM ([(4 : I6.den)], [(-1 : I6.den)], [[(3 : I6.den)]], [], ()) (0 : Int) (1 : Int)).fst.snd.fst, SC.sl I6.sl (enqM ([(4 : I6.den)], [(-1 : I6.den)], [[(3 : I6.den)]], [], ()) (0 : Int) (1 : Int)).fst.snd.snd.fst, SC.sl I6 (enqM ([(4 : I6.den)], [(-1 : I6.den)], [[(3 : I6.den)]], [], ()) (0 : Int) (1 : Int)).fst.snd.snd.snd.fst])] = [(([] : Go.Eng.Gd), Res.blk (31 : TypeId) [SC.sl I6 [(4 : I6.den)], SC.sl I6 [(-1 : I6.den)], SC.sl I6.sl [[]], SC.sl I6 []]), (([] : Go.Eng.Gd), Res.blk (31 : TypeId) [SC.sl I6 [(4 : I6.den)], SC.sl I6 [(-1 : I6.den)], SC.sl I6.sl [[(3 : I6.den)]], SC.sl I6 []]), (([] : Go.Eng.Gd), Res.blk (31 : TypeId) [SC.sl I6 [(4 : I6.den)], SC.sl I6 [(-1 : I6.den)], SC.sl I6.sl [[(3 : I6.den), (1 : I6.den)]], SC.sl I6 []])]) ∧ ∀ (v : Nat), v = (0 : Nat) → (bndM ([(4 : I6.den)], [(-1 : I6.den)], [[(3 : I6.den), (1 : I6.den)]], [], ()) ∧ ∃ v, v = (0 : Nat) ∧ (SV.c (SC.own (3 : Nat) (0 : Nat)) = SV.c (SC.own (3 : Nat) (0 : Nat)) ∧ SV.c (SC.v (Value.int IntKind.i64 (wkM ([(4 : I6.den)], [(-1 : I6.den)], [[(3 : I6.den), (1 : I6.den)]], [], ()) (0 : Int) (1 : Int)).snd.fst)) = SV.c (SC.v (Value.int IntKind.i64 (1 : Int))) ∧ SV.c (SC.v (Value.int IntKind.i64 (wkM ([(4 : I6.den)], [(-1 : I6.den)], [[(3 : I6.den), (1 : I6.den)]], [], ()) (0 : Int) (1 : Int)).snd.snd)) = SV.c (SC.v (Value.int IntKind.i64 (0 : Int))) ∧ True) ∧ [(([] : Go.Eng.Gd), Res.blk (31 : TypeId) [SC.sl I6 [(4 : I6.den)], SC.sl I6 [(-1 : I6.den)], SC.sl I6.sl [[]], SC.sl I6 []]), (([] : Go.Eng.Gd), Res.blk (31 : TypeId) [SC.sl I6 [(4 : I6.den)], SC.sl I6 [(-1 : I6.den)], SC.sl I6.sl [[(3 : I6.den)]], SC.sl I6 []]), (([] : Go.Eng.Gd), Res.blk (31 : TypeId) [SC.sl I6 [(4 : I6.den)], SC.sl I6 [(-1 : I6.den)], SC.sl I6.sl [[(3 : I6.den), (1 : I6.den)]], SC.sl I6 []]), (([] : Go.Eng.Gd), Res.blk (31 : Nat) [SC.sl I6 (wkM ([(4 : I6.den)], [(-1 : I6.den)], [[(3 : I6.den), (1 : I6.den)]], [], ()) (0 : Int) (1 : Int)).fst.fst, SC.sl I6 (wkM ([(4 : I6.den)], [(-1 : I6.den)], [[(3 : I6.den), (1 : I6.den)]], [], ()) (0 : Int) (1 : Int)).fst.snd.fst, SC.sl I6.sl (wkM ([(4 : I6.den)], [(-1 : I6.den)], [[(3 : I6.den), (1 : I6.den)]], [], ()) (0 : Int) (1 : Int)).fst.snd.snd.fst, SC.sl I6 (wkM ([(4 : I6.den)], [(-1 : I6.den)], [[(3 : I6.den), (1 : I6.den)]], [], ()) (0 : Int) (1 : Int)).fst.snd.snd.snd.fst])] = [(([] : Go.Eng.Gd), Res.blk (31 : TypeId) [SC.sl I6 [(4 : I6.den)], SC.sl I6 [(-1 : I6.den)], SC.sl I6.sl [[]], SC.sl I6 []]), (([] : Go.Eng.Gd), Res.blk (31 : TypeId) [SC.sl I6 [(4 : I6.den)], SC.sl I6 [(-1 : I6.den)], SC.sl I6.sl [[(3 : I6.den)]], SC.sl I6 []]), (([] : Go.Eng.Gd), Res.blk (31 : TypeId) [SC.sl I6 [(4 : I6.den)], SC.sl I6 [(-1 : I6.den)], SC.sl I6.sl [[(3 : I6.den), (1 : I6.den)]], SC.sl I6 []]), (([] : Go.Eng.Gd), Res.blk (31 : TypeId) [SC.sl I6 [(4 : I6.den)], SC.sl I6 [(-1 : I6.den)], SC.sl I6.sl [[(1 : I6.den)]], SC.sl I6 [(3 : I6.den)]])]) ∧ ∀ (v : Nat), v = (0 : Nat) → (bndM ([(4 : I6.den)], [(-1 : I6.den)], [[(1 : I6.den)]], [(3 : I6.den)], ()) ∧ ∃ v, v = (0 : Nat) ∧ (SV.c (SC.own (4 : Nat) (0 : Nat)) = SV.c (SC.own (4 : Nat) (0 : Nat)) ∧ SV.c (SC.v (Value.int IntKind.i64 (wakeM ([(4 : I6.den)], [(-1 : I6.den)], [[(1 : I6.den)]], [(3 : I6.den)], ()) (1 : Int)).snd)) = SV.c (SC.v (Value.int IntKind.i64 (30 : Int))) ∧ True) ∧ [(([] : Go.Eng.Gd), Res.blk (31 : TypeId) [SC.sl I6 [(4 : I6.den)], SC.sl I6 [(-1 : I6.den)], SC.sl I6.sl [[]], SC.sl I6 []]), (([] : Go.Eng.Gd), Res.blk (31 : TypeId) [SC.sl I6 [(4 : I6.den)], SC.sl I6 [(-1 : I6.den)], SC.sl I6.sl [[(3 : I6.den)]], SC.sl I6 []]), (([] : Go.Eng.Gd), Res.blk (31 : TypeId) [SC.sl I6 [(4 : I6.den)], SC.sl I6 [(-1 : I6.den)], SC.sl I6.sl [[(3 : I6.den), (1 : I6.den)]], SC.sl I6 []]), (([] : Go.Eng.Gd), Res.blk (31 : TypeId) [SC.sl I6 [(4 : I6.den)], SC.sl I6 [(-1 : I6.den)], SC.sl I6.sl [[(1 : I6.den)]], SC.sl I6 [(3 : I6.den)]]), (([] : Go.Eng.Gd), Res.blk (31 : Nat) [SC.sl I6 (wakeM ([(4 : I6.den)], [(-1 : I6.den)], [[(1 : I6.den)]], [(3 : I6.den)], ()) (1 : Int)).fst.fst, SC.sl I6 (wakeM ([(4 : I6.den)], [(-1 : I6.den)], [[(1 : I6.den)]], [(3 : I6.den)], ()) (1 : Int)).fst.snd.fst, SC.sl I6.sl (wakeM ([(4 : I6.den)], [(-1 : I6.den)], [[(1 : I6.den)]], [(3 : I6.den)], ()) (1 : Int)).fst.snd.snd.fst, SC.sl I6 (wakeM ([(4 : I6.den)], [(-1 : I6.den)], [[(1 : I6.den)]], [(3 : I6.den)], ()) (1 : Int)).fst.snd.snd.snd.fst])] = [(([] : Go.Eng.Gd), Res.blk (31 : TypeId) [SC.sl I6 [(4 : I6.den)], SC.sl I6 [(-1 : I6.den)], SC.sl I6.sl [[]], SC.sl I6 []]), (([] : Go.Eng.Gd), Res.blk (31 : TypeId) [SC.sl I6 [(4 : I6.den)], SC.sl I6 [(-1 : I6.den)], SC.sl I6.sl [[(3 : I6.den)]], SC.sl I6 []]), (([] : Go.Eng.Gd), Res.blk (31 : TypeId) [SC.sl I6 [(4 : I6.den)], SC.sl I6 [(-1 : I6.den)], SC.sl I6.sl [[(3 : I6.den), (1 : I6.den)]], SC.sl I6 []]), (([] : Go.Eng.Gd), Res.blk (31 : TypeId) [SC.sl I6 [(4 : I6.den)], SC.sl I6 [(-1 : I6.den)], SC.sl I6.sl [[(1 : I6.den)]], SC.sl I6 [(3 : I6.den)]]), (([] : Go.Eng.Gd), Res.blk (31 : TypeId) [SC.sl I6 [], SC.sl I6 [], SC.sl I6.sl [], SC.sl I6 []])]) ∧ ∀ (v : Nat), v = (0 : Nat) → (bndM ([(4 : I6.den)], [(-1 : I6.den)], [[(1 : I6.den)]], [(3 : I6.den)], ()) ∧ ∃ v, v = (0 : Nat) ∧ (SV.c (SC.own (5 : Nat) (0 : Nat)) = SV.c (SC.own (5 : Nat) (0 : Nat)) ∧ SV.c (SC.v (Value.int IntKind.i64 (wakeM ([(4 : I6.den)], [(-1 : I6.den)], [[(1 : I6.den)]], [(3 : I6.den)], ()) (3 : Int)).snd)) = SV.c (SC.v (Value.int IntKind.i64 (0 : Int))) ∧ True) ∧ [(([] : Go.Eng.Gd), Res.blk (31 : TypeId) [SC.sl I6 [(4 : I6.den)], SC.sl I6 [(-1 : I6.den)], SC.sl I6.sl [[]], SC.sl I6 []]), (([] : Go.Eng.Gd), Res.blk (31 : TypeId) [SC.sl I6 [(4 : I6.den)], SC.sl I6 [(-1 : I6.den)], SC.sl I6.sl [[(3 : I6.den)]], SC.sl I6 []]), (([] : Go.Eng.Gd), Res.blk (31 : TypeId) [SC.sl I6 [(4 : I6.den)], SC.sl I6 [(-1 : I6.den)], SC.sl I6.sl [[(3 : I6.den), (1 : I6.den)]], SC.sl I6 []]), (([] : Go.Eng.Gd), Res.blk (31 : TypeId) [SC.sl I6 [(4 : I6.den)], SC.sl I6 [(-1 : I6.den)], SC.sl I6.sl [[(1 : I6.den)]], SC.sl I6 [(3 : I6.den)]]), (([] : Go.Eng.Gd), Res.blk (31 : TypeId) [SC.sl I6 [], SC.sl I6 [], SC.sl I6.sl [], SC.sl I6 []]), (([] : Go.Eng.Gd), Res.blk (31 : Nat) [SC.sl I6 (wakeM ([(4 : I6.den)], [(-1 : I6.den)], [[(1 : I6.den)]], [(3 : I6.den)], ()) (3 : Int)).fst.fst, SC.sl I6 (wakeM ([(4 : I6.den)], [(-1 : I6.den)], [[(1 : I6.den)]], [(3 : I6.den)], ()) (3 : Int)).fst.snd.fst, SC.sl I6.sl (wakeM ([(4 : I6.den)], [(-1 : I6.den)], [[(1 : I6.den)]], [(3 : I6.den)], ()) (3 : Int)).fst.snd.snd.fst, SC.sl I6 (wakeM ([(4 : I6.den)], [(-1 : I6.den)], [[(1 : I6.den)]], [(3 : I6.den)], ()) (3 : Int)).fst.snd.snd.snd.fst])] = [(([] : Go.Eng.Gd), Res.blk (31 : TypeId) [SC.sl I6 [(4 : I6.den)], SC.sl I6 [(-1 : I6.den)], SC.sl I6.sl [[]], SC.sl I6 []]), (([] : Go.Eng.Gd), Res.blk (31 : TypeId) [SC.sl I6 [(4 : I6.den)], SC.sl I6 [(-1 : I6.den)], SC.sl I6.sl [[(3 : I6.den)]], SC.sl I6 []]), (([] : Go.Eng.Gd), Res.blk (31 : TypeId) [SC.sl I6 [(4 : I6.den)], SC.sl I6 [(-1 : I6.den)], SC.sl I6.sl [[(3 : I6.den), (1 : I6.den)]], SC.sl I6 []]), (([] : Go.Eng.Gd), Res.blk (31 : TypeId) [SC.sl I6 [(4 : I6.den)], SC.sl I6 [(-1 : I6.den)], SC.sl I6.sl [[(1 : I6.den)]], SC.sl I6 [(3 : I6.den)]]), (([] : Go.Eng.Gd), Res.blk (31 : TypeId) [SC.sl I6 [], SC.sl I6 [], SC.sl I6.sl [], SC.sl I6 []]), (([] : Go.Eng.Gd), Res.blk (31 : TypeId) [SC.sl I6 [(4 : I6.den)], SC.sl I6 [(-1 : I6.den)], SC.sl I6.sl [[(1 : I6.den)]], SC.sl I6 []])]) ∧ ∀ (v : Nat), v = (0 : Nat) → (bndM ([(4 : I6.den)], [(-1 : I6.den)], [[(1 : I6.den)]], [], ()) ∧ ∃ v, v = ([(4 : Int)], [(-1 : Int)], [[(1 : Int)]], [], ()) ∧ (SV.c (SC.v (Value.int IntKind.i64 (readM ([(4 : I6.den)], [(-1 : I6.den)], [[(1 : I6.den)]], [], ()) (0 : Int)).fst)) = SV.c (SC.v (Value.int IntKind.i64 (4 : Int))) ∧ SV.c (SC.v (Value.int IntKind.i64 (readM ([(4 : I6.den)], [(-1 : I6.den)], [[(1 : I6.den)]], [], ()) (0 : Int)).snd)) = SV.c (SC.v (Value.int IntKind.i64 (0 : Int))) ∧ True) ∧ [(([] : Go.Eng.Gd), Res.blk (31 : TypeId) [SC.sl I6 [(4 : I6.den)], SC.sl I6 [(-1 : I6.den)], SC.sl I6.sl [[]], SC.sl I6 []]), (([] : Go.Eng.Gd), Res.blk (31 : TypeId) [SC.sl I6 [(4 : I6.den)], SC.sl I6 [(-1 : I6.den)], SC.sl I6.sl [[(3 : I6.den)]], SC.sl I6 []]), (([] : Go.Eng.Gd), Res.blk (31 : TypeId) [SC.sl I6 [(4 : I6.den)], SC.sl I6 [(-1 : I6.den)], SC.sl I6.sl [[(3 : I6.den), (1 : I6.den)]], SC.sl I6 []]), (([] : Go.Eng.Gd), Res.blk (31 : TypeId) [SC.sl I6 [(4 : I6.den)], SC.sl I6 [(-1 : I6.den)], SC.sl I6.sl [[(1 : I6.den)]], SC.sl I6 [(3 : I6.den)]]), (([] : Go.Eng.Gd), Res.blk (31 : TypeId) [SC.sl I6 [], SC.sl I6 [], SC.sl I6.sl [], SC.sl I6 []]), (([] : Go.Eng.Gd), Res.blk (31 : TypeId) [SC.sl I6 [(4 : I6.den)], SC.sl I6 [(-1 : I6.den)], SC.sl I6.sl [[(1 : I6.den)]], SC.sl I6 []])] = [(([] : Go.Eng.Gd), Res.blk (31 : TypeId) [SC.sl I6 [(4 : I6.den)], SC.sl I6 [(-1 : I6.den)], SC.sl I6.sl [[]], SC.sl I6 []]), (([] : Go.Eng.Gd), Res.blk (31 : TypeId) [SC.sl I6 [(4 : I6.den)], SC.sl I6 [(-1 : I6.den)], SC.sl I6.sl [[(3 : I6.den)]], SC.sl I6 []]), (([] : Go.Eng.Gd), Res.blk (31 : TypeId) [SC.sl I6 [(4 : I6.den)], SC.sl I6 [(-1 : I6.den)], SC.sl I6.sl [[(3 : I6.den), (1 : I6.den)]], SC.sl I6 []]), (([] : Go.Eng.Gd), Res.blk (31 : TypeId) [SC.sl I6 [(4 : I6.den)], SC.sl I6 [(-1 : I6.den)], SC.sl I6.sl [[(1 : I6.den)]], SC.sl I6 [(3 : I6.den)]]), (([] : Go.Eng.Gd), Res.blk (31 : TypeId) [SC.sl I6 [], SC.sl I6 [], SC.sl I6.sl [], SC.sl I6 []]), (([] : Go.Eng.Gd), Res.blk (31 : TypeId) [SC.sl I6 v.fst, SC.sl I6 v.snd.fst, SC.sl I6.sl v.snd.snd.fst, SC.sl I6 v.snd.snd.snd.fst])]) ∧ ∀ (v : List Int × List Int × List (List Int) × List Int × Unit), v = ([(4 : Int)], [(-1 : Int)], [[(1 : Int)]], [], ()) → (true = true → bndM v) ∧ ((true && freeM v (0 : Int)) = true → (0 : Int) ≤ (0 : Int) ∧ (0 : Int) < (↑v.snd.snd.fst.length : Int)) ∧ ∀ (d : List I6.den), ((true && freeM v (0 : Int)) = true → v.snd.snd.fst[(0 : Nat)]? = some d) → ((true && freeM v (0 : Int)) = true → d.length ≤ (4611686018427387904 : Nat)) ∧ ([] : List Go.Eng.Res) = [] ∧ Ent.one (SV.c (SC.v (Value.bool true))) = Ent.one (SV.c (SC.v (Value.bool (true && freeM v (0 : Int) && decide (d = [(1 : Int)]) && decide ((↑v.snd.snd.snd.fst.length : Int) = (0 : Int)))))) := by
  refine ⟨⟨trivial, ⟨by decide, by decide, by decide, by decide, by decide, fun x hx => ?_, by decide⟩, 0, rfl, ⟨rfl, rfl, trivial⟩, rfl⟩, fun _ _ => ?_⟩
  · rw [List.mem_singleton] at hx; subst hx; exact Nat.zero_le _
  refine ⟨⟨bd0, 0, rfl, ⟨rfl, by rw [ex1], trivial⟩, by rw [ex1]⟩, fun _ _ => ?_⟩
  refine ⟨⟨bd1, 0, rfl, ⟨rfl, by rw [ex2], trivial⟩, by rw [ex2]⟩, fun _ _ => ?_⟩
  refine ⟨⟨bd2, 0, rfl, ⟨rfl, by rw [ex3], by rw [ex3], trivial⟩, by rw [ex3]⟩, fun _ _ => ?_⟩
  refine ⟨⟨bd3, 0, rfl, ⟨rfl, by rw [ex4], trivial⟩, by rw [ex4]; rfl⟩, fun _ _ => ?_⟩
  refine ⟨⟨bd3, 0, rfl, ⟨rfl, by rw [ex5], trivial⟩, by rw [ex5]⟩, fun _ _ => ?_⟩
  refine ⟨⟨bd4, _, rfl, ⟨by rw [ex6], by rw [ex6], trivial⟩, rfl⟩, fun m hm => ?_⟩
  subst hm
  refine ⟨fun _ => bd4, fun _ => by decide, fun d hd => ?_⟩
  have e7 : (true && freeM ([4], [-1], [[1]], [], ()) 0) = true := ex7
  have hd : ([[1]] : List (List Int))[0]? = some d := hd e7
  cases hd
  exact ⟨fun _ => by decide, rfl, by rw [e7]; rfl⟩
set_option maxHeartbeats 2000000 in
set_option maxRecDepth 100000 in
theorem f12_met : Go.Eng.Met Tryd.prog cx0.gd 12 ctExa :=
  (met_all (cx := cx0) (n := 102) (cl := cl12) (il := il12) (hl := hl12) (ml := ml12) (rc := []) (lits := []) (suf := []) (by kernel_rfl) tis_ok ⟨f43_met, f13_met, f18_met, f20_met, f24_met, f26_met, f34_met, f41_met, trivial⟩ trivial trivial trivial Tryd.func12 (by kernel_rfl) (by kernel_rfl) rfl (by kernel_rfl) (by kernel_rfl) (by simp) fun d hd => by
    obtain ⟨⟩ := d
    exact ex_of (ann12 ) (f12_vc ) (by kernel_rfl)).met
end Go.Proofs.YtkgjfkdcnoockaaDoor
set_option linter.unusedSimpArgs false
set_option linter.unusedVariables false
set_option maxRecDepth 100000
namespace Go.Proofs.YtkgjfkdcnoockaaDoor
open Go Go.Eng

theorem few_bnd {m : MD} (h : fewM m = true) : bndM m := by
  obtain ⟨vs, os, qs, sg, ⟨⟩⟩ := m
  unfold fewM at h
  simp only [Bool.and_eq_true, List.all_eq_true, decide_eq_true_eq] at h
  obtain ⟨⟨⟨⟨h1, h2⟩, h3⟩, h4⟩, h5⟩ := h
  refine ⟨by show vs.length ≤ 1000; omega, by show os.length ≤ 1000; omega, by show qs.length ≤ 1000; omega, by show sg.length ≤ 1000; omega, fun q hq => by have := h5 q hq; omega, ?_⟩
  have key : ∀ l : List (List Int), (∀ q ∈ l, q.length ≤ 60) → l.flatten.length ≤ 60 * l.length := by
    intro l
    induction l with
    | nil => intro _; simp
    | cons a l ih =>
      intro hl
      have := ih fun q hq => hl q (by simp [hq])
      have := hl a (by simp)
      simp only [List.flatten_cons, List.length_append, List.length_cons]; omega
  have := key qs h5
  show qs.flatten.length ≤ 100000
  omega
theorem write_bnd {m : MD} {x v : Int} (h : bndM m) : bndM (writeM m x v).1 := by
  obtain ⟨vs, os, qs, sg, ⟨⟩⟩ := m
  unfold writeM
  have z : bndM zM := ⟨by decide, by decide, by decide, by decide, by decide, by decide⟩
  split
  · split
    · exact ⟨by have := h.1; simpa using this, h.2⟩
    · exact z
  · exact z
theorem own_bnd {m : MD} {i id frm to : Int} (h : bndM m) : bndM (ownM m i id frm to).1 := by
  obtain ⟨vs, os, qs, sg, ⟨⟩⟩ := m
  unfold ownM
  have z : bndM zM := ⟨by decide, by decide, by decide, by decide, by decide, by decide⟩
  split
  · split
    · exact z
    · split
      · exact ⟨h.1, by have := h.2.1; simpa using this, h.2.2⟩
      · exact z
  · exact z
end Go.Proofs.YtkgjfkdcnoockaaDoor
set_option linter.unusedSimpArgs false
set_option linter.unusedVariables false
set_option maxRecDepth 100000
namespace Go.Proofs.YtkgjfkdcnoockaaDoor
open Go Go.Eng

noncomputable def validM (p : PD) (m : MD) : Bool := decide ((chkP p.1 p.2.1 p.2.2.1 p.2.2.2.1 p.2.2.2.2.1).1 = 0) && formM m && decide (m.1.length = p.1.length) && decide (m.2.1.length = p.2.1.length) && decide (m.2.2.1.length = p.2.2.1.length)
theorem small_lens {vs : List VD} {ms cs : List ByteArray} {fs : List FD} {ts : List SD} (h : smS vs ms cs fs ts = true) : vs.length ≤ 1000 ∧ ms.length ≤ 1000 ∧ cs.length ≤ 1000 := by
  unfold smS at h
  rw [Bool.and_eq_true, decide_eq_true_eq] at h
  omega
theorem new_bnd {vs : List VD} {ms cs : List ByteArray} {fs : List FD} {ts : List SD} (h : vs.length ≤ 1000 ∧ ms.length ≤ 1000 ∧ cs.length ≤ 1000) : bndM (newM vs ms cs fs ts).1 := by
  unfold newM
  split
  · refine ⟨by simp only [List.length_map]; omega, by simp only [List.length_replicate]; omega, by simp only [List.length_replicate]; omega, Nat.zero_le _, fun q hq => ?_, ?_⟩
    · rw [List.eq_of_mem_replicate hq]; exact Nat.zero_le _
    · have : (List.replicate cs.length ([] : List Int)).flatten = [] := by simp
      show (List.replicate cs.length ([] : List Int)).flatten.length ≤ _
      rw [this]; exact Nat.zero_le _
  · exact (⟨by decide, by decide, by decide, by decide, by decide, by decide⟩ : bndM zM)

@[reducible] noncomputable def cl47 : List (Nat × CT) := [(44, ctChk)]
@[reducible] def ann47 (vs : List VD) (ms : List ByteArray) (cs : List ByteArray) (fs : List FD) (ts : List SD) : Nat → Option (St → Ann) := fun _ => none
set_option maxRecDepth 100000 in
theorem f47_vc (vs : List VD) (ms : List ByteArray) (cs : List ByteArray) (fs : List FD) (ts : List SD) (hpre : ctVld.pre ((vs, ms, cs, fs, ts, ()), ())) :
    (vs.length ≤ (1000000 : Nat) ∧ ms.length ≤ (1000000 : Nat) ∧ cs.length ≤ (1000000 : Nat) ∧ fs.length ≤ (1000000 : Nat) ∧ ts.length ≤ (1000000 : Nat) ∧ (∀ (x : Sh.str.den × (shI.sl.pair Sh.unit).den), x ∈ fs → List.length x.snd.fst ≤ (1000000 : Nat)) ∧ (instL fs).length ≤ (1000000 : Nat)) ∧ ([] : List Go.Eng.Res) = [] ∧ Ent.one (SV.c (SC.v (Value.bool (decide ((chkP vs ms cs fs ts).fst = (0 : Int)))))) = Ent.one (SV.c (SC.v (Value.bool (decide ((chkP vs ms cs fs ts).fst = (0 : Int)))))) := by
  exact ⟨hpre, rfl, rfl⟩
set_option maxHeartbeats 2000000 in
set_option maxRecDepth 100000 in
theorem f47_met : Go.Eng.Met Tryd.prog cx0.gd 47 ctVld :=
  met_of (cx := cx0) (n := 14) (cl := cl47) (by kernel_rfl) tis_ok ⟨f44_met, trivial⟩ Tryd.func47 (by kernel_rfl) (by kernel_rfl) rfl (by kernel_rfl) (by kernel_rfl) fun d hd => by
    obtain ⟨⟨vs, ms, cs, fs, ts, ⟨⟩⟩, ⟨⟩⟩ := d
    exact ex_of (ann47 vs ms cs fs ts) (f47_vc vs ms cs fs ts hd) (by kernel_rfl)
@[reducible] noncomputable def cl49 : List (Nat × CT) := [(45, ctrChk)]
@[reducible] def ann49 (vs : List VD) (ms : List ByteArray) (cs : List ByteArray) (fs : List FD) (ts : List SD) : Nat → Option (St → Ann) := fun _ => none
set_option maxRecDepth 100000 in
theorem f49_vc (vs : List VD) (ms : List ByteArray) (cs : List ByteArray) (fs : List FD) (ts : List SD) (hpre : ctrVld.pre ((vs, ms, cs, fs, ts, ()), ())) :
    (vs.length ≤ (1000000 : Nat) ∧ ms.length ≤ (1000000 : Nat) ∧ cs.length ≤ (1000000 : Nat) ∧ fs.length ≤ (1000000 : Nat) ∧ ts.length ≤ (1000000 : Nat) ∧ (∀ (x : Sh.str.den × (shI.sl.pair Sh.unit).den), x ∈ fs → List.length x.snd.fst ≤ (1000000 : Nat)) ∧ (instL fs).length ≤ (1000000 : Nat)) ∧ ([] : List Go.Eng.Res) = [] ∧ Ent.one (SV.c (SC.v (Value.bool (decide ((chkP vs ms cs fs ts).fst = (0 : Int)))))) = Ent.one (SV.c (SC.v (Value.bool (decide ((chkP vs ms cs fs ts).fst = (0 : Int)))))) := by
  exact ⟨hpre, rfl, rfl⟩
set_option maxHeartbeats 2000000 in
set_option maxRecDepth 100000 in
theorem f49_met : Go.Eng.Met Tryd.prog cx0.gd 49 ctrVld :=
  met_of (cx := cx0) (n := 14) (cl := cl49) (by kernel_rfl) tis_ok ⟨f45_met, trivial⟩ Tryd.func49 (by kernel_rfl) (by kernel_rfl) rfl (by kernel_rfl) (by kernel_rfl) fun d hd => by
    obtain ⟨⟨vs, ms, cs, fs, ts, ⟨⟩⟩, ⟨⟩⟩ := d
    exact ex_of (ann49 vs ms cs fs ts) (f49_vc vs ms cs fs ts hd) (by kernel_rfl)
@[reducible] noncomputable def ctMV : CT := { ps := [shP, shM], pre := fun d => bnd (d.1, ()) ∧ bndM d.2.1, res := fun d => ([], vB (validM d.1 d.2.1)) }
@[reducible] noncomputable def cl16 : List (Nat × CT) := [(47, ctVld), (48, ctFm)]
@[reducible] def ann16 (vs : List VD) (ms : List ByteArray) (cs : List ByteArray) (fs : List FD) (ts : List SD) (ws : List Int) (os : List Int) (qs : List (List Int)) (sg : List Int) : Nat → Option (St → Ann) := fun _ => none
@[reducible] def il16 : List (Nat × IP) := []
@[reducible] def hl16 : List (Nat × Nat × CT) := []
@[reducible] noncomputable def ml16 : List (Nat × MK) := []
set_option maxRecDepth 100000 in
theorem f16_vc (vs : List VD) (ms : List ByteArray) (cs : List ByteArray) (fs : List FD) (ts : List SD) (ws : List Int) (os : List Int) (qs : List (List Int)) (sg : List Int) (hpre : ctMV.pre ((vs, ms, cs, fs, ts, ()), (ws, os, qs, sg, ()), ())) :
    (vs.length ≤ (1000000 : Nat) ∧ ms.length ≤ (1000000 : Nat) ∧ cs.length ≤ (1000000 : Nat) ∧ fs.length ≤ (1000000 : Nat) ∧ ts.length ≤ (1000000 : Nat) ∧ (∀ (x : Sh.str.den × (shI.sl.pair Sh.unit).den), x ∈ fs → List.length x.snd.fst ≤ (1000000 : Nat)) ∧ (instL fs).length ≤ (1000000 : Nat)) ∧ (decide ((chkP vs ms cs fs ts).fst = (0 : Int)) = true → bndM (ws, os, qs, sg, ())) ∧ ([] : List Go.Eng.Res) = [] ∧ Ent.one (SV.c (SC.v (Value.bool (validM (vs, ms, cs, fs, ts, ()) (ws, os, qs, sg, ()))))) = Ent.one (SV.c (SC.v (Value.bool (decide ((chkP vs ms cs fs ts).fst = (0 : Int)) && formM (ws, os, qs, sg, ()) && decide ((↑ws.length : Int) = (↑vs.length : Int)) && decide ((↑os.length : Int) = (↑ms.length : Int)) && decide ((↑qs.length : Int) = (↑cs.length : Int)))))) := by
  obtain ⟨h1, h2⟩ := hpre
  refine ⟨h1, fun _ => h2, rfl, ?_⟩
  unfold validM
  simp only [Int.ofNat_inj]
set_option maxHeartbeats 2000000 in
set_option maxRecDepth 100000 in
theorem f16_met : Go.Eng.Met Tryd.prog cx0.gd 16 ctMV :=
  (met_all (cx := cx0) (n := 38) (cl := cl16) (il := il16) (hl := hl16) (ml := ml16) (rc := []) (lits := []) (suf := []) (by kernel_rfl) tis_ok ⟨f47_met, f48_met, trivial⟩ trivial trivial trivial Tryd.func16 (by kernel_rfl) (by kernel_rfl) rfl (by kernel_rfl) (by kernel_rfl) (by simp) fun d hd => by
    obtain ⟨⟨vs, ms, cs, fs, ts, ⟨⟩⟩, ⟨ws, os, qs, sg, ⟨⟩⟩, ⟨⟩⟩ := d
    exact ex_of (ann16 vs ms cs fs ts ws os qs sg) (f16_vc vs ms cs fs ts ws os qs sg hd) (by kernel_rfl)).met
@[reducible] noncomputable def cl17 : List (Nat × CT) := [(49, ctrVld), (40, ctWf)]
@[reducible] def ann17 (vs : List VD) (ms : List ByteArray) (cs : List ByteArray) (fs : List FD) (ts : List SD) (ws : List Int) (os : List Int) (qs : List (List Int)) (sg : List Int) : Nat → Option (St → Ann) := fun _ => none
@[reducible] def il17 : List (Nat × IP) := []
@[reducible] def hl17 : List (Nat × Nat × CT) := []
@[reducible] noncomputable def ml17 : List (Nat × MK) := []
set_option maxRecDepth 100000 in
theorem f17_vc (vs : List VD) (ms : List ByteArray) (cs : List ByteArray) (fs : List FD) (ts : List SD) (ws : List Int) (os : List Int) (qs : List (List Int)) (sg : List Int) (hpre : ctMV.pre ((vs, ms, cs, fs, ts, ()), (ws, os, qs, sg, ()), ())) :
    (vs.length ≤ (1000000 : Nat) ∧ ms.length ≤ (1000000 : Nat) ∧ cs.length ≤ (1000000 : Nat) ∧ fs.length ≤ (1000000 : Nat) ∧ ts.length ≤ (1000000 : Nat) ∧ (∀ (x : Sh.str.den × (shI.sl.pair Sh.unit).den), x ∈ fs → List.length x.snd.fst ≤ (1000000 : Nat)) ∧ (instL fs).length ≤ (1000000 : Nat)) ∧ (decide ((chkP vs ms cs fs ts).fst = (0 : Int)) = true → bndM (ws, os, qs, sg, ())) ∧ ([] : List Go.Eng.Res) = [] ∧ Ent.one (SV.c (SC.v (Value.bool (validM (vs, ms, cs, fs, ts, ()) (ws, os, qs, sg, ()))))) = Ent.one (SV.c (SC.v (Value.bool (decide ((chkP vs ms cs fs ts).fst = (0 : Int)) && formM (ws, os, qs, sg, ()) && decide ((↑ws.length : Int) = (↑vs.length : Int)) && decide ((↑os.length : Int) = (↑ms.length : Int)) && decide ((↑qs.length : Int) = (↑cs.length : Int)))))) := by
  obtain ⟨h1, h2⟩ := hpre
  refine ⟨h1, fun _ => h2, rfl, ?_⟩
  unfold validM
  simp only [Int.ofNat_inj]
set_option maxHeartbeats 2000000 in
set_option maxRecDepth 100000 in
theorem f17_met : Go.Eng.Met Tryd.prog cx0.gd 17 ctMV :=
  (met_all (cx := cx0) (n := 38) (cl := cl17) (il := il17) (hl := hl17) (ml := ml17) (rc := []) (lits := []) (suf := []) (by kernel_rfl) tis_ok ⟨f49_met, f40_met, trivial⟩ trivial trivial trivial Tryd.func17 (by kernel_rfl) (by kernel_rfl) rfl (by kernel_rfl) (by kernel_rfl) (by simp) fun d hd => by
    obtain ⟨⟨vs, ms, cs, fs, ts, ⟨⟩⟩, ⟨ws, os, qs, sg, ⟨⟩⟩, ⟨⟩⟩ := d
    exact ex_of (ann17 vs ms cs fs ts ws os qs sg) (f17_vc vs ms cs fs ts ws os qs sg hd) (by kernel_rfl)).met
@[reducible] noncomputable def cl14 : List (Nat × CT) := [(45, ctrChk)]
@[reducible] def ann14 (vs : List VD) (ms : List ByteArray) (cs : List ByteArray) (fs : List FD) (ts : List SD) : Nat → Option (St → Ann) := fun k => match k with
  | 6 => some fun s => .inv { α := Nat, nilC := [(2, 0, 3, .int .i64)], slots := fun k => [(8, .c (.v (.int .i64 k)))], res := fun k => [(3, .row 3 (.int .i64) ((vs.take k).map (·.2.1)))], inv := fun k => k ≤ vs.length, meas := fun k => vs.length - k }
  | 10 => some fun s => .inv { α := Nat, nilC := [(2, 1, 3, .int .i64)], slots := fun k => [(9, .c (.v (.int .i64 k)))], res := fun k => [(4, .row 3 (.int .i64) (List.replicate k (-1)))], inv := fun k => k ≤ ms.length, meas := fun k => ms.length - k }
  | 14 => some fun s => .inv { α := Nat, nilC := [(2, 2, 28, .sl (.int .i64))], slots := fun k => [(10, .c (.v (.int .i64 k)))], res := fun k => [(5, .row 28 (.sl (.int .i64)) (List.replicate k []))], inv := fun k => k ≤ cs.length, meas := fun k => cs.length - k }
  | _ => none
@[reducible] def il14 : List (Nat × IP) := []
@[reducible] def hl14 : List (Nat × Nat × CT) := []
@[reducible] noncomputable def ml14 : List (Nat × MK) := []
set_option maxRecDepth 100000 in
theorem f14_vc (vs : List VD) (ms : List ByteArray) (cs : List ByteArray) (fs : List FD) (ts : List SD) (hpre : ctNew.pre ((vs, ms, cs, fs, ts, ()), ())) :
    (vs.length ≤ (1000000 : Nat) ∧ ms.length ≤ (1000000 : Nat) ∧ cs.length ≤ (1000000 : Nat) ∧ fs.length ≤ (1000000 : Nat) ∧ ts.length ≤ (1000000 : Nat) ∧ (∀ (x : Sh.str.den × (shI.sl.pair Sh.unit).den), x ∈ fs → List.length x.snd.fst ≤ (1000000 : Nat)) ∧ (instL fs).length ≤ (1000000 : Nat)) ∧ br (!decide ((chkP vs ms cs fs ts).fst = (0 : Int))) (([] : List Go.Eng.Res) = [] ∧ Ent.tup [SV.agg [SC.sl I6 (newM vs ms cs fs ts).fst.fst, SC.sl I6 (newM vs ms cs fs ts).fst.snd.fst, SC.sl I6.sl (newM vs ms cs fs ts).fst.snd.snd.fst, SC.sl I6 (newM vs ms cs fs ts).fst.snd.snd.snd.fst], SV.c (SC.v (Value.int IntKind.i64 (newM vs ms cs fs ts).snd))] = Ent.tup [SV.agg [SC.sl I6 [], SC.sl I6 [], SC.sl I6.sl [], SC.sl I6 []], SV.c (SC.v (Value.int IntKind.i64 (chkP vs ms cs fs ts).fst))]) ((∃ x, x ≤ vs.length ∧ (SV.c (SC.v (Value.int IntKind.i64 (0 : Int))) = SV.c (SC.v (Value.int IntKind.i64 (↑x : Int))) ∧ True) ∧ [(([] : Go.Eng.Gd), Res.blk (27 : Nat) [SC.sl (Sh.str.pair (I6.pair Sh.unit)) vs, SC.sl Sh.str ms, SC.sl Sh.str cs, SC.sl (Sh.str.pair (shI.sl.pair Sh.unit)) fs, SC.sl (I6.pair (I6.pair Sh.unit)) ts]), (([] : Go.Eng.Gd), zM6), (([] : Go.Eng.Gd), Res.blk (31 : Nat) [SC.row (Nat.succ (0 : Nat)).succ.succ, nS6, nS6, nS6]), (([] : Go.Eng.Gd), Res.row (3 : TypeId) I6 [])] = [(([] : Go.Eng.Gd), Res.blk (27 : Nat) [SC.sl (Sh.str.pair (I6.pair Sh.unit)) vs, SC.sl Sh.str ms, SC.sl Sh.str cs, SC.sl (Sh.str.pair (shI.sl.pair Sh.unit)) fs, SC.sl (I6.pair (I6.pair Sh.unit)) ts]), (([] : Go.Eng.Gd), zM6), (([] : Go.Eng.Gd), Res.blk (31 : Nat) [SC.row (Nat.succ (0 : Nat)).succ.succ, nS6, nS6, nS6]), (([] : Go.Eng.Gd), Res.row (3 : TypeId) I6 (List.map (fun x => x.snd.fst) (List.take x vs)))]) ∧ ∀ (x : Nat), x ≤ vs.length → br (decide ((↑x : Int) < (↑vs.length : Int))) (((0 : Int) ≤ (↑x : Int) ∧ (↑x : Int) < (↑vs.length : Int)) ∧ ∀ (d : Sh.str.den × (I6.pair Sh.unit).den), vs[(↑x : Int).toNat]? = some d → InA (List.length (List.map (fun x => x.snd.fst) (List.take x vs)) + List.length ([d.snd.fst])) (8 : Nat) ∧ InR IntKind.i64 ((↑x : Int) + (1 : Int)) ∧ ∃ x', x' ≤ vs.length ∧ (SV.c (SC.v (Value.int IntKind.i64 ((↑x : Int) + (1 : Int)))) = SV.c (SC.v (Value.int IntKind.i64 (↑x' : Int))) ∧ True) ∧ [(([] : Go.Eng.Gd), Res.blk (27 : Nat) [SC.sl (Sh.str.pair (I6.pair Sh.unit)) vs, SC.sl Sh.str ms, SC.sl Sh.str cs, SC.sl (Sh.str.pair (shI.sl.pair Sh.unit)) fs, SC.sl (I6.pair (I6.pair Sh.unit)) ts]), (([] : Go.Eng.Gd), zM6), (([] : Go.Eng.Gd), Res.blk (31 : Nat) [SC.row (Nat.succ (0 : Nat)).succ.succ, nS6, nS6, nS6]), (([] : Go.Eng.Gd), Res.row (3 : TypeId) I6 (List.map (fun x => x.snd.fst) (List.take x vs) ++ [d.snd.fst]))] = [(([] : Go.Eng.Gd), Res.blk (27 : Nat) [SC.sl (Sh.str.pair (I6.pair Sh.unit)) vs, SC.sl Sh.str ms, SC.sl Sh.str cs, SC.sl (Sh.str.pair (shI.sl.pair Sh.unit)) fs, SC.sl (I6.pair (I6.pair Sh.unit)) ts]), (([] : Go.Eng.Gd), zM6), (([] : Go.Eng.Gd), Res.blk (31 : Nat) [SC.row (Nat.succ (0 : Nat)).succ.succ, nS6, nS6, nS6]), (([] : Go.Eng.Gd), Res.row (3 : TypeId) I6 (List.map (fun x => x.snd.fst) (List.take x' vs)))] ∧ vs.length - x' < vs.length - x) ((∃ x_1, x_1 ≤ ms.length ∧ (SV.c (SC.v (Value.int IntKind.i64 (0 : Int))) = SV.c (SC.v (Value.int IntKind.i64 (↑x_1 : Int))) ∧ True) ∧ [(([] : Go.Eng.Gd), Res.blk (27 : Nat) [SC.sl (Sh.str.pair (I6.pair Sh.unit)) vs, SC.sl Sh.str ms, SC.sl Sh.str cs, SC.sl (Sh.str.pair (shI.sl.pair Sh.unit)) fs, SC.sl (I6.pair (I6.pair Sh.unit)) ts]), (([] : Go.Eng.Gd), zM6), (([] : Go.Eng.Gd), Res.blk (31 : Nat) [SC.row (Nat.succ (0 : Nat)).succ.succ, SC.row (Nat.succ (0 : Nat)).succ.succ.succ, nS6, nS6]), (([] : Go.Eng.Gd), Res.row (3 : TypeId) I6 (List.map (fun x => x.snd.fst) (List.take x vs))), (([] : Go.Eng.Gd), Res.row (3 : TypeId) I6 [])] = [(([] : Go.Eng.Gd), Res.blk (27 : Nat) [SC.sl (Sh.str.pair (I6.pair Sh.unit)) vs, SC.sl Sh.str ms, SC.sl Sh.str cs, SC.sl (Sh.str.pair (shI.sl.pair Sh.unit)) fs, SC.sl (I6.pair (I6.pair Sh.unit)) ts]), (([] : Go.Eng.Gd), zM6), (([] : Go.Eng.Gd), Res.blk (31 : Nat) [SC.row (Nat.succ (0 : Nat)).succ.succ, SC.row (Nat.succ (0 : Nat)).succ.succ.succ, nS6, nS6]), (([] : Go.Eng.Gd), Res.row (3 : TypeId) I6 (List.map (fun x => x.snd.fst) (List.take x vs))), (([] : Go.Eng.Gd), Res.row (3 : TypeId) I6 (List.replicate x_1 (-1 : I6.den)))]) ∧ ∀ (x_1 : Nat), x_1 ≤ ms.length → br (decide ((↑x_1 : Int) < (↑ms.length : Int))) (InA (List.length (List.replicate x_1 (-1 : I6.den)) + (1 : Nat)) (8 : Nat) ∧ InR IntKind.i64 ((↑x_1 : Int) + (1 : Int)) ∧ ∃ x', x' ≤ ms.length ∧ (SV.c (SC.v (Value.int IntKind.i64 ((↑x_1 : Int) + (1 : Int)))) = SV.c (SC.v (Value.int IntKind.i64 (↑x' : Int))) ∧ True) ∧ [(([] : Go.Eng.Gd), Res.blk (27 : Nat) [SC.sl (Sh.str.pair (I6.pair Sh.unit)) vs, SC.sl Sh.str ms, SC.sl Sh.str cs, SC.sl (Sh.str.pair (shI.sl.pair Sh.unit)) fs, SC.sl (I6.pair (I6.pair Sh.unit)) ts]), (([] : Go.Eng.Gd), zM6), (([] : Go.Eng.Gd), Res.blk (31 : Nat) [SC.row (Nat.succ (0 : Nat)).succ.succ, SC.row (Nat.succ (0 : Nat)).succ.succ.succ, nS6, nS6]), (([] : Go.Eng.Gd), Res.row (3 : TypeId) I6 (List.map (fun x => x.snd.fst) (List.take x vs))), (([] : Go.Eng.Gd), Res.row (3 : TypeId) I6 (List.replicate x_1 (-1 : I6.den) ++ [(-1 : Int)]))] = [(([] : Go.Eng.Gd), Res.blk (27 : Nat) [SC.sl (Sh.str.pair (I6.pair Sh.unit)) vs, SC.sl Sh.str ms, SC.sl Sh.str cs, SC.sl (Sh.str.pair (shI.sl.pair Sh.unit)) fs, SC.sl (I6.pair (I6.pair Sh.unit)) ts]), (([] : Go.Eng.Gd), zM6), (([] : Go.Eng.Gd), Res.blk (31 : Nat) [SC.row (Nat.succ (0 : Nat)).succ.succ, SC.row (Nat.succ (0 : Nat)).succ.succ.succ, nS6, nS6]), (([] : Go.Eng.Gd), Res.row (3 : TypeId) I6 (List.map (fun x => x.snd.fst) (List.take x vs))), (([] : Go.Eng.Gd), Res.row (3 : TypeId) I6 (List.replicate x' (-1 : I6.den)))] ∧ ms.length - x' < ms.length - x_1) ((∃ x_2, x_2 ≤ cs.length ∧ (SV.c (SC.v (Value.int IntKind.i64 (0 : Int))) = SV.c (SC.v (Value.int IntKind.i64 (↑x_2 : Int))) ∧ True) ∧ [(([] : Go.Eng.Gd), Res.blk (27 : Nat) [SC.sl (Sh.str.pair (I6.pair Sh.unit)) vs, SC.sl Sh.str ms, SC.sl Sh.str cs, SC.sl (Sh.str.pair (shI.sl.pair Sh.unit)) fs, SC.sl (I6.pair (I6.pair Sh.unit)) ts]), (([] : Go.Eng.Gd), zM6), (([] : Go.Eng.Gd), Res.blk (31 : Nat) [SC.row (Nat.succ (0 : Nat)).succ.succ, SC.row (Nat.succ (0 : Nat)).succ.succ.succ, SC.row (Nat.succ (0 : Nat)).succ.succ.succ.succ, nS6]), (([] : Go.Eng.Gd), Res.row (3 : TypeId) I6 (List.map (fun x => x.snd.fst) (List.take x vs))), (([] : Go.Eng.Gd), Res.row (3 : TypeId) I6 (List.replicate x_1 (-1 : I6.den))), (([] : Go.Eng.Gd), Res.row (28 : TypeId) I6.sl [])] = [(([] : Go.Eng.Gd), Res.blk (27 : Nat) [SC.sl (Sh.str.pair (I6.pair Sh.unit)) vs, SC.sl Sh.str ms, SC.sl Sh.str cs, SC.sl (Sh.str.pair (shI.sl.pair Sh.unit)) fs, SC.sl (I6.pair (I6.pair Sh.unit)) ts]), (([] : Go.Eng.Gd), zM6), (([] : Go.Eng.Gd), Res.blk (31 : Nat) [SC.row (Nat.succ (0 : Nat)).succ.succ, SC.row (Nat.succ (0 : Nat)).succ.succ.succ, SC.row (Nat.succ (0 : Nat)).succ.succ.succ.succ, nS6]), (([] : Go.Eng.Gd), Res.row (3 : TypeId) I6 (List.map (fun x => x.snd.fst) (List.take x vs))), (([] : Go.Eng.Gd), Res.row (3 : TypeId) I6 (List.replicate x_1 (-1 : I6.den))), (([] : Go.Eng.Gd), Res.row (28 : TypeId) I6.sl (List.replicate x_2 ([] : List Int)))]) ∧ ∀ (x_2 : Nat), x_2 ≤ cs.length → br (decide ((↑x_2 : Int) < (↑cs.length : Int))) (InA (List.length (List.replicate x_2 ([] : List Int)) + (1 : Nat)) (24 : Nat) ∧ InR IntKind.i64 ((↑x_2 : Int) + (1 : Int)) ∧ ∃ x', x' ≤ cs.length ∧ (SV.c (SC.v (Value.int IntKind.i64 ((↑x_2 : Int) + (1 : Int)))) = SV.c (SC.v (Value.int IntKind.i64 (↑x' : Int))) ∧ True) ∧ [(([] : Go.Eng.Gd), Res.blk (27 : Nat) [SC.sl (Sh.str.pair (I6.pair Sh.unit)) vs, SC.sl Sh.str ms, SC.sl Sh.str cs, SC.sl (Sh.str.pair (shI.sl.pair Sh.unit)) fs, SC.sl (I6.pair (I6.pair Sh.unit)) ts]), (([] : Go.Eng.Gd), zM6), (([] : Go.Eng.Gd), Res.blk (31 : Nat) [SC.row (Nat.succ (0 : Nat)).succ.succ, SC.row (Nat.succ (0 : Nat)).succ.succ.succ, SC.row (Nat.succ (0 : Nat)).succ.succ.succ.succ, nS6]), (([] : Go.Eng.Gd), Res.row (3 : TypeId) I6 (List.map (fun x => x.snd.fst) (List.take x vs))), (([] : Go.Eng.Gd), Res.row (3 : TypeId) I6 (List.replicate x_1 (-1 : I6.den))), (([] : Go.Eng.Gd), Res.row (28 : TypeId) I6.sl (List.replicate x_2 ([] : List Int) ++ [[]]))] = [(([] : Go.Eng.Gd), Res.blk (27 : Nat) [SC.sl (Sh.str.pair (I6.pair Sh.unit)) vs, SC.sl Sh.str ms, SC.sl Sh.str cs, SC.sl (Sh.str.pair (shI.sl.pair Sh.unit)) fs, SC.sl (I6.pair (I6.pair Sh.unit)) ts]), (([] : Go.Eng.Gd), zM6), (([] : Go.Eng.Gd), Res.blk (31 : Nat) [SC.row (Nat.succ (0 : Nat)).succ.succ, SC.row (Nat.succ (0 : Nat)).succ.succ.succ, SC.row (Nat.succ (0 : Nat)).succ.succ.succ.succ, nS6]), (([] : Go.Eng.Gd), Res.row (3 : TypeId) I6 (List.map (fun x => x.snd.fst) (List.take x vs))), (([] : Go.Eng.Gd), Res.row (3 : TypeId) I6 (List.replicate x_1 (-1 : I6.den))), (([] : Go.Eng.Gd), Res.row (28 : TypeId) I6.sl (List.replicate x' []))] ∧ cs.length - x' < cs.length - x_2) (([] : List Go.Eng.Res) = [] ∧ Ent.tup [SV.agg [SC.sl I6 (newM vs ms cs fs ts).fst.fst, SC.sl I6 (newM vs ms cs fs ts).fst.snd.fst, SC.sl I6.sl (newM vs ms cs fs ts).fst.snd.snd.fst, SC.sl I6 (newM vs ms cs fs ts).fst.snd.snd.snd.fst], SV.c (SC.v (Value.int IntKind.i64 (newM vs ms cs fs ts).snd))] = Ent.tup [SV.agg [SC.sl I6 (List.map (fun x => x.snd.fst) (List.take x vs)), SC.sl I6 (List.replicate x_1 (-1 : I6.den)), SC.sl I6.sl (List.replicate x_2 ([] : List Int)), SC.sl I6 []], SV.c (SC.v (Value.int IntKind.i64 (0 : Int)))])))) := by
  have hb : vs.length ≤ 1000000 ∧ ms.length ≤ 1000000 ∧ cs.length ≤ 1000000 := ⟨hpre.1, hpre.2.1, hpre.2.2.1⟩
  obtain ⟨b1, b2, b3⟩ := hb
  unfold newM
  refine ⟨hpre, br_iff.2 ⟨fun h => ⟨rfl, ?_⟩, fun h => ?_⟩⟩
  · rw [if_neg (by simpa using h)]; rfl
  rw [if_pos (by simpa using h)]
  refine ⟨⟨0, by omega, ⟨rfl, trivial⟩, rfl⟩, fun k hk => br_iff.2 ⟨fun g => ?_, fun g => ?_⟩⟩
  · simp only [decide_eq_true_eq] at g
    have e : ∀ d : VD, vs[k]? = some d → List.map (fun x : VD => x.snd.fst) (List.take (k + 1) vs) = List.map (fun x : VD => x.snd.fst) (List.take k vs) ++ [d.2.1] := fun d hd => by rw [List.take_add_one, hd]; simp
    refine ⟨⟨by omega, by omega⟩, fun d hd => ⟨InA_iff.2 ?_, InR_i64.2 (by omega), k + 1, by omega, ⟨rfl, trivial⟩, ?_, by omega⟩⟩
    · simp only [List.length_map, List.length_take, List.length_cons, List.length_nil]; omega
    · rw [e d hd]
  simp only [decide_eq_false_iff_not] at g
  rw [List.take_of_length_le (i := k) (by omega)]
  refine ⟨⟨0, by omega, ⟨rfl, trivial⟩, rfl⟩, fun j hj => br_iff.2 ⟨fun g2 => ?_, fun g2 => ?_⟩⟩
  · simp only [decide_eq_true_eq] at g2
    refine ⟨InA_iff.2 ?_, InR_i64.2 (by omega), j + 1, by omega, ⟨rfl, trivial⟩, ?_, by omega⟩
    · simp only [List.length_replicate]; omega
    · have e : List.replicate (j + 1) (-1 : Int) = List.replicate j (-1) ++ [-1] := List.replicate_succ'
      rw [show List.replicate (j + 1) (-1 : I6.den) = List.replicate j (-1) ++ [-1] from e]
  simp only [decide_eq_false_iff_not] at g2
  have ej : j = ms.length := by omega
  subst ej
  refine ⟨⟨0, by omega, ⟨rfl, trivial⟩, rfl⟩, fun j hj => br_iff.2 ⟨fun g3 => ?_, fun g3 => ?_⟩⟩
  · simp only [decide_eq_true_eq] at g3
    refine ⟨InA_iff.2 ?_, InR_i64.2 (by omega), j + 1, by omega, ⟨rfl, trivial⟩, ?_, by omega⟩
    · simp only [List.length_replicate]; omega
    · have e : List.replicate (j + 1) ([] : List Int) = List.replicate j [] ++ [[]] := List.replicate_succ'
      rw [show List.replicate (j + 1) ([] : I6.sl.den) = List.replicate j [] ++ [[]] from e]
  simp only [decide_eq_false_iff_not] at g3
  have ej : j = cs.length := by omega
  subst ej
  exact ⟨rfl, rfl⟩
set_option maxHeartbeats 2000000 in
set_option maxRecDepth 100000 in
theorem f14_met : Go.Eng.Met Tryd.prog cx0.gd 14 ctNew :=
  (met_all (cx := cx0) (n := 64) (cl := cl14) (il := il14) (hl := hl14) (ml := ml14) (rc := [.data shM, .keep]) (lits := []) (suf := []) (by kernel_rfl) tis_ok ⟨f45_met, trivial⟩ trivial trivial trivial Tryd.func14 (by kernel_rfl) (by kernel_rfl) rfl (by kernel_rfl) (by kernel_rfl) (by simp) fun d hd => by
    obtain ⟨⟨vs, ms, cs, fs, ts, ⟨⟩⟩, ⟨⟩⟩ := d
    exact ex_of (ann14 vs ms cs fs ts) (f14_vc vs ms cs fs ts hd) (by kernel_rfl)).met
@[reducible] def ctL3N : CT := { ps := [shP, shM], pre := fun d => True, res := fun d => ([], vB (true)) }
@[reducible] noncomputable def cl3 : List (Nat × CT) := [(10, ctSm), (11, ctFew), (12, ctExa), (13, ctNew), (14, ctNew), (15, ctEq21), (16, ctMV), (17, ctMV)]
@[reducible] def ann3 (vs : List VD) (ms : List ByteArray) (cs : List ByteArray) (fs : List FD) (ts : List SD) (ws : List Int) (os : List Int) (qs : List (List Int)) (sg : List Int) : Nat → Option (St → Ann) := fun _ => none
@[reducible] def il3 : List (Nat × IP) := []
@[reducible] def hl3 : List (Nat × Nat × CT) := []
@[reducible] noncomputable def ml3 : List (Nat × MK) := []
set_option maxRecDepth 100000 in
theorem f3_vc (vs : List VD) (ms : List ByteArray) (cs : List ByteArray) (fs : List FD) (ts : List SD) (ws : List Int) (os : List Int) (qs : List (List Int)) (sg : List Int) :
    True ∧ ((!!smS vs ms cs fs ts) = true → True) ∧ br (!smS vs ms cs fs ts || !fewM (ws, os, qs, sg, ())) (True ∧ ([] : List Go.Eng.Res) = [] ∧ Ent.one (SV.c (SC.v (Value.bool true))) = Ent.one (SV.c (SC.v (Value.bool true)))) ((vs.length ≤ (1000000 : Nat) ∧ ms.length ≤ (1000000 : Nat) ∧ cs.length ≤ (1000000 : Nat) ∧ fs.length ≤ (1000000 : Nat) ∧ ts.length ≤ (1000000 : Nat) ∧ (∀ (x : Sh.str.den × (shI.sl.pair Sh.unit).den), x ∈ fs → List.length x.snd.fst ≤ (1000000 : Nat)) ∧ (instL fs).length ≤ (1000000 : Nat)) ∧ (vs.length ≤ (1000000 : Nat) ∧ ms.length ≤ (1000000 : Nat) ∧ cs.length ≤ (1000000 : Nat) ∧ fs.length ≤ (1000000 : Nat) ∧ ts.length ≤ (1000000 : Nat) ∧ (∀ (x : Sh.str.den × (shI.sl.pair Sh.unit).den), x ∈ fs → List.length x.snd.fst ≤ (1000000 : Nat)) ∧ (instL fs).length ≤ (1000000 : Nat)) ∧ (decide ((newM vs ms cs fs ts).snd = (newM vs ms cs fs ts).snd) = true → bndM (newM vs ms cs fs ts).fst) ∧ ((decide ((newM vs ms cs fs ts).snd = (newM vs ms cs fs ts).snd) && decide ((newM vs ms cs fs ts).fst = (newM vs ms cs fs ts).fst)) = true → (vs.length ≤ (1000000 : Nat) ∧ ms.length ≤ (1000000 : Nat) ∧ cs.length ≤ (1000000 : Nat) ∧ fs.length ≤ (1000000 : Nat) ∧ ts.length ≤ (1000000 : Nat) ∧ (∀ (x : Sh.str.den × (shI.sl.pair Sh.unit).den), x ∈ fs → List.length x.snd.fst ≤ (1000000 : Nat)) ∧ (instL fs).length ≤ (1000000 : Nat)) ∧ bndM (ws, os, qs, sg, ())) ∧ ((decide ((newM vs ms cs fs ts).snd = (newM vs ms cs fs ts).snd) && decide ((newM vs ms cs fs ts).fst = (newM vs ms cs fs ts).fst)) = true → (vs.length ≤ (1000000 : Nat) ∧ ms.length ≤ (1000000 : Nat) ∧ cs.length ≤ (1000000 : Nat) ∧ fs.length ≤ (1000000 : Nat) ∧ ts.length ≤ (1000000 : Nat) ∧ (∀ (x : Sh.str.den × (shI.sl.pair Sh.unit).den), x ∈ fs → List.length x.snd.fst ≤ (1000000 : Nat)) ∧ (instL fs).length ≤ (1000000 : Nat)) ∧ bndM (ws, os, qs, sg, ())) ∧ ((decide ((newM vs ms cs fs ts).snd = (newM vs ms cs fs ts).snd) && decide ((newM vs ms cs fs ts).fst = (newM vs ms cs fs ts).fst) && validM (vs, ms, cs, fs, ts, ()) (ws, os, qs, sg, ()) == validM (vs, ms, cs, fs, ts, ()) (ws, os, qs, sg, ())) = true → (vs.length ≤ (1000000 : Nat) ∧ ms.length ≤ (1000000 : Nat) ∧ cs.length ≤ (1000000 : Nat) ∧ fs.length ≤ (1000000 : Nat) ∧ ts.length ≤ (1000000 : Nat) ∧ (∀ (x : Sh.str.den × (shI.sl.pair Sh.unit).den), x ∈ fs → List.length x.snd.fst ≤ (1000000 : Nat)) ∧ (instL fs).length ≤ (1000000 : Nat)) ∧ bndM (newM vs ms cs fs ts).fst) ∧ ((decide ((newM vs ms cs fs ts).snd = (newM vs ms cs fs ts).snd) && decide ((newM vs ms cs fs ts).fst = (newM vs ms cs fs ts).fst) && validM (vs, ms, cs, fs, ts, ()) (ws, os, qs, sg, ()) == validM (vs, ms, cs, fs, ts, ()) (ws, os, qs, sg, ())) = true → (vs.length ≤ (1000000 : Nat) ∧ ms.length ≤ (1000000 : Nat) ∧ cs.length ≤ (1000000 : Nat) ∧ fs.length ≤ (1000000 : Nat) ∧ ts.length ≤ (1000000 : Nat) ∧ (∀ (x : Sh.str.den × (shI.sl.pair Sh.unit).den), x ∈ fs → List.length x.snd.fst ≤ (1000000 : Nat)) ∧ (instL fs).length ≤ (1000000 : Nat)) ∧ bndM (newM vs ms cs fs ts).fst) ∧ ((decide ((newM vs ms cs fs ts).snd = (newM vs ms cs fs ts).snd) && decide ((newM vs ms cs fs ts).fst = (newM vs ms cs fs ts).fst) && validM (vs, ms, cs, fs, ts, ()) (ws, os, qs, sg, ()) == validM (vs, ms, cs, fs, ts, ()) (ws, os, qs, sg, ()) && validM (vs, ms, cs, fs, ts, ()) (newM vs ms cs fs ts).fst == validM (vs, ms, cs, fs, ts, ()) (newM vs ms cs fs ts).fst) = true → True) ∧ ([] : List Go.Eng.Res) = [] ∧ Ent.one (SV.c (SC.v (Value.bool true))) = Ent.one (SV.c (SC.v (Value.bool (decide ((newM vs ms cs fs ts).snd = (newM vs ms cs fs ts).snd) && decide ((newM vs ms cs fs ts).fst = (newM vs ms cs fs ts).fst) && validM (vs, ms, cs, fs, ts, ()) (ws, os, qs, sg, ()) == validM (vs, ms, cs, fs, ts, ()) (ws, os, qs, sg, ()) && validM (vs, ms, cs, fs, ts, ()) (newM vs ms cs fs ts).fst == validM (vs, ms, cs, fs, ts, ()) (newM vs ms cs fs ts).fst && true))))) := by
  refine ⟨trivial, fun _ => trivial, br_iff.2 ⟨fun _ => ⟨trivial, rfl, rfl⟩, fun h => ?_⟩⟩
  have h : smS vs ms cs fs ts = true ∧ fewM (ws, os, qs, sg, ()) = true := by simpa using h
  have hb : bnd ((vs, ms, cs, fs, ts, ()), ()) := small_bnd h.1
  have hm : bndM (ws, os, qs, sg, ()) := few_bnd h.2
  have hn : bndM (newM vs ms cs fs ts).1 := new_bnd (small_lens h.1)
  refine ⟨hb, hb, ?_⟩
  repeat' first | exact hb | exact hm | exact hn | exact ⟨hb, hm⟩ | exact ⟨hb, hn⟩ | exact trivial | exact rfl | (refine And.intro ?_ ?_) | (intro _)
  all_goals simp
set_option maxHeartbeats 2000000 in
set_option maxRecDepth 100000 in
theorem f3_met : Go.Eng.Met Tryd.prog cx0.gd 3 ctL3N :=
  (met_all (cx := cx0) (n := 57) (cl := cl3) (il := il3) (hl := hl3) (ml := ml3) (rc := []) (lits := []) (suf := []) (by kernel_rfl) tis_ok ⟨f10_met, f11_met, f12_met, f13_met, f14_met, f15_met, f16_met, f17_met, trivial⟩ trivial trivial trivial Tryd.func3 (by kernel_rfl) (by kernel_rfl) rfl (by kernel_rfl) (by kernel_rfl) (by simp) fun d hd => by
    obtain ⟨⟨vs, ms, cs, fs, ts, ⟨⟩⟩, ⟨ws, os, qs, sg, ⟨⟩⟩, ⟨⟩⟩ := d
    exact ex_of (ann3 vs ms cs fs ts ws os qs sg) (f3_vc vs ms cs fs ts ws os qs sg) (by kernel_rfl)).met
end Go.Proofs.YtkgjfkdcnoockaaDoor
set_option linter.unusedSimpArgs false
set_option linter.unusedVariables false
set_option maxRecDepth 1000000
namespace Go.Proofs.YtkgjfkdcnoockaaDoor
open Go Go.Eng Go.ChangeShapes Go.WideShapes Go.ChangeAt Go.RowKit
theorem own : ownKnob Tryd.prog.godebug = none := by kernel_rfl
theorem laidOut : laidOutB Tryd.prog = true := by kernel_rfl
theorem rowed : mapsRowed Tryd.prog = true := by kernel_rfl
theorem full : ∀ t e, t < Tryd.prog.types.size → Tryd.prog.underlying t = some (.slice e) → 0 < Tryd.prog.cellsOf e := slices_full_of _ (by kernel_rfl)
theorem gname0 : Tryd.prog.globalNamed "modelcheck/inst.rows" = some 0 := by kernel_rfl
theorem gtype0 : (Tryd.prog.globals[0]?).map (·.type) = some 118 := by kernel_rfl
theorem gsok0 : (SOK Tryd.prog (.arr 22 (.pair .str (.pair (.arr 7 .bool) .unit)))).1 118 = true := by kernel_rfl
theorem gname1 : Tryd.prog.globalNamed "modelcheck/value.names" = some 1 := by kernel_rfl
theorem gtype1 : (Tryd.prog.globals[1]?).map (·.type) = some 126 := by kernel_rfl
theorem gsok1 : (SOK Tryd.prog (.arr 10 .str)).1 126 = true := by kernel_rfl
noncomputable def laidWorld (os : Os) : World :=
  { World.holding Tryd.prog os ⟨#[], #[], []⟩ with heap := (((World.holding Tryd.prog os ⟨#[], #[], []⟩).heap).modify 0 (lay #[.string ⟨#[99, 111, 110, 115, 116]⟩, .bool true, .bool false, .bool false, .bool false, .bool true, .bool false, .bool false, .string ⟨#[99, 111, 112, 121]⟩, .bool true, .bool true, .bool false, .bool false, .bool false, .bool false, .bool false, .string ⟨#[99, 97, 108, 99]⟩, .bool true, .bool true, .bool true, .bool false, .bool false, .bool true, .bool false, .string ⟨#[106, 117, 109, 112]⟩, .bool false, .bool false, .bool false, .bool false, .bool true, .bool false, .bool false, .string ⟨#[98, 114, 97, 110, 99, 104]⟩, .bool false, .bool true, .bool false, .bool false, .bool true, .bool false, .bool false, .string ⟨#[97, 115, 115, 101, 114, 116]⟩, .bool false, .bool true, .bool false, .bool false, .bool false, .bool false, .bool false, .string ⟨#[115, 116, 111, 112]⟩, .bool false, .bool false, .bool false, .bool false, .bool false, .bool false, .bool false, .string ⟨#[108, 111, 97, 100]⟩, .bool true, .bool false, .bool false, .bool true, .bool false, .bool false, .bool true, .string ⟨#[115, 116, 111, 114, 101]⟩, .bool false, .bool true, .bool false, .bool true, .bool false, .bool false, .bool true, .string ⟨#[115, 119, 97, 112]⟩, .bool true, .bool true, .bool false, .bool true, .bool false, .bool false, .bool true, .string ⟨#[102, 101, 116, 99, 104, 97, 100, 100]⟩, .bool true, .bool true, .bool false, .bool true, .bool false, .bool false, .bool true, .string ⟨#[99, 97, 115]⟩, .bool true, .bool true, .bool true, .bool true, .bool false, .bool false, .bool true, .string ⟨#[102, 101, 110, 99, 101]⟩, .bool false, .bool false, .bool false, .bool false, .bool false, .bool false, .bool false, .string ⟨#[97, 119, 97, 105, 116]⟩, .bool true, .bool true, .bool false, .bool true, .bool false, .bool true, .bool true, .string ⟨#[108, 111, 99, 107]⟩, .bool false, .bool false, .bool false, .bool true, .bool false, .bool false, .bool false, .string ⟨#[117, 110, 108, 111, 99, 107]⟩, .bool false, .bool false, .bool false, .bool true, .bool false, .bool false, .bool false, .string ⟨#[116, 114, 121, 108, 111, 99, 107]⟩, .bool true, .bool false, .bool false, .bool true, .bool false, .bool false, .bool false, .string ⟨#[119, 97, 105, 116]⟩, .bool false, .bool false, .bool false, .bool true, .bool true, .bool false, .bool false, .string ⟨#[115, 105, 103, 110, 97, 108]⟩, .bool false, .bool false, .bool false, .bool true, .bool false, .bool false, .bool false, .string ⟨#[98, 114, 111, 97, 100, 99, 97, 115, 116]⟩, .bool false, .bool false, .bool false, .bool true, .bool false, .bool false, .bool false, .string ⟨#[115, 112, 97, 119, 110]⟩, .bool true, .bool true, .bool false, .bool true, .bool false, .bool false, .bool false, .string ⟨#[106, 111, 105, 110]⟩, .bool false, .bool true, .bool false, .bool false, .bool false, .bool false, .bool false])).modify 1 (lay #[.string ⟨#[97, 100, 100]⟩, .string ⟨#[115, 117, 98]⟩, .string ⟨#[109, 117, 108]⟩, .string ⟨#[97, 110, 100]⟩, .string ⟨#[111, 114]⟩, .string ⟨#[120, 111, 114]⟩, .string ⟨#[101, 113]⟩, .string ⟨#[110, 101]⟩, .string ⟨#[108, 116]⟩, .string ⟨#[108, 101]⟩]) }
namespace memoryNewL
theorem globs {W : World} (hL : laidMetH Tryd.prog Rows.memoryNewRow.laid W) : GlobOK gd0 (FH.all W) := by
  intro g p hp
  unfold gd0 at hp
  split at hp
  · cases hp; exact glob_open hL (by kernel_rfl) (n := "modelcheck/inst.rows") (D := Rows.laid_modelcheck_inst_rows) (by simp [Rows.memoryNewRow]) gname0 gtype0 gsok0 (by kernel_rfl)
  · cases hp; exact glob_open hL (by kernel_rfl) (n := "modelcheck/value.names") (D := Rows.laid_modelcheck_value_names) (by simp [Rows.memoryNewRow]) gname1 gtype1 gsok1 (by kernel_rfl)
  · cases hp
theorem laid_met (os : Os) : laidMet Tryd.prog Rows.memoryNewRow.laid ((laidWorld os).forCall (fun _ _ => 0) ⟨#[], #[.agg #[.slice none 0 0, .slice none 0 0, .slice none 0 0, .slice none 0 0, .slice none 0 0], .agg #[.slice none 0 0, .slice none 0 0, .slice none 0 0, .slice none 0 0]], []⟩).memory :=
  laidMet_of_run' 20 (by kernel_rfl) (by kernel_rfl)
theorem reads (os : Os) {H : Type} (enc : TypeId × Value → H) : ∃ places, DataW.whole enc Tryd.prog ((laidWorld os).forCall (fun _ _ => 0) ⟨#[], #[.agg #[.slice none 0 0, .slice none 0 0, .slice none 0 0, .slice none 0 0, .slice none 0 0], .agg #[.slice none 0 0, .slice none 0 0, .slice none 0 0, .slice none 0 0]], []⟩).memory Tryd.f3.params.toList Rows.memoryNewSpec.vars false (#[.agg #[.slice none 0 0, .slice none 0 0, .slice none 0 0, .slice none 0 0, .slice none 0 0], .agg #[.slice none 0 0, .slice none 0 0, .slice none 0 0, .slice none 0 0]] : Array Value).toList 20 = some ([.agg [.nil, .nil, .nil, .nil, .nil], .agg [.nil, .nil, .nil, .nil]], [], places) :=
  ⟨[], by kernel_rfl⟩
theorem lifted (os : Os) (started : os.Started) (H : Type) (enc : TypeId × Value → H) (F : Stop.Interp) :
    ReturnsInHanded {} Tryd.checked os 3 .any ((OpenSpec.ofChange Rows.memoryNewSpec).preRow enc Tryd.prog Tryd.f3 Rows.memoryNewRow.domain false Rows.memoryNewRow.laid) (((OpenSpec.ofChange Rows.memoryNewSpec).at F).post enc Tryd.prog Tryd.f3 false true false false) := by
  obtain ⟨places, hx⟩ := reads os enc
  refine returnsInHanded_of_row (C := Tryd.checked) (s := OpenSpec.ofChange Rows.memoryNewSpec) own started (by kernel_rfl) Tryd.func3
    (witness_row_at (enc := enc) (C := Tryd.checked) false (laidWorld os) #[.agg #[.slice none 0 0, .slice none 0 0, .slice none 0 0, .slice none 0 0, .slice none 0 0], .agg #[.slice none 0 0, .slice none 0 0, .slice none 0 0, .slice none 0 0]] rfl (by kernel_rfl) (by kernel_rfl) (by kernel_rfl)
      (OpenSpec.preRow_of_cond 20 hx (by kernel_rfl) (fun k hk => by cases hk) (by kernel_rfl) (laid_met os))) ?_
  intro W base args ds gs before hval hW _ hcond hwt hL _ _
  refine call_true (fn := Tryd.f3) f3_met laidOut rowed full (by decide +kernel) (t := 4) (by kernel_rfl) (by kernel_rfl) rfl (by kernel_rfl) (fun _ => rfl) (fun d hd hwf => ?_) hval hW (globs hL)
  match ds, rdats_len hd with
  | [d0, d1], _ => exact ⟨rfl, by trivial⟩
theorem said : Rows.MemoryNewSaid :=
  OpenClaim.holds_of_cond 3 Tryd.f3 rfl rfl rfl rfl rfl rfl rfl ⟨rfl, rfl, rfl, rfl, rfl⟩ rfl rfl rfl rfl rfl (by kernel_rfl) Tryd.func3 (by kernel_rfl)
    (of_decide_eq_true (by kernel_rfl)) (by unfold Func.isWrapper; first | (rw [if_pos (by decide +kernel)]; kernel_rfl) | (rw [if_neg (by decide +kernel)]; exact ⟨rfl, rfl⟩))
    (fun os started H enc _ F => by rw [OpenClaim.pre_eq_preRow]; exact lifted os started H enc F)
theorem plain (f : FuncId) (fn : Func) (hf : Tryd.pinned.checked.prog.funcNamed "modelcheck/modelchecklaw21.MemoryNew" = some f) (hfn : Tryd.pinned.checked.prog.funcs[f]? = some fn) :
    false = Tryd.pinned.checked.prog.looks [] ∧ ∀ (j : Nat) t, fn.params[j]? = some t → Tryd.pinned.checked.prog.wantsStandIn t = false := by
  obtain rfl : f = 3 := Option.some.inj ((show Tryd.prog.funcNamed "modelcheck/modelchecklaw21.MemoryNew" = some 3 by kernel_rfl).symm.trans hf) |>.symm
  obtain rfl : fn = Tryd.f3 := (Option.some.inj (Tryd.func3.symm.trans hfn)).symm
  refine ⟨by kernel_rfl, fun j t ht => ?_⟩
  have hm : t ∈ Tryd.f3.params.toList := List.mem_of_getElem? (by simpa using ht)
  have key : ∀ t ∈ Tryd.f3.params.toList, Tryd.prog.wantsStandIn t = false := by decide +kernel
  exact key t hm
theorem card : Rows.MemoryNewCardSaid :=
  Claim7.holds_tied_plain_at .later [] _ _ _ _ said (fun _ h => by cases h) (by kernel_rfl) (fun _ h => by cases h) memoryNew_row_tie rfl ⟨rfl, rfl⟩ (by kernel_rfl) rfl plain (by kernel_rfl)
end memoryNewL
end Go.Proofs.YtkgjfkdcnoockaaDoor
