/-
  No cell of these rows narrows 'for every input' (looked for: loops, veiled, ifaces, maps, wideKeys, modest, calm, conditions, laid).
  DERIVED. THE GIVEN ROWS OF THIS SEAT. 6 by the template 'for every input the law returns true; each argument reads behind the call as it read before'; 0 by the template 'total and deterministic' (their statements: YtkndekaioeifdaaTotals.lean).
  GIVEN WITH THE SEED: the statements are not yours to turn. If you find one false, say at which input.
  Laid BY PROGRAM, IN A SANDBOX (cutbox-rows.mjs): the forced cells as the released guide's own fill.sh prints them over the translation 3a82e81765c34689… (all of the seat's roots in one cut). By AI agents, Wed Nov 11 2026. No macro, syntax, notation, axiom, sorry.
-/
import Derived.Test.YtkndekaioeifdaaChecked
import GoSem.Claim
import GoSem.ClaimJoined
import GoSem.ClaimMapViews
import Derived.JoinedTies
import Derived.KernelRfl
namespace Go.Proofs.Ytkndekaioeifdaa
/- THE CELL 'sum', in the pinned program and in every row, IS THE sha256 OF THE DUMP (.gsa) THAT YtkndekaioeifdaaProg.lean LOADS. Nothing in Lean hashes anything: it is a label: what it is worth is what the hold of that sum in a sandbox is worth. -/
noncomputable def Try.pinned : Pinned := { name := "ytkndekaioeifdaa", sum := "3a82e81765c3468996e053a08967f49f87ab48ff06c8efc15e64b5b8ffc6dc02", checked := Try.checked }
namespace Rows
def none {H : Type} : Left H := { results := [], args := [] }

/-- 'modelchecklaw02.IntsetSubsets': WHATEVER THE INPUT: true; the input reads as it did. -/
def intsetSubsetsSpec : ChangeSpec := { name := "intsetSubsets", fn := fun _ => fun
  | [d] => { results := [.lit (.bool true)], args := [d] }
  | _ => none }
def intsetSubsetsRow : OpenClaim := { program := "ytkndekaioeifdaa", sum := "3a82e81765c3468996e053a08967f49f87ab48ff06c8efc15e64b5b8ffc6dc02", func := "modelcheck/modelchecklaw02.IntsetSubsets", spec := "intsetSubsets", unfollowed := true, recurses := true, apart := false }
def IntsetSubsetsSaid : Prop := intsetSubsetsRow.holds Try.pinned (OpenSpec.ofChange intsetSubsetsSpec)

/-- ITS FALSE NEIGHBOUR: 'it returns false'. Refute it at one input. -/
def intsetSubsetsWrong : ChangeSpec := { name := "intsetSubsets", fn := fun _ => fun
  | [d] => { results := [.lit (.bool false)], args := [d] }
  | _ => none }
def IntsetSubsetsWrongFalsely : Prop := intsetSubsetsRow.holds Try.pinned (OpenSpec.ofChange intsetSubsetsWrong)

/-- 'modelchecklaw02.IntsetPower': WHATEVER THE INPUT: true; the input reads as it did. -/
def intsetPowerSpec : ChangeSpec := { name := "intsetPower", fn := fun _ => fun
  | [d] => { results := [.lit (.bool true)], args := [d] }
  | _ => none }
def intsetPowerRow : OpenClaim := { program := "ytkndekaioeifdaa", sum := "3a82e81765c3468996e053a08967f49f87ab48ff06c8efc15e64b5b8ffc6dc02", func := "modelcheck/modelchecklaw02.IntsetPower", spec := "intsetPower", unfollowed := true, recurses := true, apart := false }
def IntsetPowerSaid : Prop := intsetPowerRow.holds Try.pinned (OpenSpec.ofChange intsetPowerSpec)

/-- ITS FALSE NEIGHBOUR: 'it returns false'. Refute it at one input. -/
def intsetPowerWrong : ChangeSpec := { name := "intsetPower", fn := fun _ => fun
  | [d] => { results := [.lit (.bool false)], args := [d] }
  | _ => none }
def IntsetPowerWrongFalsely : Prop := intsetPowerRow.holds Try.pinned (OpenSpec.ofChange intsetPowerWrong)

/-- 'modelchecklaw02.IntsetMake': WHATEVER THE INPUT: true; the input reads as it did. -/
def intsetMakeSpec : ChangeSpec := { name := "intsetMake", fn := fun _ => fun
  | [d1, d2] => { results := [.lit (.bool true)], args := [d1, d2] }
  | _ => none }
def intsetMakeRow : OpenClaim := { program := "ytkndekaioeifdaa", sum := "3a82e81765c3468996e053a08967f49f87ab48ff06c8efc15e64b5b8ffc6dc02", func := "modelcheck/modelchecklaw02.IntsetMake", spec := "intsetMake", unfollowed := true, recurses := true, apart := false }
def IntsetMakeSaid : Prop := intsetMakeRow.holds Try.pinned (OpenSpec.ofChange intsetMakeSpec)

/-- ITS FALSE NEIGHBOUR: 'it returns false'. Refute it at one input. -/
def intsetMakeWrong : ChangeSpec := { name := "intsetMake", fn := fun _ => fun
  | [d1, d2] => { results := [.lit (.bool false)], args := [d1, d2] }
  | _ => none }
def IntsetMakeWrongFalsely : Prop := intsetMakeRow.holds Try.pinned (OpenSpec.ofChange intsetMakeWrong)

/-- 'modelchecklaw02.IntsetEdit': WHATEVER THE INPUT: true; the input reads as it did. -/
def intsetEditSpec : ChangeSpec := { name := "intsetEdit", fn := fun _ => fun
  | [d1, d2] => { results := [.lit (.bool true)], args := [d1, d2] }
  | _ => none }
def intsetEditRow : OpenClaim := { program := "ytkndekaioeifdaa", sum := "3a82e81765c3468996e053a08967f49f87ab48ff06c8efc15e64b5b8ffc6dc02", func := "modelcheck/modelchecklaw02.IntsetEdit", spec := "intsetEdit", unfollowed := true, recurses := true, apart := false }
def IntsetEditSaid : Prop := intsetEditRow.holds Try.pinned (OpenSpec.ofChange intsetEditSpec)

/-- ITS FALSE NEIGHBOUR: 'it returns false'. Refute it at one input. -/
def intsetEditWrong : ChangeSpec := { name := "intsetEdit", fn := fun _ => fun
  | [d1, d2] => { results := [.lit (.bool false)], args := [d1, d2] }
  | _ => none }
def IntsetEditWrongFalsely : Prop := intsetEditRow.holds Try.pinned (OpenSpec.ofChange intsetEditWrong)

/-- 'modelchecklaw02.IntsetCombine': WHATEVER THE INPUT: true; the input reads as it did. -/
def intsetCombineSpec : ChangeSpec := { name := "intsetCombine", fn := fun _ => fun
  | [d1, d2] => { results := [.lit (.bool true)], args := [d1, d2] }
  | _ => none }
def intsetCombineRow : OpenClaim := { program := "ytkndekaioeifdaa", sum := "3a82e81765c3468996e053a08967f49f87ab48ff06c8efc15e64b5b8ffc6dc02", func := "modelcheck/modelchecklaw02.IntsetCombine", spec := "intsetCombine", unfollowed := true, recurses := true, apart := false }
def IntsetCombineSaid : Prop := intsetCombineRow.holds Try.pinned (OpenSpec.ofChange intsetCombineSpec)

/-- ITS FALSE NEIGHBOUR: 'it returns false'. Refute it at one input. -/
def intsetCombineWrong : ChangeSpec := { name := "intsetCombine", fn := fun _ => fun
  | [d1, d2] => { results := [.lit (.bool false)], args := [d1, d2] }
  | _ => none }
def IntsetCombineWrongFalsely : Prop := intsetCombineRow.holds Try.pinned (OpenSpec.ofChange intsetCombineWrong)

/-- 'modelchecklaw02.IntsetAlgebra': WHATEVER THE INPUT: true; the input reads as it did. -/
def intsetAlgebraSpec : ChangeSpec := { name := "intsetAlgebra", fn := fun _ => fun
  | [d1, d2, d3] => { results := [.lit (.bool true)], args := [d1, d2, d3] }
  | _ => none }
def intsetAlgebraRow : OpenClaim := { program := "ytkndekaioeifdaa", sum := "3a82e81765c3468996e053a08967f49f87ab48ff06c8efc15e64b5b8ffc6dc02", func := "modelcheck/modelchecklaw02.IntsetAlgebra", spec := "intsetAlgebra", unfollowed := true, recurses := true, apart := false }
def IntsetAlgebraSaid : Prop := intsetAlgebraRow.holds Try.pinned (OpenSpec.ofChange intsetAlgebraSpec)

/-- ITS FALSE NEIGHBOUR: 'it returns false'. Refute it at one input. -/
def intsetAlgebraWrong : ChangeSpec := { name := "intsetAlgebra", fn := fun _ => fun
  | [d1, d2, d3] => { results := [.lit (.bool false)], args := [d1, d2, d3] }
  | _ => none }
def IntsetAlgebraWrongFalsely : Prop := intsetAlgebraRow.holds Try.pinned (OpenSpec.ofChange intsetAlgebraWrong)

/- THE SECOND FORM. 'bulk': how many values and letters a reading holds, each counted each time it is reached (what is shared counts as often as it is met; a slice's spare places count too). A statement '..UptoSaid' is the law's where the arguments, and the package variables that the reading takes, are together of bulk at most 1048576: NARROWER than '..Said'. Prove '..Said' where nothing that the law and all that it calls make is longer than what came in: it says more and counts as full. Else prove '..UptoSaid'. A law counts once. -/
mutual
def uptoBulk {H : Type} : DataW H → Nat
  | .lit (.string bytes) => bytes.length + 1
  | .lit _ => 1
  | .nil => 1
  | .ptr d => uptoBulk d + 1
  | .slice elems spare => uptoBulkAll elems + uptoBulkAll spare + 1
  | .agg parts => uptoBulkAll parts + 1
  | .iface _ d => uptoBulk d + 1
  | .map entries => uptoBulkEntries entries + 1
  | .held _ => 1
def uptoBulkAll {H : Type} : List (DataW H) → Nat
  | [] => 0
  | d :: r => uptoBulk d + uptoBulkAll r
def uptoBulkEntries {H : Type} : List (Lit × DataW H) → Nat
  | [] => 0
  | x :: r => uptoBulkEntry x + uptoBulkEntries r
def uptoBulkEntry {H : Type} : Lit × DataW H → Nat
  | (.string bytes, d) => bytes.length + uptoBulk d + 1
  | (_, d) => uptoBulk d + 1
 end
def uptoSmall : (H : Type) → List (DataW H) → Bool := fun _ ds => decide (uptoBulkAll ds ≤ 1048576)
def OpenSpec.upto (s : _root_.Go.ChangeSpec) : _root_.Go.OpenSpec := { _root_.Go.OpenSpec.ofChange s with cond := some uptoSmall }

/-- 'modelchecklaw02.IntsetSubsets', WHERE WHAT IT READS IS OF BULK AT MOST 1048576: true; the input reads as it did. -/
def intsetSubsetsUptoRow : OpenClaim := { program := "ytkndekaioeifdaa", sum := "3a82e81765c3468996e053a08967f49f87ab48ff06c8efc15e64b5b8ffc6dc02", func := "modelcheck/modelchecklaw02.IntsetSubsets", spec := "intsetSubsets", unfollowed := true, recurses := true, apart := false, narrowed := true }
def IntsetSubsetsUptoSaid : Prop := intsetSubsetsUptoRow.holds Try.pinned (OpenSpec.upto intsetSubsetsSpec)

/-- 'modelchecklaw02.IntsetPower', WHERE WHAT IT READS IS OF BULK AT MOST 1048576: true; the input reads as it did. -/
def intsetPowerUptoRow : OpenClaim := { program := "ytkndekaioeifdaa", sum := "3a82e81765c3468996e053a08967f49f87ab48ff06c8efc15e64b5b8ffc6dc02", func := "modelcheck/modelchecklaw02.IntsetPower", spec := "intsetPower", unfollowed := true, recurses := true, apart := false, narrowed := true }
def IntsetPowerUptoSaid : Prop := intsetPowerUptoRow.holds Try.pinned (OpenSpec.upto intsetPowerSpec)

/-- 'modelchecklaw02.IntsetMake', WHERE WHAT IT READS IS OF BULK AT MOST 1048576: true; the input reads as it did. -/
def intsetMakeUptoRow : OpenClaim := { program := "ytkndekaioeifdaa", sum := "3a82e81765c3468996e053a08967f49f87ab48ff06c8efc15e64b5b8ffc6dc02", func := "modelcheck/modelchecklaw02.IntsetMake", spec := "intsetMake", unfollowed := true, recurses := true, apart := false, narrowed := true }
def IntsetMakeUptoSaid : Prop := intsetMakeUptoRow.holds Try.pinned (OpenSpec.upto intsetMakeSpec)

/-- 'modelchecklaw02.IntsetEdit', WHERE WHAT IT READS IS OF BULK AT MOST 1048576: true; the input reads as it did. -/
def intsetEditUptoRow : OpenClaim := { program := "ytkndekaioeifdaa", sum := "3a82e81765c3468996e053a08967f49f87ab48ff06c8efc15e64b5b8ffc6dc02", func := "modelcheck/modelchecklaw02.IntsetEdit", spec := "intsetEdit", unfollowed := true, recurses := true, apart := false, narrowed := true }
def IntsetEditUptoSaid : Prop := intsetEditUptoRow.holds Try.pinned (OpenSpec.upto intsetEditSpec)

/-- 'modelchecklaw02.IntsetCombine', WHERE WHAT IT READS IS OF BULK AT MOST 1048576: true; the input reads as it did. -/
def intsetCombineUptoRow : OpenClaim := { program := "ytkndekaioeifdaa", sum := "3a82e81765c3468996e053a08967f49f87ab48ff06c8efc15e64b5b8ffc6dc02", func := "modelcheck/modelchecklaw02.IntsetCombine", spec := "intsetCombine", unfollowed := true, recurses := true, apart := false, narrowed := true }
def IntsetCombineUptoSaid : Prop := intsetCombineUptoRow.holds Try.pinned (OpenSpec.upto intsetCombineSpec)

/-- 'modelchecklaw02.IntsetAlgebra', WHERE WHAT IT READS IS OF BULK AT MOST 1048576: true; the input reads as it did. -/
def intsetAlgebraUptoRow : OpenClaim := { program := "ytkndekaioeifdaa", sum := "3a82e81765c3468996e053a08967f49f87ab48ff06c8efc15e64b5b8ffc6dc02", func := "modelcheck/modelchecklaw02.IntsetAlgebra", spec := "intsetAlgebra", unfollowed := true, recurses := true, apart := false, narrowed := true }
def IntsetAlgebraUptoSaid : Prop := intsetAlgebraUptoRow.holds Try.pinned (OpenSpec.upto intsetAlgebraSpec)

end Rows
end Go.Proofs.Ytkndekaioeifdaa
