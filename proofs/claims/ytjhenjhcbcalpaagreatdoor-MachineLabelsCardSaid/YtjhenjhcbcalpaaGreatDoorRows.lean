/-
  NARROWER THAN 'FOR EVERY INPUT', by the rows' own cells (each row's printed sentence says how): MachineStarts: laid · MachineLabels: laid · MachineSteps: laid · MachineCopies: laid · MachineReaches: laid · MachineCommute: laid · MachineStays: laid.
  DERIVED. THE GIVEN ROWS OF THIS SEAT. 7 by the template 'for every input the law returns true; each argument reads behind the call as it read before'; 0 by the template 'total and deterministic' (their statements: YtjhenjhcbcalpaaGreatDoorTotals.lean).
  GIVEN WITH THE SEED: the statements are not yours to turn. If you find one false, say at which input.
  Laid BY PROGRAM, IN A SANDBOX (cutbox-rows.mjs): the forced cells as the released guide's own fill.sh prints them over the translation e5a9891fcbd0c12c… (all of the seat's roots in one cut). By AI agents, Wed Nov 11 2026. No macro, syntax, notation, axiom, sorry.
-/
import Derived.Test.YtjhenjhcbcalpaaGreatDoorChecked
import GoSem.Claim
import GoSem.ClaimJoined
import GoSem.ClaimMapViews
import Derived.JoinedTies
import Derived.KernelRfl
namespace Go.Proofs.YtjhenjhcbcalpaaGreatDoor
/- THE CELL 'sum', in the pinned program and in every row, IS THE sha256 OF THE DUMP (.gsa) THAT YtjhenjhcbcalpaaGreatDoorProg.lean LOADS. Nothing in Lean hashes anything: it is a label: what it is worth is what the hold of that sum in a sandbox is worth. -/
noncomputable def Tryz.pinned : Pinned := { name := "ytjhenjhcbcalpaagreatdoor", sum := "e5a9891fcbd0c12c35bda2190db5ddf292a2d03bc1e5ddc4cdf3c3c5c43b9fd5", checked := Tryz.checked }
namespace Rows
def none {H : Type} : Left H := { results := [], args := [] }

/- WHAT THE LISTED PACKAGE-LEVEL VARIABLES READ AS WHEN THE CALL BEGINS. Each datum BY PROGRAM (the guide's laid-datum.mjs) off the statement by which the dump's own 'gosem.cut.vars' lays the variable. In a bare row this is a premise. The card (YtjhenjhcbcalpaaGreatDoorCards.lean) ties it to the program's text. -/
def laid_modelcheck_value_names {H : Type} : DataW H := .agg [.lit (.string [97, 100, 100]), .lit (.string [115, 117, 98]), .lit (.string [109, 117, 108]), .lit (.string [97, 110, 100]), .lit (.string [111, 114]), .lit (.string [120, 111, 114]), .lit (.string [101, 113]), .lit (.string [110, 101]), .lit (.string [108, 116]), .lit (.string [108, 101])]
def laid_modelcheck_inst_rows {H : Type} : DataW H := .agg [.agg [.lit (.string [99, 111, 110, 115, 116]), .agg [.lit (.bool true), .lit (.bool false), .lit (.bool false), .lit (.bool false), .lit (.bool true), .lit (.bool false), .lit (.bool false)]], .agg [.lit (.string [99, 111, 112, 121]), .agg [.lit (.bool true), .lit (.bool true), .lit (.bool false), .lit (.bool false), .lit (.bool false), .lit (.bool false), .lit (.bool false)]], .agg [.lit (.string [99, 97, 108, 99]), .agg [.lit (.bool true), .lit (.bool true), .lit (.bool true), .lit (.bool false), .lit (.bool false), .lit (.bool true), .lit (.bool false)]], .agg [.lit (.string [106, 117, 109, 112]), .agg [.lit (.bool false), .lit (.bool false), .lit (.bool false), .lit (.bool false), .lit (.bool true), .lit (.bool false), .lit (.bool false)]], .agg [.lit (.string [98, 114, 97, 110, 99, 104]), .agg [.lit (.bool false), .lit (.bool true), .lit (.bool false), .lit (.bool false), .lit (.bool true), .lit (.bool false), .lit (.bool false)]], .agg [.lit (.string [97, 115, 115, 101, 114, 116]), .agg [.lit (.bool false), .lit (.bool true), .lit (.bool false), .lit (.bool false), .lit (.bool false), .lit (.bool false), .lit (.bool false)]], .agg [.lit (.string [115, 116, 111, 112]), .agg [.lit (.bool false), .lit (.bool false), .lit (.bool false), .lit (.bool false), .lit (.bool false), .lit (.bool false), .lit (.bool false)]], .agg [.lit (.string [108, 111, 97, 100]), .agg [.lit (.bool true), .lit (.bool false), .lit (.bool false), .lit (.bool true), .lit (.bool false), .lit (.bool false), .lit (.bool true)]], .agg [.lit (.string [115, 116, 111, 114, 101]), .agg [.lit (.bool false), .lit (.bool true), .lit (.bool false), .lit (.bool true), .lit (.bool false), .lit (.bool false), .lit (.bool true)]], .agg [.lit (.string [115, 119, 97, 112]), .agg [.lit (.bool true), .lit (.bool true), .lit (.bool false), .lit (.bool true), .lit (.bool false), .lit (.bool false), .lit (.bool true)]], .agg [.lit (.string [102, 101, 116, 99, 104, 97, 100, 100]), .agg [.lit (.bool true), .lit (.bool true), .lit (.bool false), .lit (.bool true), .lit (.bool false), .lit (.bool false), .lit (.bool true)]], .agg [.lit (.string [99, 97, 115]), .agg [.lit (.bool true), .lit (.bool true), .lit (.bool true), .lit (.bool true), .lit (.bool false), .lit (.bool false), .lit (.bool true)]], .agg [.lit (.string [102, 101, 110, 99, 101]), .agg [.lit (.bool false), .lit (.bool false), .lit (.bool false), .lit (.bool false), .lit (.bool false), .lit (.bool false), .lit (.bool false)]], .agg [.lit (.string [97, 119, 97, 105, 116]), .agg [.lit (.bool true), .lit (.bool true), .lit (.bool false), .lit (.bool true), .lit (.bool false), .lit (.bool true), .lit (.bool true)]], .agg [.lit (.string [108, 111, 99, 107]), .agg [.lit (.bool false), .lit (.bool false), .lit (.bool false), .lit (.bool true), .lit (.bool false), .lit (.bool false), .lit (.bool false)]], .agg [.lit (.string [117, 110, 108, 111, 99, 107]), .agg [.lit (.bool false), .lit (.bool false), .lit (.bool false), .lit (.bool true), .lit (.bool false), .lit (.bool false), .lit (.bool false)]], .agg [.lit (.string [116, 114, 121, 108, 111, 99, 107]), .agg [.lit (.bool true), .lit (.bool false), .lit (.bool false), .lit (.bool true), .lit (.bool false), .lit (.bool false), .lit (.bool false)]], .agg [.lit (.string [119, 97, 105, 116]), .agg [.lit (.bool false), .lit (.bool false), .lit (.bool false), .lit (.bool true), .lit (.bool true), .lit (.bool false), .lit (.bool false)]], .agg [.lit (.string [115, 105, 103, 110, 97, 108]), .agg [.lit (.bool false), .lit (.bool false), .lit (.bool false), .lit (.bool true), .lit (.bool false), .lit (.bool false), .lit (.bool false)]], .agg [.lit (.string [98, 114, 111, 97, 100, 99, 97, 115, 116]), .agg [.lit (.bool false), .lit (.bool false), .lit (.bool false), .lit (.bool true), .lit (.bool false), .lit (.bool false), .lit (.bool false)]], .agg [.lit (.string [115, 112, 97, 119, 110]), .agg [.lit (.bool true), .lit (.bool true), .lit (.bool false), .lit (.bool true), .lit (.bool false), .lit (.bool false), .lit (.bool false)]], .agg [.lit (.string [106, 111, 105, 110]), .agg [.lit (.bool false), .lit (.bool true), .lit (.bool false), .lit (.bool false), .lit (.bool false), .lit (.bool false), .lit (.bool false)]]]
def laid_modelcheck_event_rows {H : Type} : DataW H := .agg [.agg [.lit (.int .i64 7), .lit (.bool true), .lit (.int .i64 (-2147483648)), .lit (.int .i64 2147483647), .lit (.bool false), .lit (.int .i64 (-1)), .lit (.int .i64 1), .lit (.bool false)], .agg [.lit (.int .i64 7), .lit (.bool true), .lit (.int .i64 0), .lit (.int .i64 0), .lit (.bool true), .lit (.int .i64 (-2)), .lit (.int .i64 1), .lit (.bool true)], .agg [.lit (.int .i64 7), .lit (.bool true), .lit (.int .i64 0), .lit (.int .i64 0), .lit (.bool true), .lit (.int .i64 0), .lit (.int .i64 4), .lit (.bool true)], .agg [.lit (.int .i64 7), .lit (.bool false), .lit (.int .i64 0), .lit (.int .i64 0), .lit (.bool true), .lit (.int .i64 0), .lit (.int .i64 1), .lit (.bool true)], .agg [.lit (.int .i64 7), .lit (.bool true), .lit (.int .i64 (-2147483648)), .lit (.int .i64 2147483647), .lit (.bool true), .lit (.int .i64 (-2)), .lit (.int .i64 1), .lit (.bool true)], .agg [.lit (.int .i64 7), .lit (.bool true), .lit (.int .i64 (-2147483648)), .lit (.int .i64 2147483647), .lit (.bool false), .lit (.int .i64 (-2)), .lit (.int .i64 1), .lit (.bool false)], .agg [.lit (.int .i64 0), .lit (.bool false), .lit (.int .i64 0), .lit (.int .i64 0), .lit (.bool false), .lit (.int .i64 (-2)), .lit (.int .i64 0), .lit (.bool false)], .agg [.lit (.int .i64 7), .lit (.bool true), .lit (.int .i64 (-2147483648)), .lit (.int .i64 2147483647), .lit (.bool false), .lit (.int .i64 (-1)), .lit (.int .i64 1), .lit (.bool false)], .agg [.lit (.int .i64 3), .lit (.bool false), .lit (.int .i64 0), .lit (.int .i64 0), .lit (.bool false), .lit (.int .i64 (-2)), .lit (.int .i64 2), .lit (.bool true)], .agg [.lit (.int .i64 3), .lit (.bool false), .lit (.int .i64 0), .lit (.int .i64 0), .lit (.bool false), .lit (.int .i64 (-2)), .lit (.int .i64 2), .lit (.bool true)], .agg [.lit (.int .i64 3), .lit (.bool false), .lit (.int .i64 0), .lit (.int .i64 1), .lit (.bool false), .lit (.int .i64 (-2)), .lit (.int .i64 2), .lit (.bool true)], .agg [.lit (.int .i64 3), .lit (.bool false), .lit (.int .i64 0), .lit (.int .i64 0), .lit (.bool false), .lit (.int .i64 (-2)), .lit (.int .i64 3), .lit (.bool true)], .agg [.lit (.int .i64 3), .lit (.bool false), .lit (.int .i64 0), .lit (.int .i64 0), .lit (.bool false), .lit (.int .i64 (-2)), .lit (.int .i64 3), .lit (.bool true)], .agg [.lit (.int .i64 3), .lit (.bool false), .lit (.int .i64 0), .lit (.int .i64 1), .lit (.bool false), .lit (.int .i64 (-2)), .lit (.int .i64 3), .lit (.bool true)], .agg [.lit (.int .i64 3), .lit (.bool false), .lit (.int .i64 0), .lit (.int .i64 (-1)), .lit (.bool false), .lit (.int .i64 (-2)), .lit (.int .i64 3), .lit (.bool true)], .agg [.lit (.int .i64 (-1)), .lit (.bool false), .lit (.int .i64 0), .lit (.int .i64 0), .lit (.bool false), .lit (.int .i64 (-2)), .lit (.int .i64 0), .lit (.bool false)], .agg [.lit (.int .i64 (-1)), .lit (.bool false), .lit (.int .i64 0), .lit (.int .i64 0), .lit (.bool false), .lit (.int .i64 (-2)), .lit (.int .i64 0), .lit (.bool false)]]

/-- 'modelchecklaw23.MachineStarts': WHATEVER THE INPUT: true; the input reads as it did. -/
def machineStartsSpec : ChangeSpec := { name := "machineStarts", fn := fun _ => fun
  | [d1, d2] => { results := [.lit (.bool true)], args := [d1, d2] }
  | _ => none }
def machineStartsRow : OpenClaim := { program := "ytjhenjhcbcalpaagreatdoor", sum := "e5a9891fcbd0c12c35bda2190db5ddf292a2d03bc1e5ddc4cdf3c3c5c43b9fd5", func := "modelcheck/modelchecklaw23.MachineStarts", spec := "machineStarts", unfollowed := true, recurses := true, named := ["modelcheck/inst.rows", "modelcheck/value.names"], apart := false, laid := [("modelcheck/value.names", laid_modelcheck_value_names), ("modelcheck/inst.rows", laid_modelcheck_inst_rows)] }
def MachineStartsSaid : Prop := machineStartsRow.holds Tryz.pinned (OpenSpec.ofChange machineStartsSpec)

/-- ITS FALSE NEIGHBOUR: 'it returns false'. Refute it at one input. -/
def machineStartsWrong : ChangeSpec := { name := "machineStarts", fn := fun _ => fun
  | [d1, d2] => { results := [.lit (.bool false)], args := [d1, d2] }
  | _ => none }
def MachineStartsWrongFalsely : Prop := machineStartsRow.holds Tryz.pinned (OpenSpec.ofChange machineStartsWrong)

/-- 'modelchecklaw23.MachineLabels': WHATEVER THE INPUT: true; the input reads as it did. -/
def machineLabelsSpec : ChangeSpec := { name := "machineLabels", fn := fun _ => fun
  | [d] => { results := [.lit (.bool true)], args := [d] }
  | _ => none }
def machineLabelsRow : OpenClaim := { program := "ytjhenjhcbcalpaagreatdoor", sum := "e5a9891fcbd0c12c35bda2190db5ddf292a2d03bc1e5ddc4cdf3c3c5c43b9fd5", func := "modelcheck/modelchecklaw23.MachineLabels", spec := "machineLabels", unfollowed := true, recurses := true, named := ["modelcheck/inst.rows", "modelcheck/value.names"], apart := false, laid := [("modelcheck/value.names", laid_modelcheck_value_names), ("modelcheck/inst.rows", laid_modelcheck_inst_rows)] }
def MachineLabelsSaid : Prop := machineLabelsRow.holds Tryz.pinned (OpenSpec.ofChange machineLabelsSpec)

/-- ITS FALSE NEIGHBOUR: 'it returns false'. Refute it at one input. -/
def machineLabelsWrong : ChangeSpec := { name := "machineLabels", fn := fun _ => fun
  | [d] => { results := [.lit (.bool false)], args := [d] }
  | _ => none }
def MachineLabelsWrongFalsely : Prop := machineLabelsRow.holds Tryz.pinned (OpenSpec.ofChange machineLabelsWrong)

/-- 'modelchecklaw23.MachineSteps': WHATEVER THE INPUT: true; the input reads as it did. -/
def machineStepsSpec : ChangeSpec := { name := "machineSteps", fn := fun _ => fun
  | [d] => { results := [.lit (.bool true)], args := [d] }
  | _ => none }
def machineStepsRow : OpenClaim := { program := "ytjhenjhcbcalpaagreatdoor", sum := "e5a9891fcbd0c12c35bda2190db5ddf292a2d03bc1e5ddc4cdf3c3c5c43b9fd5", func := "modelcheck/modelchecklaw23.MachineSteps", spec := "machineSteps", unfollowed := true, recurses := true, named := ["modelcheck/inst.rows", "modelcheck/value.names"], apart := false, laid := [("modelcheck/value.names", laid_modelcheck_value_names), ("modelcheck/inst.rows", laid_modelcheck_inst_rows)] }
def MachineStepsSaid : Prop := machineStepsRow.holds Tryz.pinned (OpenSpec.ofChange machineStepsSpec)

/-- ITS FALSE NEIGHBOUR: 'it returns false'. Refute it at one input. -/
def machineStepsWrong : ChangeSpec := { name := "machineSteps", fn := fun _ => fun
  | [d] => { results := [.lit (.bool false)], args := [d] }
  | _ => none }
def MachineStepsWrongFalsely : Prop := machineStepsRow.holds Tryz.pinned (OpenSpec.ofChange machineStepsWrong)

/-- 'modelchecklaw23.MachineCopies': WHATEVER THE INPUT: true; the input reads as it did. -/
def machineCopiesSpec : ChangeSpec := { name := "machineCopies", fn := fun _ => fun
  | [d1, d2] => { results := [.lit (.bool true)], args := [d1, d2] }
  | _ => none }
def machineCopiesRow : OpenClaim := { program := "ytjhenjhcbcalpaagreatdoor", sum := "e5a9891fcbd0c12c35bda2190db5ddf292a2d03bc1e5ddc4cdf3c3c5c43b9fd5", func := "modelcheck/modelchecklaw23.MachineCopies", spec := "machineCopies", unfollowed := true, recurses := true, named := ["modelcheck/inst.rows", "modelcheck/value.names"], apart := false, laid := [("modelcheck/value.names", laid_modelcheck_value_names), ("modelcheck/inst.rows", laid_modelcheck_inst_rows)] }
def MachineCopiesSaid : Prop := machineCopiesRow.holds Tryz.pinned (OpenSpec.ofChange machineCopiesSpec)

/-- ITS FALSE NEIGHBOUR: 'it returns false'. Refute it at one input. -/
def machineCopiesWrong : ChangeSpec := { name := "machineCopies", fn := fun _ => fun
  | [d1, d2] => { results := [.lit (.bool false)], args := [d1, d2] }
  | _ => none }
def MachineCopiesWrongFalsely : Prop := machineCopiesRow.holds Tryz.pinned (OpenSpec.ofChange machineCopiesWrong)

/-- 'modelchecklaw23.MachineReaches': WHATEVER THE INPUT: true; the input reads as it did. -/
def machineReachesSpec : ChangeSpec := { name := "machineReaches", fn := fun _ => fun
  | [d1, d2, d3] => { results := [.lit (.bool true)], args := [d1, d2, d3] }
  | _ => none }
def machineReachesRow : OpenClaim := { program := "ytjhenjhcbcalpaagreatdoor", sum := "e5a9891fcbd0c12c35bda2190db5ddf292a2d03bc1e5ddc4cdf3c3c5c43b9fd5", func := "modelcheck/modelchecklaw23.MachineReaches", spec := "machineReaches", unfollowed := true, recurses := true, named := ["modelcheck/inst.rows", "modelcheck/value.names"], apart := false, laid := [("modelcheck/value.names", laid_modelcheck_value_names), ("modelcheck/inst.rows", laid_modelcheck_inst_rows)] }
def MachineReachesSaid : Prop := machineReachesRow.holds Tryz.pinned (OpenSpec.ofChange machineReachesSpec)

/-- ITS FALSE NEIGHBOUR: 'it returns false'. Refute it at one input. -/
def machineReachesWrong : ChangeSpec := { name := "machineReaches", fn := fun _ => fun
  | [d1, d2, d3] => { results := [.lit (.bool false)], args := [d1, d2, d3] }
  | _ => none }
def MachineReachesWrongFalsely : Prop := machineReachesRow.holds Tryz.pinned (OpenSpec.ofChange machineReachesWrong)

/-- 'modelchecklaw23.MachineCommute': WHATEVER THE INPUT: true; the input reads as it did. -/
def machineCommuteSpec : ChangeSpec := { name := "machineCommute", fn := fun _ => fun
  | [d1, d2, d3] => { results := [.lit (.bool true)], args := [d1, d2, d3] }
  | _ => none }
def machineCommuteRow : OpenClaim := { program := "ytjhenjhcbcalpaagreatdoor", sum := "e5a9891fcbd0c12c35bda2190db5ddf292a2d03bc1e5ddc4cdf3c3c5c43b9fd5", func := "modelcheck/modelchecklaw23.MachineCommute", spec := "machineCommute", unfollowed := true, recurses := true, named := ["modelcheck/inst.rows", "modelcheck/value.names", "modelcheck/event.rows"], apart := false, laid := [("modelcheck/value.names", laid_modelcheck_value_names), ("modelcheck/event.rows", laid_modelcheck_event_rows), ("modelcheck/inst.rows", laid_modelcheck_inst_rows)] }
def MachineCommuteSaid : Prop := machineCommuteRow.holds Tryz.pinned (OpenSpec.ofChange machineCommuteSpec)

/-- ITS FALSE NEIGHBOUR: 'it returns false'. Refute it at one input. -/
def machineCommuteWrong : ChangeSpec := { name := "machineCommute", fn := fun _ => fun
  | [d1, d2, d3] => { results := [.lit (.bool false)], args := [d1, d2, d3] }
  | _ => none }
def MachineCommuteWrongFalsely : Prop := machineCommuteRow.holds Tryz.pinned (OpenSpec.ofChange machineCommuteWrong)

/-- 'modelchecklaw23.MachineStays': WHATEVER THE INPUT: true; the input reads as it did. -/
def machineStaysSpec : ChangeSpec := { name := "machineStays", fn := fun _ => fun
  | [d1, d2, d3] => { results := [.lit (.bool true)], args := [d1, d2, d3] }
  | _ => none }
def machineStaysRow : OpenClaim := { program := "ytjhenjhcbcalpaagreatdoor", sum := "e5a9891fcbd0c12c35bda2190db5ddf292a2d03bc1e5ddc4cdf3c3c5c43b9fd5", func := "modelcheck/modelchecklaw23.MachineStays", spec := "machineStays", unfollowed := true, recurses := true, named := ["modelcheck/inst.rows", "modelcheck/value.names", "modelcheck/event.rows"], apart := false, laid := [("modelcheck/value.names", laid_modelcheck_value_names), ("modelcheck/event.rows", laid_modelcheck_event_rows), ("modelcheck/inst.rows", laid_modelcheck_inst_rows)] }
def MachineStaysSaid : Prop := machineStaysRow.holds Tryz.pinned (OpenSpec.ofChange machineStaysSpec)

/-- ITS FALSE NEIGHBOUR: 'it returns false'. Refute it at one input. -/
def machineStaysWrong : ChangeSpec := { name := "machineStays", fn := fun _ => fun
  | [d1, d2, d3] => { results := [.lit (.bool false)], args := [d1, d2, d3] }
  | _ => none }
def MachineStaysWrongFalsely : Prop := machineStaysRow.holds Tryz.pinned (OpenSpec.ofChange machineStaysWrong)

/- THE SECOND FORM. 'bulk': how many values and letters a reading holds, each counted each time it is reached (what is shared counts as often as it is met; a slice's spare places count too). A statement '..UptoSaid' is the law's where the arguments, and the package variables that the reading takes, are together of bulk at most 1048576: NARROWER than '..Said'. Prove '..Said' where nothing that the law and all that it calls make is longer than what came in: it says more and counts as full. Else prove '..UptoSaid'. A law counts once. -/
mutual
def uptoBulk {H : Type} : DataW H → Nat
  | .lit (.string bytes) => bytes.length + 1
  | .lit _ => 1
  | .nil => 1
  | .ptr d => uptoBulk d + 1
  | .slice elems spare => uptoBulkAll elems + uptoBulkAll spare + 1
  | .agg parts => uptoBulkAll parts + 1
  | .iface _ d => uptoBulk d + 1
  | .map entries => uptoBulkEntries entries + 1
  | .held _ => 1
def uptoBulkAll {H : Type} : List (DataW H) → Nat
  | [] => 0
  | d :: r => uptoBulk d + uptoBulkAll r
def uptoBulkEntries {H : Type} : List (Lit × DataW H) → Nat
  | [] => 0
  | x :: r => uptoBulkEntry x + uptoBulkEntries r
def uptoBulkEntry {H : Type} : Lit × DataW H → Nat
  | (.string bytes, d) => bytes.length + uptoBulk d + 1
  | (_, d) => uptoBulk d + 1
 end
def uptoSmall : (H : Type) → List (DataW H) → Bool := fun _ ds => decide (uptoBulkAll ds ≤ 1048576)
def OpenSpec.upto (s : _root_.Go.ChangeSpec) : _root_.Go.OpenSpec := { _root_.Go.OpenSpec.ofChange s with cond := some uptoSmall }

/-- 'modelchecklaw23.MachineStarts', WHERE WHAT IT READS IS OF BULK AT MOST 1048576: true; the input reads as it did. -/
def machineStartsUptoRow : OpenClaim := { program := "ytjhenjhcbcalpaagreatdoor", sum := "e5a9891fcbd0c12c35bda2190db5ddf292a2d03bc1e5ddc4cdf3c3c5c43b9fd5", func := "modelcheck/modelchecklaw23.MachineStarts", spec := "machineStarts", unfollowed := true, recurses := true, named := ["modelcheck/inst.rows", "modelcheck/value.names"], apart := false, laid := [("modelcheck/value.names", laid_modelcheck_value_names), ("modelcheck/inst.rows", laid_modelcheck_inst_rows)], narrowed := true }
def MachineStartsUptoSaid : Prop := machineStartsUptoRow.holds Tryz.pinned (OpenSpec.upto machineStartsSpec)

/-- 'modelchecklaw23.MachineLabels', WHERE WHAT IT READS IS OF BULK AT MOST 1048576: true; the input reads as it did. -/
def machineLabelsUptoRow : OpenClaim := { program := "ytjhenjhcbcalpaagreatdoor", sum := "e5a9891fcbd0c12c35bda2190db5ddf292a2d03bc1e5ddc4cdf3c3c5c43b9fd5", func := "modelcheck/modelchecklaw23.MachineLabels", spec := "machineLabels", unfollowed := true, recurses := true, named := ["modelcheck/inst.rows", "modelcheck/value.names"], apart := false, laid := [("modelcheck/value.names", laid_modelcheck_value_names), ("modelcheck/inst.rows", laid_modelcheck_inst_rows)], narrowed := true }
def MachineLabelsUptoSaid : Prop := machineLabelsUptoRow.holds Tryz.pinned (OpenSpec.upto machineLabelsSpec)

/-- 'modelchecklaw23.MachineSteps', WHERE WHAT IT READS IS OF BULK AT MOST 1048576: true; the input reads as it did. -/
def machineStepsUptoRow : OpenClaim := { program := "ytjhenjhcbcalpaagreatdoor", sum := "e5a9891fcbd0c12c35bda2190db5ddf292a2d03bc1e5ddc4cdf3c3c5c43b9fd5", func := "modelcheck/modelchecklaw23.MachineSteps", spec := "machineSteps", unfollowed := true, recurses := true, named := ["modelcheck/inst.rows", "modelcheck/value.names"], apart := false, laid := [("modelcheck/value.names", laid_modelcheck_value_names), ("modelcheck/inst.rows", laid_modelcheck_inst_rows)], narrowed := true }
def MachineStepsUptoSaid : Prop := machineStepsUptoRow.holds Tryz.pinned (OpenSpec.upto machineStepsSpec)

/-- 'modelchecklaw23.MachineCopies', WHERE WHAT IT READS IS OF BULK AT MOST 1048576: true; the input reads as it did. -/
def machineCopiesUptoRow : OpenClaim := { program := "ytjhenjhcbcalpaagreatdoor", sum := "e5a9891fcbd0c12c35bda2190db5ddf292a2d03bc1e5ddc4cdf3c3c5c43b9fd5", func := "modelcheck/modelchecklaw23.MachineCopies", spec := "machineCopies", unfollowed := true, recurses := true, named := ["modelcheck/inst.rows", "modelcheck/value.names"], apart := false, laid := [("modelcheck/value.names", laid_modelcheck_value_names), ("modelcheck/inst.rows", laid_modelcheck_inst_rows)], narrowed := true }
def MachineCopiesUptoSaid : Prop := machineCopiesUptoRow.holds Tryz.pinned (OpenSpec.upto machineCopiesSpec)

/-- 'modelchecklaw23.MachineReaches', WHERE WHAT IT READS IS OF BULK AT MOST 1048576: true; the input reads as it did. -/
def machineReachesUptoRow : OpenClaim := { program := "ytjhenjhcbcalpaagreatdoor", sum := "e5a9891fcbd0c12c35bda2190db5ddf292a2d03bc1e5ddc4cdf3c3c5c43b9fd5", func := "modelcheck/modelchecklaw23.MachineReaches", spec := "machineReaches", unfollowed := true, recurses := true, named := ["modelcheck/inst.rows", "modelcheck/value.names"], apart := false, laid := [("modelcheck/value.names", laid_modelcheck_value_names), ("modelcheck/inst.rows", laid_modelcheck_inst_rows)], narrowed := true }
def MachineReachesUptoSaid : Prop := machineReachesUptoRow.holds Tryz.pinned (OpenSpec.upto machineReachesSpec)

/-- 'modelchecklaw23.MachineCommute', WHERE WHAT IT READS IS OF BULK AT MOST 1048576: true; the input reads as it did. -/
def machineCommuteUptoRow : OpenClaim := { program := "ytjhenjhcbcalpaagreatdoor", sum := "e5a9891fcbd0c12c35bda2190db5ddf292a2d03bc1e5ddc4cdf3c3c5c43b9fd5", func := "modelcheck/modelchecklaw23.MachineCommute", spec := "machineCommute", unfollowed := true, recurses := true, named := ["modelcheck/inst.rows", "modelcheck/value.names", "modelcheck/event.rows"], apart := false, laid := [("modelcheck/value.names", laid_modelcheck_value_names), ("modelcheck/event.rows", laid_modelcheck_event_rows), ("modelcheck/inst.rows", laid_modelcheck_inst_rows)], narrowed := true }
def MachineCommuteUptoSaid : Prop := machineCommuteUptoRow.holds Tryz.pinned (OpenSpec.upto machineCommuteSpec)

/-- 'modelchecklaw23.MachineStays', WHERE WHAT IT READS IS OF BULK AT MOST 1048576: true; the input reads as it did. -/
def machineStaysUptoRow : OpenClaim := { program := "ytjhenjhcbcalpaagreatdoor", sum := "e5a9891fcbd0c12c35bda2190db5ddf292a2d03bc1e5ddc4cdf3c3c5c43b9fd5", func := "modelcheck/modelchecklaw23.MachineStays", spec := "machineStays", unfollowed := true, recurses := true, named := ["modelcheck/inst.rows", "modelcheck/value.names", "modelcheck/event.rows"], apart := false, laid := [("modelcheck/value.names", laid_modelcheck_value_names), ("modelcheck/event.rows", laid_modelcheck_event_rows), ("modelcheck/inst.rows", laid_modelcheck_inst_rows)], narrowed := true }
def MachineStaysUptoSaid : Prop := machineStaysUptoRow.holds Tryz.pinned (OpenSpec.upto machineStaysSpec)

end Rows
end Go.Proofs.YtjhenjhcbcalpaaGreatDoor
