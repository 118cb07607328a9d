/-
  NARROWER THAN 'FOR EVERY INPUT', by the rows' own cells (each row's printed sentence says how): LivenessBefore: laid · LivenessAfter: laid · LivenessPaths: laid · LivenessStep: laid · LivenessRename: laid.
  DERIVED. THE GIVEN ROWS OF THIS SEAT. 5 by the template 'for every input the law returns true; each argument reads behind the call as it read before'; 0 by the template 'total and deterministic' (their statements: YtpfdgbddpdngbaaDoorTotals.lean).
  GIVEN WITH THE SEED: the statements are not yours to turn. If you find one false, say at which input.
  Laid BY PROGRAM, IN A SANDBOX (cutbox-rows.mjs): the forced cells as the released guide's own fill.sh prints them over the translation 3a3b60d873d23ac4… (all of the seat's roots in one cut). By AI agents, Wed Nov 11 2026. No macro, syntax, notation, axiom, sorry.
-/
import Derived.Test.YtpfdgbddpdngbaaDoorChecked
import GoSem.Claim
import GoSem.ClaimJoined
import GoSem.ClaimMapViews
import Derived.JoinedTies
import Derived.KernelRfl
namespace Go.Proofs.YtpfdgbddpdngbaaDoor
/- THE CELL 'sum', in the pinned program and in every row, IS THE sha256 OF THE DUMP (.gsa) THAT YtpfdgbddpdngbaaDoorProg.lean LOADS. Nothing in Lean hashes anything: it is a label: what it is worth is what the hold of that sum in a sandbox is worth. -/
noncomputable def Tryd.pinned : Pinned := { name := "ytpfdgbddpdngbaadoor", sum := "3a3b60d873d23ac498a5a3c2669c827ba868ba103941f7ecd6359b37cb217cfc", checked := Tryd.checked }
namespace Rows
def none {H : Type} : Left H := { results := [], args := [] }

/- WHAT THE LISTED PACKAGE-LEVEL VARIABLES READ AS WHEN THE CALL BEGINS. Each datum BY PROGRAM (the guide's laid-datum.mjs) off the statement by which the dump's own 'gosem.cut.vars' lays the variable. In a bare row this is a premise. The card (YtpfdgbddpdngbaaDoorCards.lean) ties it to the program's text. -/
def laid_modelcheck_value_names {H : Type} : DataW H := .agg [.lit (.string [97, 100, 100]), .lit (.string [115, 117, 98]), .lit (.string [109, 117, 108]), .lit (.string [97, 110, 100]), .lit (.string [111, 114]), .lit (.string [120, 111, 114]), .lit (.string [101, 113]), .lit (.string [110, 101]), .lit (.string [108, 116]), .lit (.string [108, 101])]
def laid_modelcheck_inst_rows {H : Type} : DataW H := .agg [.agg [.lit (.string [99, 111, 110, 115, 116]), .agg [.lit (.bool true), .lit (.bool false), .lit (.bool false), .lit (.bool false), .lit (.bool true), .lit (.bool false), .lit (.bool false)]], .agg [.lit (.string [99, 111, 112, 121]), .agg [.lit (.bool true), .lit (.bool true), .lit (.bool false), .lit (.bool false), .lit (.bool false), .lit (.bool false), .lit (.bool false)]], .agg [.lit (.string [99, 97, 108, 99]), .agg [.lit (.bool true), .lit (.bool true), .lit (.bool true), .lit (.bool false), .lit (.bool false), .lit (.bool true), .lit (.bool false)]], .agg [.lit (.string [106, 117, 109, 112]), .agg [.lit (.bool false), .lit (.bool false), .lit (.bool false), .lit (.bool false), .lit (.bool true), .lit (.bool false), .lit (.bool false)]], .agg [.lit (.string [98, 114, 97, 110, 99, 104]), .agg [.lit (.bool false), .lit (.bool true), .lit (.bool false), .lit (.bool false), .lit (.bool true), .lit (.bool false), .lit (.bool false)]], .agg [.lit (.string [97, 115, 115, 101, 114, 116]), .agg [.lit (.bool false), .lit (.bool true), .lit (.bool false), .lit (.bool false), .lit (.bool false), .lit (.bool false), .lit (.bool false)]], .agg [.lit (.string [115, 116, 111, 112]), .agg [.lit (.bool false), .lit (.bool false), .lit (.bool false), .lit (.bool false), .lit (.bool false), .lit (.bool false), .lit (.bool false)]], .agg [.lit (.string [108, 111, 97, 100]), .agg [.lit (.bool true), .lit (.bool false), .lit (.bool false), .lit (.bool true), .lit (.bool false), .lit (.bool false), .lit (.bool true)]], .agg [.lit (.string [115, 116, 111, 114, 101]), .agg [.lit (.bool false), .lit (.bool true), .lit (.bool false), .lit (.bool true), .lit (.bool false), .lit (.bool false), .lit (.bool true)]], .agg [.lit (.string [115, 119, 97, 112]), .agg [.lit (.bool true), .lit (.bool true), .lit (.bool false), .lit (.bool true), .lit (.bool false), .lit (.bool false), .lit (.bool true)]], .agg [.lit (.string [102, 101, 116, 99, 104, 97, 100, 100]), .agg [.lit (.bool true), .lit (.bool true), .lit (.bool false), .lit (.bool true), .lit (.bool false), .lit (.bool false), .lit (.bool true)]], .agg [.lit (.string [99, 97, 115]), .agg [.lit (.bool true), .lit (.bool true), .lit (.bool true), .lit (.bool true), .lit (.bool false), .lit (.bool false), .lit (.bool true)]], .agg [.lit (.string [102, 101, 110, 99, 101]), .agg [.lit (.bool false), .lit (.bool false), .lit (.bool false), .lit (.bool false), .lit (.bool false), .lit (.bool false), .lit (.bool false)]], .agg [.lit (.string [97, 119, 97, 105, 116]), .agg [.lit (.bool true), .lit (.bool true), .lit (.bool false), .lit (.bool true), .lit (.bool false), .lit (.bool true), .lit (.bool true)]], .agg [.lit (.string [108, 111, 99, 107]), .agg [.lit (.bool false), .lit (.bool false), .lit (.bool false), .lit (.bool true), .lit (.bool false), .lit (.bool false), .lit (.bool false)]], .agg [.lit (.string [117, 110, 108, 111, 99, 107]), .agg [.lit (.bool false), .lit (.bool false), .lit (.bool false), .lit (.bool true), .lit (.bool false), .lit (.bool false), .lit (.bool false)]], .agg [.lit (.string [116, 114, 121, 108, 111, 99, 107]), .agg [.lit (.bool true), .lit (.bool false), .lit (.bool false), .lit (.bool true), .lit (.bool false), .lit (.bool false), .lit (.bool false)]], .agg [.lit (.string [119, 97, 105, 116]), .agg [.lit (.bool false), .lit (.bool false), .lit (.bool false), .lit (.bool true), .lit (.bool true), .lit (.bool false), .lit (.bool false)]], .agg [.lit (.string [115, 105, 103, 110, 97, 108]), .agg [.lit (.bool false), .lit (.bool false), .lit (.bool false), .lit (.bool true), .lit (.bool false), .lit (.bool false), .lit (.bool false)]], .agg [.lit (.string [98, 114, 111, 97, 100, 99, 97, 115, 116]), .agg [.lit (.bool false), .lit (.bool false), .lit (.bool false), .lit (.bool true), .lit (.bool false), .lit (.bool false), .lit (.bool false)]], .agg [.lit (.string [115, 112, 97, 119, 110]), .agg [.lit (.bool true), .lit (.bool true), .lit (.bool false), .lit (.bool true), .lit (.bool false), .lit (.bool false), .lit (.bool false)]], .agg [.lit (.string [106, 111, 105, 110]), .agg [.lit (.bool false), .lit (.bool true), .lit (.bool false), .lit (.bool false), .lit (.bool false), .lit (.bool false), .lit (.bool false)]]]

/-- 'modelchecklaw13.LivenessBefore': WHATEVER THE INPUT: true; the input reads as it did. -/
def livenessBeforeSpec : ChangeSpec := { name := "livenessBefore", fn := fun _ => fun
  | [d] => { results := [.lit (.bool true)], args := [d] }
  | _ => none }
def livenessBeforeRow : OpenClaim := { program := "ytpfdgbddpdngbaadoor", sum := "3a3b60d873d23ac498a5a3c2669c827ba868ba103941f7ecd6359b37cb217cfc", func := "modelcheck/modelchecklaw13.LivenessBefore", spec := "livenessBefore", unfollowed := true, recurses := true, named := ["modelcheck/inst.rows", "modelcheck/value.names"], apart := false, laid := [("modelcheck/value.names", laid_modelcheck_value_names), ("modelcheck/inst.rows", laid_modelcheck_inst_rows)] }
def LivenessBeforeSaid : Prop := livenessBeforeRow.holds Tryd.pinned (OpenSpec.ofChange livenessBeforeSpec)

/-- ITS FALSE NEIGHBOUR: 'it returns false'. Refute it at one input. -/
def livenessBeforeWrong : ChangeSpec := { name := "livenessBefore", fn := fun _ => fun
  | [d] => { results := [.lit (.bool false)], args := [d] }
  | _ => none }
def LivenessBeforeWrongFalsely : Prop := livenessBeforeRow.holds Tryd.pinned (OpenSpec.ofChange livenessBeforeWrong)

/-- 'modelchecklaw13.LivenessAfter': WHATEVER THE INPUT: true; the input reads as it did. -/
def livenessAfterSpec : ChangeSpec := { name := "livenessAfter", fn := fun _ => fun
  | [d1, d2] => { results := [.lit (.bool true)], args := [d1, d2] }
  | _ => none }
def livenessAfterRow : OpenClaim := { program := "ytpfdgbddpdngbaadoor", sum := "3a3b60d873d23ac498a5a3c2669c827ba868ba103941f7ecd6359b37cb217cfc", func := "modelcheck/modelchecklaw13.LivenessAfter", spec := "livenessAfter", unfollowed := true, recurses := true, named := ["modelcheck/inst.rows", "modelcheck/value.names"], apart := false, laid := [("modelcheck/value.names", laid_modelcheck_value_names), ("modelcheck/inst.rows", laid_modelcheck_inst_rows)] }
def LivenessAfterSaid : Prop := livenessAfterRow.holds Tryd.pinned (OpenSpec.ofChange livenessAfterSpec)

/-- ITS FALSE NEIGHBOUR: 'it returns false'. Refute it at one input. -/
def livenessAfterWrong : ChangeSpec := { name := "livenessAfter", fn := fun _ => fun
  | [d1, d2] => { results := [.lit (.bool false)], args := [d1, d2] }
  | _ => none }
def LivenessAfterWrongFalsely : Prop := livenessAfterRow.holds Tryd.pinned (OpenSpec.ofChange livenessAfterWrong)

/-- 'modelchecklaw13.LivenessPaths': WHATEVER THE INPUT: true; the input reads as it did. -/
def livenessPathsSpec : ChangeSpec := { name := "livenessPaths", fn := fun _ => fun
  | [d] => { results := [.lit (.bool true)], args := [d] }
  | _ => none }
def livenessPathsRow : OpenClaim := { program := "ytpfdgbddpdngbaadoor", sum := "3a3b60d873d23ac498a5a3c2669c827ba868ba103941f7ecd6359b37cb217cfc", func := "modelcheck/modelchecklaw13.LivenessPaths", spec := "livenessPaths", unfollowed := true, recurses := true, named := ["modelcheck/inst.rows", "modelcheck/value.names"], apart := false, laid := [("modelcheck/value.names", laid_modelcheck_value_names), ("modelcheck/inst.rows", laid_modelcheck_inst_rows)] }
def LivenessPathsSaid : Prop := livenessPathsRow.holds Tryd.pinned (OpenSpec.ofChange livenessPathsSpec)

/-- ITS FALSE NEIGHBOUR: 'it returns false'. Refute it at one input. -/
def livenessPathsWrong : ChangeSpec := { name := "livenessPaths", fn := fun _ => fun
  | [d] => { results := [.lit (.bool false)], args := [d] }
  | _ => none }
def LivenessPathsWrongFalsely : Prop := livenessPathsRow.holds Tryd.pinned (OpenSpec.ofChange livenessPathsWrong)

/-- 'modelchecklaw13.LivenessStep': WHATEVER THE INPUT: true; the input reads as it did. -/
def livenessStepSpec : ChangeSpec := { name := "livenessStep", fn := fun _ => fun
  | [d] => { results := [.lit (.bool true)], args := [d] }
  | _ => none }
def livenessStepRow : OpenClaim := { program := "ytpfdgbddpdngbaadoor", sum := "3a3b60d873d23ac498a5a3c2669c827ba868ba103941f7ecd6359b37cb217cfc", func := "modelcheck/modelchecklaw13.LivenessStep", spec := "livenessStep", unfollowed := true, recurses := true, named := ["modelcheck/inst.rows", "modelcheck/value.names"], apart := false, laid := [("modelcheck/value.names", laid_modelcheck_value_names), ("modelcheck/inst.rows", laid_modelcheck_inst_rows)] }
def LivenessStepSaid : Prop := livenessStepRow.holds Tryd.pinned (OpenSpec.ofChange livenessStepSpec)

/-- ITS FALSE NEIGHBOUR: 'it returns false'. Refute it at one input. -/
def livenessStepWrong : ChangeSpec := { name := "livenessStep", fn := fun _ => fun
  | [d] => { results := [.lit (.bool false)], args := [d] }
  | _ => none }
def LivenessStepWrongFalsely : Prop := livenessStepRow.holds Tryd.pinned (OpenSpec.ofChange livenessStepWrong)

/-- 'modelchecklaw13.LivenessRename': WHATEVER THE INPUT: true; the input reads as it did. -/
def livenessRenameSpec : ChangeSpec := { name := "livenessRename", fn := fun _ => fun
  | [d1, d2] => { results := [.lit (.bool true)], args := [d1, d2] }
  | _ => none }
def livenessRenameRow : OpenClaim := { program := "ytpfdgbddpdngbaadoor", sum := "3a3b60d873d23ac498a5a3c2669c827ba868ba103941f7ecd6359b37cb217cfc", func := "modelcheck/modelchecklaw13.LivenessRename", spec := "livenessRename", unfollowed := true, recurses := true, named := ["modelcheck/inst.rows", "modelcheck/value.names"], apart := false, laid := [("modelcheck/value.names", laid_modelcheck_value_names), ("modelcheck/inst.rows", laid_modelcheck_inst_rows)] }
def LivenessRenameSaid : Prop := livenessRenameRow.holds Tryd.pinned (OpenSpec.ofChange livenessRenameSpec)

/-- ITS FALSE NEIGHBOUR: 'it returns false'. Refute it at one input. -/
def livenessRenameWrong : ChangeSpec := { name := "livenessRename", fn := fun _ => fun
  | [d1, d2] => { results := [.lit (.bool false)], args := [d1, d2] }
  | _ => none }
def LivenessRenameWrongFalsely : Prop := livenessRenameRow.holds Tryd.pinned (OpenSpec.ofChange livenessRenameWrong)

/- THE SECOND FORM. 'bulk': how many values and letters a reading holds, each counted each time it is reached (what is shared counts as often as it is met; a slice's spare places count too). A statement '..UptoSaid' is the law's where the arguments, and the package variables that the reading takes, are together of bulk at most 1048576: NARROWER than '..Said'. Prove '..Said' where nothing that the law and all that it calls make is longer than what came in: it says more and counts as full. Else prove '..UptoSaid'. A law counts once. -/
mutual
def uptoBulk {H : Type} : DataW H → Nat
  | .lit (.string bytes) => bytes.length + 1
  | .lit _ => 1
  | .nil => 1
  | .ptr d => uptoBulk d + 1
  | .slice elems spare => uptoBulkAll elems + uptoBulkAll spare + 1
  | .agg parts => uptoBulkAll parts + 1
  | .iface _ d => uptoBulk d + 1
  | .map entries => uptoBulkEntries entries + 1
  | .held _ => 1
def uptoBulkAll {H : Type} : List (DataW H) → Nat
  | [] => 0
  | d :: r => uptoBulk d + uptoBulkAll r
def uptoBulkEntries {H : Type} : List (Lit × DataW H) → Nat
  | [] => 0
  | x :: r => uptoBulkEntry x + uptoBulkEntries r
def uptoBulkEntry {H : Type} : Lit × DataW H → Nat
  | (.string bytes, d) => bytes.length + uptoBulk d + 1
  | (_, d) => uptoBulk d + 1
 end
def uptoSmall : (H : Type) → List (DataW H) → Bool := fun _ ds => decide (uptoBulkAll ds ≤ 1048576)
def OpenSpec.upto (s : _root_.Go.ChangeSpec) : _root_.Go.OpenSpec := { _root_.Go.OpenSpec.ofChange s with cond := some uptoSmall }

/-- 'modelchecklaw13.LivenessBefore', WHERE WHAT IT READS IS OF BULK AT MOST 1048576: true; the input reads as it did. -/
def livenessBeforeUptoRow : OpenClaim := { program := "ytpfdgbddpdngbaadoor", sum := "3a3b60d873d23ac498a5a3c2669c827ba868ba103941f7ecd6359b37cb217cfc", func := "modelcheck/modelchecklaw13.LivenessBefore", spec := "livenessBefore", unfollowed := true, recurses := true, named := ["modelcheck/inst.rows", "modelcheck/value.names"], apart := false, laid := [("modelcheck/value.names", laid_modelcheck_value_names), ("modelcheck/inst.rows", laid_modelcheck_inst_rows)], narrowed := true }
def LivenessBeforeUptoSaid : Prop := livenessBeforeUptoRow.holds Tryd.pinned (OpenSpec.upto livenessBeforeSpec)

/-- 'modelchecklaw13.LivenessAfter', WHERE WHAT IT READS IS OF BULK AT MOST 1048576: true; the input reads as it did. -/
def livenessAfterUptoRow : OpenClaim := { program := "ytpfdgbddpdngbaadoor", sum := "3a3b60d873d23ac498a5a3c2669c827ba868ba103941f7ecd6359b37cb217cfc", func := "modelcheck/modelchecklaw13.LivenessAfter", spec := "livenessAfter", unfollowed := true, recurses := true, named := ["modelcheck/inst.rows", "modelcheck/value.names"], apart := false, laid := [("modelcheck/value.names", laid_modelcheck_value_names), ("modelcheck/inst.rows", laid_modelcheck_inst_rows)], narrowed := true }
def LivenessAfterUptoSaid : Prop := livenessAfterUptoRow.holds Tryd.pinned (OpenSpec.upto livenessAfterSpec)

/-- 'modelchecklaw13.LivenessPaths', WHERE WHAT IT READS IS OF BULK AT MOST 1048576: true; the input reads as it did. -/
def livenessPathsUptoRow : OpenClaim := { program := "ytpfdgbddpdngbaadoor", sum := "3a3b60d873d23ac498a5a3c2669c827ba868ba103941f7ecd6359b37cb217cfc", func := "modelcheck/modelchecklaw13.LivenessPaths", spec := "livenessPaths", unfollowed := true, recurses := true, named := ["modelcheck/inst.rows", "modelcheck/value.names"], apart := false, laid := [("modelcheck/value.names", laid_modelcheck_value_names), ("modelcheck/inst.rows", laid_modelcheck_inst_rows)], narrowed := true }
def LivenessPathsUptoSaid : Prop := livenessPathsUptoRow.holds Tryd.pinned (OpenSpec.upto livenessPathsSpec)

/-- 'modelchecklaw13.LivenessStep', WHERE WHAT IT READS IS OF BULK AT MOST 1048576: true; the input reads as it did. -/
def livenessStepUptoRow : OpenClaim := { program := "ytpfdgbddpdngbaadoor", sum := "3a3b60d873d23ac498a5a3c2669c827ba868ba103941f7ecd6359b37cb217cfc", func := "modelcheck/modelchecklaw13.LivenessStep", spec := "livenessStep", unfollowed := true, recurses := true, named := ["modelcheck/inst.rows", "modelcheck/value.names"], apart := false, laid := [("modelcheck/value.names", laid_modelcheck_value_names), ("modelcheck/inst.rows", laid_modelcheck_inst_rows)], narrowed := true }
def LivenessStepUptoSaid : Prop := livenessStepUptoRow.holds Tryd.pinned (OpenSpec.upto livenessStepSpec)

/-- 'modelchecklaw13.LivenessRename', WHERE WHAT IT READS IS OF BULK AT MOST 1048576: true; the input reads as it did. -/
def livenessRenameUptoRow : OpenClaim := { program := "ytpfdgbddpdngbaadoor", sum := "3a3b60d873d23ac498a5a3c2669c827ba868ba103941f7ecd6359b37cb217cfc", func := "modelcheck/modelchecklaw13.LivenessRename", spec := "livenessRename", unfollowed := true, recurses := true, named := ["modelcheck/inst.rows", "modelcheck/value.names"], apart := false, laid := [("modelcheck/value.names", laid_modelcheck_value_names), ("modelcheck/inst.rows", laid_modelcheck_inst_rows)], narrowed := true }
def LivenessRenameUptoSaid : Prop := livenessRenameUptoRow.holds Tryd.pinned (OpenSpec.upto livenessRenameSpec)

end Rows
end Go.Proofs.YtpfdgbddpdngbaaDoor
