/-
  NARROWER THAN 'FOR EVERY INPUT', by the rows' own cells (each row's printed sentence says how): MemoryNew: laid · MemoryWaits: laid · MemoryVars: laid · MemoryLocks: laid · MemoryEqual: laid · MemoryQueue: laid · MemoryMutex: laid.
  DERIVED. THE GIVEN ROWS OF THIS SEAT. 7 by the template 'for every input the law returns true; each argument reads behind the call as it read before'; 0 by the template 'total and deterministic' (their statements: YtkgjfkdcnoockaaDoorTotals.lean).
  GIVEN WITH THE SEED: the statements are not yours to turn. If you find one false, say at which input.
  Laid BY PROGRAM, IN A SANDBOX (cutbox-rows.mjs): the forced cells as the released guide's own fill.sh prints them over the translation 41b006eef1d2090e… (all of the seat's roots in one cut). By AI agents, Wed Nov 11 2026. No macro, syntax, notation, axiom, sorry.
-/
import Derived.Test.YtkgjfkdcnoockaaDoorChecked
import GoSem.Claim
import GoSem.ClaimJoined
import GoSem.ClaimMapViews
import Derived.JoinedTies
import Derived.KernelRfl
namespace Go.Proofs.YtkgjfkdcnoockaaDoor
/- THE CELL 'sum', in the pinned program and in every row, IS THE sha256 OF THE DUMP (.gsa) THAT YtkgjfkdcnoockaaDoorProg.lean LOADS. Nothing in Lean hashes anything: it is a label: what it is worth is what the hold of that sum in a sandbox is worth. -/
noncomputable def Tryd.pinned : Pinned := { name := "ytkgjfkdcnoockaadoor", sum := "41b006eef1d2090e327524e7ee964fb8cfee71f47383243c7a561cb8e0c3ce7a", checked := Tryd.checked }
namespace Rows
def none {H : Type} : Left H := { results := [], args := [] }

/- WHAT THE LISTED PACKAGE-LEVEL VARIABLES READ AS WHEN THE CALL BEGINS. Each datum BY PROGRAM (the guide's laid-datum.mjs) off the statement by which the dump's own 'gosem.cut.vars' lays the variable. In a bare row this is a premise. The card (YtkgjfkdcnoockaaDoorCards.lean) ties it to the program's text. -/
def laid_modelcheck_value_names {H : Type} : DataW H := .agg [.lit (.string [97, 100, 100]), .lit (.string [115, 117, 98]), .lit (.string [109, 117, 108]), .lit (.string [97, 110, 100]), .lit (.string [111, 114]), .lit (.string [120, 111, 114]), .lit (.string [101, 113]), .lit (.string [110, 101]), .lit (.string [108, 116]), .lit (.string [108, 101])]
def laid_modelcheck_inst_rows {H : Type} : DataW H := .agg [.agg [.lit (.string [99, 111, 110, 115, 116]), .agg [.lit (.bool true), .lit (.bool false), .lit (.bool false), .lit (.bool false), .lit (.bool true), .lit (.bool false), .lit (.bool false)]], .agg [.lit (.string [99, 111, 112, 121]), .agg [.lit (.bool true), .lit (.bool true), .lit (.bool false), .lit (.bool false), .lit (.bool false), .lit (.bool false), .lit (.bool false)]], .agg [.lit (.string [99, 97, 108, 99]), .agg [.lit (.bool true), .lit (.bool true), .lit (.bool true), .lit (.bool false), .lit (.bool false), .lit (.bool true), .lit (.bool false)]], .agg [.lit (.string [106, 117, 109, 112]), .agg [.lit (.bool false), .lit (.bool false), .lit (.bool false), .lit (.bool false), .lit (.bool true), .lit (.bool false), .lit (.bool false)]], .agg [.lit (.string [98, 114, 97, 110, 99, 104]), .agg [.lit (.bool false), .lit (.bool true), .lit (.bool false), .lit (.bool false), .lit (.bool true), .lit (.bool false), .lit (.bool false)]], .agg [.lit (.string [97, 115, 115, 101, 114, 116]), .agg [.lit (.bool false), .lit (.bool true), .lit (.bool false), .lit (.bool false), .lit (.bool false), .lit (.bool false), .lit (.bool false)]], .agg [.lit (.string [115, 116, 111, 112]), .agg [.lit (.bool false), .lit (.bool false), .lit (.bool false), .lit (.bool false), .lit (.bool false), .lit (.bool false), .lit (.bool false)]], .agg [.lit (.string [108, 111, 97, 100]), .agg [.lit (.bool true), .lit (.bool false), .lit (.bool false), .lit (.bool true), .lit (.bool false), .lit (.bool false), .lit (.bool true)]], .agg [.lit (.string [115, 116, 111, 114, 101]), .agg [.lit (.bool false), .lit (.bool true), .lit (.bool false), .lit (.bool true), .lit (.bool false), .lit (.bool false), .lit (.bool true)]], .agg [.lit (.string [115, 119, 97, 112]), .agg [.lit (.bool true), .lit (.bool true), .lit (.bool false), .lit (.bool true), .lit (.bool false), .lit (.bool false), .lit (.bool true)]], .agg [.lit (.string [102, 101, 116, 99, 104, 97, 100, 100]), .agg [.lit (.bool true), .lit (.bool true), .lit (.bool false), .lit (.bool true), .lit (.bool false), .lit (.bool false), .lit (.bool true)]], .agg [.lit (.string [99, 97, 115]), .agg [.lit (.bool true), .lit (.bool true), .lit (.bool true), .lit (.bool true), .lit (.bool false), .lit (.bool false), .lit (.bool true)]], .agg [.lit (.string [102, 101, 110, 99, 101]), .agg [.lit (.bool false), .lit (.bool false), .lit (.bool false), .lit (.bool false), .lit (.bool false), .lit (.bool false), .lit (.bool false)]], .agg [.lit (.string [97, 119, 97, 105, 116]), .agg [.lit (.bool true), .lit (.bool true), .lit (.bool false), .lit (.bool true), .lit (.bool false), .lit (.bool true), .lit (.bool true)]], .agg [.lit (.string [108, 111, 99, 107]), .agg [.lit (.bool false), .lit (.bool false), .lit (.bool false), .lit (.bool true), .lit (.bool false), .lit (.bool false), .lit (.bool false)]], .agg [.lit (.string [117, 110, 108, 111, 99, 107]), .agg [.lit (.bool false), .lit (.bool false), .lit (.bool false), .lit (.bool true), .lit (.bool false), .lit (.bool false), .lit (.bool false)]], .agg [.lit (.string [116, 114, 121, 108, 111, 99, 107]), .agg [.lit (.bool true), .lit (.bool false), .lit (.bool false), .lit (.bool true), .lit (.bool false), .lit (.bool false), .lit (.bool false)]], .agg [.lit (.string [119, 97, 105, 116]), .agg [.lit (.bool false), .lit (.bool false), .lit (.bool false), .lit (.bool true), .lit (.bool true), .lit (.bool false), .lit (.bool false)]], .agg [.lit (.string [115, 105, 103, 110, 97, 108]), .agg [.lit (.bool false), .lit (.bool false), .lit (.bool false), .lit (.bool true), .lit (.bool false), .lit (.bool false), .lit (.bool false)]], .agg [.lit (.string [98, 114, 111, 97, 100, 99, 97, 115, 116]), .agg [.lit (.bool false), .lit (.bool false), .lit (.bool false), .lit (.bool true), .lit (.bool false), .lit (.bool false), .lit (.bool false)]], .agg [.lit (.string [115, 112, 97, 119, 110]), .agg [.lit (.bool true), .lit (.bool true), .lit (.bool false), .lit (.bool true), .lit (.bool false), .lit (.bool false), .lit (.bool false)]], .agg [.lit (.string [106, 111, 105, 110]), .agg [.lit (.bool false), .lit (.bool true), .lit (.bool false), .lit (.bool false), .lit (.bool false), .lit (.bool false), .lit (.bool false)]]]

/-- 'modelchecklaw21.MemoryNew': WHATEVER THE INPUT: true; the input reads as it did. -/
def memoryNewSpec : ChangeSpec := { name := "memoryNew", fn := fun _ => fun
  | [d1, d2] => { results := [.lit (.bool true)], args := [d1, d2] }
  | _ => none }
def memoryNewRow : OpenClaim := { program := "ytkgjfkdcnoockaadoor", sum := "41b006eef1d2090e327524e7ee964fb8cfee71f47383243c7a561cb8e0c3ce7a", func := "modelcheck/modelchecklaw21.MemoryNew", spec := "memoryNew", unfollowed := true, recurses := true, named := ["modelcheck/inst.rows", "modelcheck/value.names"], apart := false, laid := [("modelcheck/value.names", laid_modelcheck_value_names), ("modelcheck/inst.rows", laid_modelcheck_inst_rows)] }
def MemoryNewSaid : Prop := memoryNewRow.holds Tryd.pinned (OpenSpec.ofChange memoryNewSpec)

/-- ITS FALSE NEIGHBOUR: 'it returns false'. Refute it at one input. -/
def memoryNewWrong : ChangeSpec := { name := "memoryNew", fn := fun _ => fun
  | [d1, d2] => { results := [.lit (.bool false)], args := [d1, d2] }
  | _ => none }
def MemoryNewWrongFalsely : Prop := memoryNewRow.holds Tryd.pinned (OpenSpec.ofChange memoryNewWrong)

/-- 'modelchecklaw21.MemoryWaits': WHATEVER THE INPUT: true; the input reads as it did. -/
def memoryWaitsSpec : ChangeSpec := { name := "memoryWaits", fn := fun _ => fun
  | [d1, d2, d3] => { results := [.lit (.bool true)], args := [d1, d2, d3] }
  | _ => none }
def memoryWaitsRow : OpenClaim := { program := "ytkgjfkdcnoockaadoor", sum := "41b006eef1d2090e327524e7ee964fb8cfee71f47383243c7a561cb8e0c3ce7a", func := "modelcheck/modelchecklaw21.MemoryWaits", spec := "memoryWaits", unfollowed := true, recurses := true, named := ["modelcheck/inst.rows", "modelcheck/value.names"], apart := false, laid := [("modelcheck/value.names", laid_modelcheck_value_names), ("modelcheck/inst.rows", laid_modelcheck_inst_rows)] }
def MemoryWaitsSaid : Prop := memoryWaitsRow.holds Tryd.pinned (OpenSpec.ofChange memoryWaitsSpec)

/-- ITS FALSE NEIGHBOUR: 'it returns false'. Refute it at one input. -/
def memoryWaitsWrong : ChangeSpec := { name := "memoryWaits", fn := fun _ => fun
  | [d1, d2, d3] => { results := [.lit (.bool false)], args := [d1, d2, d3] }
  | _ => none }
def MemoryWaitsWrongFalsely : Prop := memoryWaitsRow.holds Tryd.pinned (OpenSpec.ofChange memoryWaitsWrong)

/-- 'modelchecklaw21.MemoryVars': WHATEVER THE INPUT: true; the input reads as it did. -/
def memoryVarsSpec : ChangeSpec := { name := "memoryVars", fn := fun _ => fun
  | [d1, d2, d3] => { results := [.lit (.bool true)], args := [d1, d2, d3] }
  | _ => none }
def memoryVarsRow : OpenClaim := { program := "ytkgjfkdcnoockaadoor", sum := "41b006eef1d2090e327524e7ee964fb8cfee71f47383243c7a561cb8e0c3ce7a", func := "modelcheck/modelchecklaw21.MemoryVars", spec := "memoryVars", unfollowed := true, recurses := true, named := ["modelcheck/inst.rows", "modelcheck/value.names"], apart := false, laid := [("modelcheck/value.names", laid_modelcheck_value_names), ("modelcheck/inst.rows", laid_modelcheck_inst_rows)] }
def MemoryVarsSaid : Prop := memoryVarsRow.holds Tryd.pinned (OpenSpec.ofChange memoryVarsSpec)

/-- ITS FALSE NEIGHBOUR: 'it returns false'. Refute it at one input. -/
def memoryVarsWrong : ChangeSpec := { name := "memoryVars", fn := fun _ => fun
  | [d1, d2, d3] => { results := [.lit (.bool false)], args := [d1, d2, d3] }
  | _ => none }
def MemoryVarsWrongFalsely : Prop := memoryVarsRow.holds Tryd.pinned (OpenSpec.ofChange memoryVarsWrong)

/-- 'modelchecklaw21.MemoryLocks': WHATEVER THE INPUT: true; the input reads as it did. -/
def memoryLocksSpec : ChangeSpec := { name := "memoryLocks", fn := fun _ => fun
  | [d1, d2, d3] => { results := [.lit (.bool true)], args := [d1, d2, d3] }
  | _ => none }
def memoryLocksRow : OpenClaim := { program := "ytkgjfkdcnoockaadoor", sum := "41b006eef1d2090e327524e7ee964fb8cfee71f47383243c7a561cb8e0c3ce7a", func := "modelcheck/modelchecklaw21.MemoryLocks", spec := "memoryLocks", unfollowed := true, recurses := true, named := ["modelcheck/inst.rows", "modelcheck/value.names"], apart := false, laid := [("modelcheck/value.names", laid_modelcheck_value_names), ("modelcheck/inst.rows", laid_modelcheck_inst_rows)] }
def MemoryLocksSaid : Prop := memoryLocksRow.holds Tryd.pinned (OpenSpec.ofChange memoryLocksSpec)

/-- ITS FALSE NEIGHBOUR: 'it returns false'. Refute it at one input. -/
def memoryLocksWrong : ChangeSpec := { name := "memoryLocks", fn := fun _ => fun
  | [d1, d2, d3] => { results := [.lit (.bool false)], args := [d1, d2, d3] }
  | _ => none }
def MemoryLocksWrongFalsely : Prop := memoryLocksRow.holds Tryd.pinned (OpenSpec.ofChange memoryLocksWrong)

/-- 'modelchecklaw21.MemoryEqual': WHATEVER THE INPUT: true; the input reads as it did. -/
def memoryEqualSpec : ChangeSpec := { name := "memoryEqual", fn := fun _ => fun
  | [d1, d2] => { results := [.lit (.bool true)], args := [d1, d2] }
  | _ => none }
def memoryEqualRow : OpenClaim := { program := "ytkgjfkdcnoockaadoor", sum := "41b006eef1d2090e327524e7ee964fb8cfee71f47383243c7a561cb8e0c3ce7a", func := "modelcheck/modelchecklaw21.MemoryEqual", spec := "memoryEqual", unfollowed := true, recurses := true, named := ["modelcheck/inst.rows", "modelcheck/value.names"], apart := false, laid := [("modelcheck/value.names", laid_modelcheck_value_names), ("modelcheck/inst.rows", laid_modelcheck_inst_rows)] }
def MemoryEqualSaid : Prop := memoryEqualRow.holds Tryd.pinned (OpenSpec.ofChange memoryEqualSpec)

/-- ITS FALSE NEIGHBOUR: 'it returns false'. Refute it at one input. -/
def memoryEqualWrong : ChangeSpec := { name := "memoryEqual", fn := fun _ => fun
  | [d1, d2] => { results := [.lit (.bool false)], args := [d1, d2] }
  | _ => none }
def MemoryEqualWrongFalsely : Prop := memoryEqualRow.holds Tryd.pinned (OpenSpec.ofChange memoryEqualWrong)

/-- 'modelchecklaw21.MemoryQueue': WHATEVER THE INPUT: true; the input reads as it did. -/
def memoryQueueSpec : ChangeSpec := { name := "memoryQueue", fn := fun _ => fun
  | [d1, d2, d3] => { results := [.lit (.bool true)], args := [d1, d2, d3] }
  | _ => none }
def memoryQueueRow : OpenClaim := { program := "ytkgjfkdcnoockaadoor", sum := "41b006eef1d2090e327524e7ee964fb8cfee71f47383243c7a561cb8e0c3ce7a", func := "modelcheck/modelchecklaw21.MemoryQueue", spec := "memoryQueue", unfollowed := true, recurses := true, named := ["modelcheck/inst.rows", "modelcheck/value.names"], apart := false, laid := [("modelcheck/value.names", laid_modelcheck_value_names), ("modelcheck/inst.rows", laid_modelcheck_inst_rows)] }
def MemoryQueueSaid : Prop := memoryQueueRow.holds Tryd.pinned (OpenSpec.ofChange memoryQueueSpec)

/-- ITS FALSE NEIGHBOUR: 'it returns false'. Refute it at one input. -/
def memoryQueueWrong : ChangeSpec := { name := "memoryQueue", fn := fun _ => fun
  | [d1, d2, d3] => { results := [.lit (.bool false)], args := [d1, d2, d3] }
  | _ => none }
def MemoryQueueWrongFalsely : Prop := memoryQueueRow.holds Tryd.pinned (OpenSpec.ofChange memoryQueueWrong)

/-- 'modelchecklaw21.MemoryMutex': WHATEVER THE INPUT: true; the input reads as it did. -/
def memoryMutexSpec : ChangeSpec := { name := "memoryMutex", fn := fun _ => fun
  | [d] => { results := [.lit (.bool true)], args := [d] }
  | _ => none }
def memoryMutexRow : OpenClaim := { program := "ytkgjfkdcnoockaadoor", sum := "41b006eef1d2090e327524e7ee964fb8cfee71f47383243c7a561cb8e0c3ce7a", func := "modelcheck/modelchecklaw21.MemoryMutex", spec := "memoryMutex", unfollowed := true, recurses := true, named := ["modelcheck/inst.rows", "modelcheck/value.names"], apart := false, laid := [("modelcheck/value.names", laid_modelcheck_value_names), ("modelcheck/inst.rows", laid_modelcheck_inst_rows)] }
def MemoryMutexSaid : Prop := memoryMutexRow.holds Tryd.pinned (OpenSpec.ofChange memoryMutexSpec)

/-- ITS FALSE NEIGHBOUR: 'it returns false'. Refute it at one input. -/
def memoryMutexWrong : ChangeSpec := { name := "memoryMutex", fn := fun _ => fun
  | [d] => { results := [.lit (.bool false)], args := [d] }
  | _ => none }
def MemoryMutexWrongFalsely : Prop := memoryMutexRow.holds Tryd.pinned (OpenSpec.ofChange memoryMutexWrong)

/- THE SECOND FORM. 'bulk': how many values and letters a reading holds, each counted each time it is reached (what is shared counts as often as it is met; a slice's spare places count too). A statement '..UptoSaid' is the law's where the arguments, and the package variables that the reading takes, are together of bulk at most 1048576: NARROWER than '..Said'. Prove '..Said' where nothing that the law and all that it calls make is longer than what came in: it says more and counts as full. Else prove '..UptoSaid'. A law counts once. -/
mutual
def uptoBulk {H : Type} : DataW H → Nat
  | .lit (.string bytes) => bytes.length + 1
  | .lit _ => 1
  | .nil => 1
  | .ptr d => uptoBulk d + 1
  | .slice elems spare => uptoBulkAll elems + uptoBulkAll spare + 1
  | .agg parts => uptoBulkAll parts + 1
  | .iface _ d => uptoBulk d + 1
  | .map entries => uptoBulkEntries entries + 1
  | .held _ => 1
def uptoBulkAll {H : Type} : List (DataW H) → Nat
  | [] => 0
  | d :: r => uptoBulk d + uptoBulkAll r
def uptoBulkEntries {H : Type} : List (Lit × DataW H) → Nat
  | [] => 0
  | x :: r => uptoBulkEntry x + uptoBulkEntries r
def uptoBulkEntry {H : Type} : Lit × DataW H → Nat
  | (.string bytes, d) => bytes.length + uptoBulk d + 1
  | (_, d) => uptoBulk d + 1
 end
def uptoSmall : (H : Type) → List (DataW H) → Bool := fun _ ds => decide (uptoBulkAll ds ≤ 1048576)
def OpenSpec.upto (s : _root_.Go.ChangeSpec) : _root_.Go.OpenSpec := { _root_.Go.OpenSpec.ofChange s with cond := some uptoSmall }

/-- 'modelchecklaw21.MemoryNew', WHERE WHAT IT READS IS OF BULK AT MOST 1048576: true; the input reads as it did. -/
def memoryNewUptoRow : OpenClaim := { program := "ytkgjfkdcnoockaadoor", sum := "41b006eef1d2090e327524e7ee964fb8cfee71f47383243c7a561cb8e0c3ce7a", func := "modelcheck/modelchecklaw21.MemoryNew", spec := "memoryNew", unfollowed := true, recurses := true, named := ["modelcheck/inst.rows", "modelcheck/value.names"], apart := false, laid := [("modelcheck/value.names", laid_modelcheck_value_names), ("modelcheck/inst.rows", laid_modelcheck_inst_rows)], narrowed := true }
def MemoryNewUptoSaid : Prop := memoryNewUptoRow.holds Tryd.pinned (OpenSpec.upto memoryNewSpec)

/-- 'modelchecklaw21.MemoryWaits', WHERE WHAT IT READS IS OF BULK AT MOST 1048576: true; the input reads as it did. -/
def memoryWaitsUptoRow : OpenClaim := { program := "ytkgjfkdcnoockaadoor", sum := "41b006eef1d2090e327524e7ee964fb8cfee71f47383243c7a561cb8e0c3ce7a", func := "modelcheck/modelchecklaw21.MemoryWaits", spec := "memoryWaits", unfollowed := true, recurses := true, named := ["modelcheck/inst.rows", "modelcheck/value.names"], apart := false, laid := [("modelcheck/value.names", laid_modelcheck_value_names), ("modelcheck/inst.rows", laid_modelcheck_inst_rows)], narrowed := true }
def MemoryWaitsUptoSaid : Prop := memoryWaitsUptoRow.holds Tryd.pinned (OpenSpec.upto memoryWaitsSpec)

/-- 'modelchecklaw21.MemoryVars', WHERE WHAT IT READS IS OF BULK AT MOST 1048576: true; the input reads as it did. -/
def memoryVarsUptoRow : OpenClaim := { program := "ytkgjfkdcnoockaadoor", sum := "41b006eef1d2090e327524e7ee964fb8cfee71f47383243c7a561cb8e0c3ce7a", func := "modelcheck/modelchecklaw21.MemoryVars", spec := "memoryVars", unfollowed := true, recurses := true, named := ["modelcheck/inst.rows", "modelcheck/value.names"], apart := false, laid := [("modelcheck/value.names", laid_modelcheck_value_names), ("modelcheck/inst.rows", laid_modelcheck_inst_rows)], narrowed := true }
def MemoryVarsUptoSaid : Prop := memoryVarsUptoRow.holds Tryd.pinned (OpenSpec.upto memoryVarsSpec)

/-- 'modelchecklaw21.MemoryLocks', WHERE WHAT IT READS IS OF BULK AT MOST 1048576: true; the input reads as it did. -/
def memoryLocksUptoRow : OpenClaim := { program := "ytkgjfkdcnoockaadoor", sum := "41b006eef1d2090e327524e7ee964fb8cfee71f47383243c7a561cb8e0c3ce7a", func := "modelcheck/modelchecklaw21.MemoryLocks", spec := "memoryLocks", unfollowed := true, recurses := true, named := ["modelcheck/inst.rows", "modelcheck/value.names"], apart := false, laid := [("modelcheck/value.names", laid_modelcheck_value_names), ("modelcheck/inst.rows", laid_modelcheck_inst_rows)], narrowed := true }
def MemoryLocksUptoSaid : Prop := memoryLocksUptoRow.holds Tryd.pinned (OpenSpec.upto memoryLocksSpec)

/-- 'modelchecklaw21.MemoryEqual', WHERE WHAT IT READS IS OF BULK AT MOST 1048576: true; the input reads as it did. -/
def memoryEqualUptoRow : OpenClaim := { program := "ytkgjfkdcnoockaadoor", sum := "41b006eef1d2090e327524e7ee964fb8cfee71f47383243c7a561cb8e0c3ce7a", func := "modelcheck/modelchecklaw21.MemoryEqual", spec := "memoryEqual", unfollowed := true, recurses := true, named := ["modelcheck/inst.rows", "modelcheck/value.names"], apart := false, laid := [("modelcheck/value.names", laid_modelcheck_value_names), ("modelcheck/inst.rows", laid_modelcheck_inst_rows)], narrowed := true }
def MemoryEqualUptoSaid : Prop := memoryEqualUptoRow.holds Tryd.pinned (OpenSpec.upto memoryEqualSpec)

/-- 'modelchecklaw21.MemoryQueue', WHERE WHAT IT READS IS OF BULK AT MOST 1048576: true; the input reads as it did. -/
def memoryQueueUptoRow : OpenClaim := { program := "ytkgjfkdcnoockaadoor", sum := "41b006eef1d2090e327524e7ee964fb8cfee71f47383243c7a561cb8e0c3ce7a", func := "modelcheck/modelchecklaw21.MemoryQueue", spec := "memoryQueue", unfollowed := true, recurses := true, named := ["modelcheck/inst.rows", "modelcheck/value.names"], apart := false, laid := [("modelcheck/value.names", laid_modelcheck_value_names), ("modelcheck/inst.rows", laid_modelcheck_inst_rows)], narrowed := true }
def MemoryQueueUptoSaid : Prop := memoryQueueUptoRow.holds Tryd.pinned (OpenSpec.upto memoryQueueSpec)

/-- 'modelchecklaw21.MemoryMutex', WHERE WHAT IT READS IS OF BULK AT MOST 1048576: true; the input reads as it did. -/
def memoryMutexUptoRow : OpenClaim := { program := "ytkgjfkdcnoockaadoor", sum := "41b006eef1d2090e327524e7ee964fb8cfee71f47383243c7a561cb8e0c3ce7a", func := "modelcheck/modelchecklaw21.MemoryMutex", spec := "memoryMutex", unfollowed := true, recurses := true, named := ["modelcheck/inst.rows", "modelcheck/value.names"], apart := false, laid := [("modelcheck/value.names", laid_modelcheck_value_names), ("modelcheck/inst.rows", laid_modelcheck_inst_rows)], narrowed := true }
def MemoryMutexUptoSaid : Prop := memoryMutexUptoRow.holds Tryd.pinned (OpenSpec.upto memoryMutexSpec)

end Rows
end Go.Proofs.YtkgjfkdcnoockaaDoor
