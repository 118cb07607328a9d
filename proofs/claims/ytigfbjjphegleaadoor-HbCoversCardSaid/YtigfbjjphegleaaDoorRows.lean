/-
  NARROWER THAN 'FOR EVERY INPUT', by the rows' own cells (each row's printed sentence says how): HbPasts: laid · HbStamps: laid · HbPrefixes: laid · HbOrders: laid · HbCovers: laid · HbClocks: laid.
  DERIVED. THE GIVEN ROWS OF THIS SEAT. 6 by the template 'for every input the law returns true; each argument reads behind the call as it read before'; 0 by the template 'total and deterministic' (their statements: YtigfbjjphegleaaDoorTotals.lean).
  GIVEN WITH THE SEED: the statements are not yours to turn. If you find one false, say at which input.
  Laid BY PROGRAM, IN A SANDBOX (cutbox-rows.mjs): the forced cells as the released guide's own fill.sh prints them over the translation 73893f1c7853f368… (all of the seat's roots in one cut). By AI agents, Wed Nov 11 2026. No macro, syntax, notation, axiom, sorry.
-/
import Derived.Test.YtigfbjjphegleaaDoorChecked
import GoSem.Claim
import GoSem.ClaimJoined
import GoSem.ClaimMapViews
import Derived.JoinedTies
import Derived.KernelRfl
namespace Go.Proofs.YtigfbjjphegleaaDoor
/- THE CELL 'sum', in the pinned program and in every row, IS THE sha256 OF THE DUMP (.gsa) THAT YtigfbjjphegleaaDoorProg.lean LOADS. Nothing in Lean hashes anything: it is a label: what it is worth is what the hold of that sum in a sandbox is worth. -/
noncomputable def Tryd.pinned : Pinned := { name := "ytigfbjjphegleaadoor", sum := "73893f1c7853f368400f2d860a0cdec761dcad1c757b94c7f3749427b4e74c03", checked := Tryd.checked }
namespace Rows
def none {H : Type} : Left H := { results := [], args := [] }

/- WHAT THE LISTED PACKAGE-LEVEL VARIABLES READ AS WHEN THE CALL BEGINS. Each datum BY PROGRAM (the guide's laid-datum.mjs) off the statement by which the dump's own 'gosem.cut.vars' lays the variable. In a bare row this is a premise. The card (YtigfbjjphegleaaDoorCards.lean) ties it to the program's text. -/
def laid_modelcheck_event_rows {H : Type} : DataW H := .agg [.agg [.lit (.int .i64 7), .lit (.bool true), .lit (.int .i64 (-2147483648)), .lit (.int .i64 2147483647), .lit (.bool false), .lit (.int .i64 (-1)), .lit (.int .i64 1), .lit (.bool false)], .agg [.lit (.int .i64 7), .lit (.bool true), .lit (.int .i64 0), .lit (.int .i64 0), .lit (.bool true), .lit (.int .i64 (-2)), .lit (.int .i64 1), .lit (.bool true)], .agg [.lit (.int .i64 7), .lit (.bool true), .lit (.int .i64 0), .lit (.int .i64 0), .lit (.bool true), .lit (.int .i64 0), .lit (.int .i64 4), .lit (.bool true)], .agg [.lit (.int .i64 7), .lit (.bool false), .lit (.int .i64 0), .lit (.int .i64 0), .lit (.bool true), .lit (.int .i64 0), .lit (.int .i64 1), .lit (.bool true)], .agg [.lit (.int .i64 7), .lit (.bool true), .lit (.int .i64 (-2147483648)), .lit (.int .i64 2147483647), .lit (.bool true), .lit (.int .i64 (-2)), .lit (.int .i64 1), .lit (.bool true)], .agg [.lit (.int .i64 7), .lit (.bool true), .lit (.int .i64 (-2147483648)), .lit (.int .i64 2147483647), .lit (.bool false), .lit (.int .i64 (-2)), .lit (.int .i64 1), .lit (.bool false)], .agg [.lit (.int .i64 0), .lit (.bool false), .lit (.int .i64 0), .lit (.int .i64 0), .lit (.bool false), .lit (.int .i64 (-2)), .lit (.int .i64 0), .lit (.bool false)], .agg [.lit (.int .i64 7), .lit (.bool true), .lit (.int .i64 (-2147483648)), .lit (.int .i64 2147483647), .lit (.bool false), .lit (.int .i64 (-1)), .lit (.int .i64 1), .lit (.bool false)], .agg [.lit (.int .i64 3), .lit (.bool false), .lit (.int .i64 0), .lit (.int .i64 0), .lit (.bool false), .lit (.int .i64 (-2)), .lit (.int .i64 2), .lit (.bool true)], .agg [.lit (.int .i64 3), .lit (.bool false), .lit (.int .i64 0), .lit (.int .i64 0), .lit (.bool false), .lit (.int .i64 (-2)), .lit (.int .i64 2), .lit (.bool true)], .agg [.lit (.int .i64 3), .lit (.bool false), .lit (.int .i64 0), .lit (.int .i64 1), .lit (.bool false), .lit (.int .i64 (-2)), .lit (.int .i64 2), .lit (.bool true)], .agg [.lit (.int .i64 3), .lit (.bool false), .lit (.int .i64 0), .lit (.int .i64 0), .lit (.bool false), .lit (.int .i64 (-2)), .lit (.int .i64 3), .lit (.bool true)], .agg [.lit (.int .i64 3), .lit (.bool false), .lit (.int .i64 0), .lit (.int .i64 0), .lit (.bool false), .lit (.int .i64 (-2)), .lit (.int .i64 3), .lit (.bool true)], .agg [.lit (.int .i64 3), .lit (.bool false), .lit (.int .i64 0), .lit (.int .i64 1), .lit (.bool false), .lit (.int .i64 (-2)), .lit (.int .i64 3), .lit (.bool true)], .agg [.lit (.int .i64 3), .lit (.bool false), .lit (.int .i64 0), .lit (.int .i64 (-1)), .lit (.bool false), .lit (.int .i64 (-2)), .lit (.int .i64 3), .lit (.bool true)], .agg [.lit (.int .i64 (-1)), .lit (.bool false), .lit (.int .i64 0), .lit (.int .i64 0), .lit (.bool false), .lit (.int .i64 (-2)), .lit (.int .i64 0), .lit (.bool false)], .agg [.lit (.int .i64 (-1)), .lit (.bool false), .lit (.int .i64 0), .lit (.int .i64 0), .lit (.bool false), .lit (.int .i64 (-2)), .lit (.int .i64 0), .lit (.bool false)]]

/-- 'modelchecklaw27.HbPasts': WHATEVER THE INPUT: true; the input reads as it did. -/
def hbPastsSpec : ChangeSpec := { name := "hbPasts", fn := fun _ => fun
  | [d1, d2, d3] => { results := [.lit (.bool true)], args := [d1, d2, d3] }
  | _ => none }
def hbPastsRow : OpenClaim := { program := "ytigfbjjphegleaadoor", sum := "73893f1c7853f368400f2d860a0cdec761dcad1c757b94c7f3749427b4e74c03", func := "modelcheck/modelchecklaw27.HbPasts", spec := "hbPasts", unfollowed := true, recurses := true, named := ["modelcheck/event.rows"], apart := false, laid := [("modelcheck/event.rows", laid_modelcheck_event_rows)] }
def HbPastsSaid : Prop := hbPastsRow.holds Tryd.pinned (OpenSpec.ofChange hbPastsSpec)

/-- ITS FALSE NEIGHBOUR: 'it returns false'. Refute it at one input. -/
def hbPastsWrong : ChangeSpec := { name := "hbPasts", fn := fun _ => fun
  | [d1, d2, d3] => { results := [.lit (.bool false)], args := [d1, d2, d3] }
  | _ => none }
def HbPastsWrongFalsely : Prop := hbPastsRow.holds Tryd.pinned (OpenSpec.ofChange hbPastsWrong)

/-- 'modelchecklaw27.HbStamps': WHATEVER THE INPUT: true; the input reads as it did. -/
def hbStampsSpec : ChangeSpec := { name := "hbStamps", fn := fun _ => fun
  | [d] => { results := [.lit (.bool true)], args := [d] }
  | _ => none }
def hbStampsRow : OpenClaim := { program := "ytigfbjjphegleaadoor", sum := "73893f1c7853f368400f2d860a0cdec761dcad1c757b94c7f3749427b4e74c03", func := "modelcheck/modelchecklaw27.HbStamps", spec := "hbStamps", unfollowed := true, recurses := true, named := ["modelcheck/event.rows"], apart := false, laid := [("modelcheck/event.rows", laid_modelcheck_event_rows)] }
def HbStampsSaid : Prop := hbStampsRow.holds Tryd.pinned (OpenSpec.ofChange hbStampsSpec)

/-- ITS FALSE NEIGHBOUR: 'it returns false'. Refute it at one input. -/
def hbStampsWrong : ChangeSpec := { name := "hbStamps", fn := fun _ => fun
  | [d] => { results := [.lit (.bool false)], args := [d] }
  | _ => none }
def HbStampsWrongFalsely : Prop := hbStampsRow.holds Tryd.pinned (OpenSpec.ofChange hbStampsWrong)

/-- 'modelchecklaw27.HbPrefixes': WHATEVER THE INPUT: true; the input reads as it did. -/
def hbPrefixesSpec : ChangeSpec := { name := "hbPrefixes", fn := fun _ => fun
  | [d1, d2] => { results := [.lit (.bool true)], args := [d1, d2] }
  | _ => none }
def hbPrefixesRow : OpenClaim := { program := "ytigfbjjphegleaadoor", sum := "73893f1c7853f368400f2d860a0cdec761dcad1c757b94c7f3749427b4e74c03", func := "modelcheck/modelchecklaw27.HbPrefixes", spec := "hbPrefixes", unfollowed := true, recurses := true, named := ["modelcheck/event.rows"], apart := false, laid := [("modelcheck/event.rows", laid_modelcheck_event_rows)] }
def HbPrefixesSaid : Prop := hbPrefixesRow.holds Tryd.pinned (OpenSpec.ofChange hbPrefixesSpec)

/-- ITS FALSE NEIGHBOUR: 'it returns false'. Refute it at one input. -/
def hbPrefixesWrong : ChangeSpec := { name := "hbPrefixes", fn := fun _ => fun
  | [d1, d2] => { results := [.lit (.bool false)], args := [d1, d2] }
  | _ => none }
def HbPrefixesWrongFalsely : Prop := hbPrefixesRow.holds Tryd.pinned (OpenSpec.ofChange hbPrefixesWrong)

/-- 'modelchecklaw27.HbOrders': WHATEVER THE INPUT: true; the input reads as it did. -/
def hbOrdersSpec : ChangeSpec := { name := "hbOrders", fn := fun _ => fun
  | [d] => { results := [.lit (.bool true)], args := [d] }
  | _ => none }
def hbOrdersRow : OpenClaim := { program := "ytigfbjjphegleaadoor", sum := "73893f1c7853f368400f2d860a0cdec761dcad1c757b94c7f3749427b4e74c03", func := "modelcheck/modelchecklaw27.HbOrders", spec := "hbOrders", unfollowed := true, recurses := true, named := ["modelcheck/event.rows"], apart := false, laid := [("modelcheck/event.rows", laid_modelcheck_event_rows)] }
def HbOrdersSaid : Prop := hbOrdersRow.holds Tryd.pinned (OpenSpec.ofChange hbOrdersSpec)

/-- ITS FALSE NEIGHBOUR: 'it returns false'. Refute it at one input. -/
def hbOrdersWrong : ChangeSpec := { name := "hbOrders", fn := fun _ => fun
  | [d] => { results := [.lit (.bool false)], args := [d] }
  | _ => none }
def HbOrdersWrongFalsely : Prop := hbOrdersRow.holds Tryd.pinned (OpenSpec.ofChange hbOrdersWrong)

/-- 'modelchecklaw27.HbCovers': WHATEVER THE INPUT: true; the input reads as it did. -/
def hbCoversSpec : ChangeSpec := { name := "hbCovers", fn := fun _ => fun
  | [d] => { results := [.lit (.bool true)], args := [d] }
  | _ => none }
def hbCoversRow : OpenClaim := { program := "ytigfbjjphegleaadoor", sum := "73893f1c7853f368400f2d860a0cdec761dcad1c757b94c7f3749427b4e74c03", func := "modelcheck/modelchecklaw27.HbCovers", spec := "hbCovers", unfollowed := true, recurses := true, named := ["modelcheck/event.rows"], apart := false, laid := [("modelcheck/event.rows", laid_modelcheck_event_rows)] }
def HbCoversSaid : Prop := hbCoversRow.holds Tryd.pinned (OpenSpec.ofChange hbCoversSpec)

/-- ITS FALSE NEIGHBOUR: 'it returns false'. Refute it at one input. -/
def hbCoversWrong : ChangeSpec := { name := "hbCovers", fn := fun _ => fun
  | [d] => { results := [.lit (.bool false)], args := [d] }
  | _ => none }
def HbCoversWrongFalsely : Prop := hbCoversRow.holds Tryd.pinned (OpenSpec.ofChange hbCoversWrong)

/-- 'modelchecklaw27.HbClocks': WHATEVER THE INPUT: true; the input reads as it did. -/
def hbClocksSpec : ChangeSpec := { name := "hbClocks", fn := fun _ => fun
  | [d] => { results := [.lit (.bool true)], args := [d] }
  | _ => none }
def hbClocksRow : OpenClaim := { program := "ytigfbjjphegleaadoor", sum := "73893f1c7853f368400f2d860a0cdec761dcad1c757b94c7f3749427b4e74c03", func := "modelcheck/modelchecklaw27.HbClocks", spec := "hbClocks", unfollowed := true, recurses := true, named := ["modelcheck/event.rows"], apart := false, laid := [("modelcheck/event.rows", laid_modelcheck_event_rows)] }
def HbClocksSaid : Prop := hbClocksRow.holds Tryd.pinned (OpenSpec.ofChange hbClocksSpec)

/-- ITS FALSE NEIGHBOUR: 'it returns false'. Refute it at one input. -/
def hbClocksWrong : ChangeSpec := { name := "hbClocks", fn := fun _ => fun
  | [d] => { results := [.lit (.bool false)], args := [d] }
  | _ => none }
def HbClocksWrongFalsely : Prop := hbClocksRow.holds Tryd.pinned (OpenSpec.ofChange hbClocksWrong)

/- THE SECOND FORM. 'bulk': how many values and letters a reading holds, each counted each time it is reached (what is shared counts as often as it is met; a slice's spare places count too). A statement '..UptoSaid' is the law's where the arguments, and the package variables that the reading takes, are together of bulk at most 1048576: NARROWER than '..Said'. Prove '..Said' where nothing that the law and all that it calls make is longer than what came in: it says more and counts as full. Else prove '..UptoSaid'. A law counts once. -/
mutual
def uptoBulk {H : Type} : DataW H → Nat
  | .lit (.string bytes) => bytes.length + 1
  | .lit _ => 1
  | .nil => 1
  | .ptr d => uptoBulk d + 1
  | .slice elems spare => uptoBulkAll elems + uptoBulkAll spare + 1
  | .agg parts => uptoBulkAll parts + 1
  | .iface _ d => uptoBulk d + 1
  | .map entries => uptoBulkEntries entries + 1
  | .held _ => 1
def uptoBulkAll {H : Type} : List (DataW H) → Nat
  | [] => 0
  | d :: r => uptoBulk d + uptoBulkAll r
def uptoBulkEntries {H : Type} : List (Lit × DataW H) → Nat
  | [] => 0
  | x :: r => uptoBulkEntry x + uptoBulkEntries r
def uptoBulkEntry {H : Type} : Lit × DataW H → Nat
  | (.string bytes, d) => bytes.length + uptoBulk d + 1
  | (_, d) => uptoBulk d + 1
 end
def uptoSmall : (H : Type) → List (DataW H) → Bool := fun _ ds => decide (uptoBulkAll ds ≤ 1048576)
def OpenSpec.upto (s : _root_.Go.ChangeSpec) : _root_.Go.OpenSpec := { _root_.Go.OpenSpec.ofChange s with cond := some uptoSmall }

/-- 'modelchecklaw27.HbPasts', WHERE WHAT IT READS IS OF BULK AT MOST 1048576: true; the input reads as it did. -/
def hbPastsUptoRow : OpenClaim := { program := "ytigfbjjphegleaadoor", sum := "73893f1c7853f368400f2d860a0cdec761dcad1c757b94c7f3749427b4e74c03", func := "modelcheck/modelchecklaw27.HbPasts", spec := "hbPasts", unfollowed := true, recurses := true, named := ["modelcheck/event.rows"], apart := false, laid := [("modelcheck/event.rows", laid_modelcheck_event_rows)], narrowed := true }
def HbPastsUptoSaid : Prop := hbPastsUptoRow.holds Tryd.pinned (OpenSpec.upto hbPastsSpec)

/-- 'modelchecklaw27.HbStamps', WHERE WHAT IT READS IS OF BULK AT MOST 1048576: true; the input reads as it did. -/
def hbStampsUptoRow : OpenClaim := { program := "ytigfbjjphegleaadoor", sum := "73893f1c7853f368400f2d860a0cdec761dcad1c757b94c7f3749427b4e74c03", func := "modelcheck/modelchecklaw27.HbStamps", spec := "hbStamps", unfollowed := true, recurses := true, named := ["modelcheck/event.rows"], apart := false, laid := [("modelcheck/event.rows", laid_modelcheck_event_rows)], narrowed := true }
def HbStampsUptoSaid : Prop := hbStampsUptoRow.holds Tryd.pinned (OpenSpec.upto hbStampsSpec)

/-- 'modelchecklaw27.HbPrefixes', WHERE WHAT IT READS IS OF BULK AT MOST 1048576: true; the input reads as it did. -/
def hbPrefixesUptoRow : OpenClaim := { program := "ytigfbjjphegleaadoor", sum := "73893f1c7853f368400f2d860a0cdec761dcad1c757b94c7f3749427b4e74c03", func := "modelcheck/modelchecklaw27.HbPrefixes", spec := "hbPrefixes", unfollowed := true, recurses := true, named := ["modelcheck/event.rows"], apart := false, laid := [("modelcheck/event.rows", laid_modelcheck_event_rows)], narrowed := true }
def HbPrefixesUptoSaid : Prop := hbPrefixesUptoRow.holds Tryd.pinned (OpenSpec.upto hbPrefixesSpec)

/-- 'modelchecklaw27.HbOrders', WHERE WHAT IT READS IS OF BULK AT MOST 1048576: true; the input reads as it did. -/
def hbOrdersUptoRow : OpenClaim := { program := "ytigfbjjphegleaadoor", sum := "73893f1c7853f368400f2d860a0cdec761dcad1c757b94c7f3749427b4e74c03", func := "modelcheck/modelchecklaw27.HbOrders", spec := "hbOrders", unfollowed := true, recurses := true, named := ["modelcheck/event.rows"], apart := false, laid := [("modelcheck/event.rows", laid_modelcheck_event_rows)], narrowed := true }
def HbOrdersUptoSaid : Prop := hbOrdersUptoRow.holds Tryd.pinned (OpenSpec.upto hbOrdersSpec)

/-- 'modelchecklaw27.HbCovers', WHERE WHAT IT READS IS OF BULK AT MOST 1048576: true; the input reads as it did. -/
def hbCoversUptoRow : OpenClaim := { program := "ytigfbjjphegleaadoor", sum := "73893f1c7853f368400f2d860a0cdec761dcad1c757b94c7f3749427b4e74c03", func := "modelcheck/modelchecklaw27.HbCovers", spec := "hbCovers", unfollowed := true, recurses := true, named := ["modelcheck/event.rows"], apart := false, laid := [("modelcheck/event.rows", laid_modelcheck_event_rows)], narrowed := true }
def HbCoversUptoSaid : Prop := hbCoversUptoRow.holds Tryd.pinned (OpenSpec.upto hbCoversSpec)

/-- 'modelchecklaw27.HbClocks', WHERE WHAT IT READS IS OF BULK AT MOST 1048576: true; the input reads as it did. -/
def hbClocksUptoRow : OpenClaim := { program := "ytigfbjjphegleaadoor", sum := "73893f1c7853f368400f2d860a0cdec761dcad1c757b94c7f3749427b4e74c03", func := "modelcheck/modelchecklaw27.HbClocks", spec := "hbClocks", unfollowed := true, recurses := true, named := ["modelcheck/event.rows"], apart := false, laid := [("modelcheck/event.rows", laid_modelcheck_event_rows)], narrowed := true }
def HbClocksUptoSaid : Prop := hbClocksUptoRow.holds Tryd.pinned (OpenSpec.upto hbClocksSpec)

end Rows
end Go.Proofs.YtigfbjjphegleaaDoor
