/- The Program chapter, part 9: the references, the check. -/
import Derived.Test.YtklnffdjhoacoaaDoorPV8
set_option linter.unusedSimpArgs false
set_option linter.unusedVariables false
set_option maxRecDepth 100000
namespace Go.Proofs.YtklnffdjhoacoaaDoor
open Go Go.Eng

@[reducible] def ctrVN : CT := { ps := [.str], pre := fun d => True, res := fun d => ([], vB (validN d.1)) }
@[reducible] def ctrNms : CT := { ps := [.sl .str], pre := fun d => d.1.length ≤ 1000000, res := fun d => ([], .tup [.c (.v (.int .i64 (if (nmsE d.1).1 = 0 then 0 else (nmsE d.1).2))), .c (.v (.int .i64 (nmsE d.1).1))]) }
@[reducible] def ctrLs : CT := { ps := [shP], pre := fun d => d.1.1.length ≤ 1000000 ∧ d.1.2.2.2.1.length ≤ 1000000, res := fun d => ([.row 9 .str (nmsV d.1.1), .row 9 .str (nmsF d.1.2.2.2.1)], .tup [.c (.row 0), .c (.row 1)]) }
/-- The first fault of a function's code, and its place. -/
def cdS (vs : List VD) (ms cs : List ByteArray) (fs : List FD) (l : List ID) : Int × Int := if 64 < l.length then (4, -1) else match l.findIdx? (fun i => decide (ciI vs ms cs fs i l.length ≠ 0)) with
  | some k => (ciI vs ms cs fs (l.getD k (0, 0, 0, 0, 0, 0, 0, 0, ())) l.length, k)
  | none => (0, -1)
theorem cd_found {vs : List VD} {ms cs : List ByteArray} {fs : List FD} {l : List ID} {k : Nat} {d : ID} (hl : ¬ 64 < l.length) (hd : l[k]? = some d) (hb : ciI vs ms cs fs d l.length ≠ 0) (hn : ∀ j < k, ∀ i, l[j]? = some i → ciI vs ms cs fs i l.length = 0) : cdS vs ms cs fs l = (ciI vs ms cs fs d l.length, (k : Int)) := by
  have hlt : k < l.length := (List.getElem?_eq_some_iff.1 hd).1
  have : l.findIdx? (fun i => decide (ciI vs ms cs fs i l.length ≠ 0)) = some k := by
    rw [List.findIdx?_eq_some_iff_getElem]
    refine ⟨hlt, by rw [(List.getElem?_eq_some_iff.1 hd).2]; simpa using hb, fun j hj => ?_⟩
    have := hn j hj l[j] (List.getElem?_eq_getElem (by omega))
    simpa using this
  unfold cdS
  rw [if_neg hl, this]
  show (ciI vs ms cs fs (l.getD k _) l.length, (k : Int)) = _
  rw [List.getD_eq_getElem?_getD, hd]; rfl
theorem cd_none {vs : List VD} {ms cs : List ByteArray} {fs : List FD} {l : List ID} (hl : ¬ 64 < l.length) (hn : ∀ (j : Nat) i, l[j]? = some i → ciI vs ms cs fs i l.length = 0) : cdS vs ms cs fs l = (0, -1) := by
  have : l.findIdx? (fun i => decide (ciI vs ms cs fs i l.length ≠ 0)) = none := by
    rw [List.findIdx?_eq_none_iff]
    intro y hy
    obtain ⟨j, hj⟩ := List.getElem?_of_mem hy
    simpa using hn j y hj
  unfold cdS
  rw [if_neg hl, this]
theorem ci_1 {vs : List VD} {ms cs : List ByteArray} {fs : List FD} {d : ID} {m : Int} (h : chkI d ≠ 0) : ciI vs ms cs fs d m = chkI d := by unfold ciI ciS; rw [if_pos h]
theorem ci_2 {vs : List VD} {ms cs : List ByteArray} {fs : List FD} {d : ID} {m : Int} (h : chkI d = 0) (h2 : exS vs ms cs fs d.1 d.2.2.2.2.1 d.2.2.2.2.2.1 = false) : ciI vs ms cs fs d m = 11 := by
  unfold exS at h2
  unfold ciI ciS
  rw [if_neg (by simpa using h)]
  split
  · rfl
  · rename_i h3
    rw [decide_eq_false h3] at h2
    rw [Bool.not_false, Bool.true_and, Bool.not_eq_false'] at h2
    rw [if_pos (of_decide_eq_true h2)]
theorem ci_3 {vs : List VD} {ms cs : List ByteArray} {fs : List FD} {d : ID} {m : Int} (h : chkI d = 0) (h2 : exS vs ms cs fs d.1 d.2.2.2.2.1 d.2.2.2.2.2.1 = true) : ciI vs ms cs fs d m = if (d.1 = 4 ∨ d.1 = 5) ∧ (d.2.2.2.2.2.1 < 0 ∨ m < d.2.2.2.2.2.1) then 12 else 0 := by
  unfold exS at h2
  rw [Bool.and_eq_true, Bool.not_eq_true', Bool.not_eq_true'] at h2
  unfold ciI ciS
  rw [if_neg (by simpa using h), if_neg (of_decide_eq_false h2.1), if_neg (of_decide_eq_false h2.2)]
@[reducible] def ctrCd : CT := { ps := [shP, shF], pre := fun d => True, res := fun d => ([], .tup [.c (.v (.int .i64 (cdS d.1.1 d.1.2.1 d.1.2.2.1 d.1.2.2.2.1 d.2.1.2.1).1)), .c (.v (.int .i64 (cdS d.1.1 d.1.2.1 d.1.2.2.1 d.1.2.2.2.1 d.2.1.2.1).2))]) }
end Go.Proofs.YtklnffdjhoacoaaDoor
