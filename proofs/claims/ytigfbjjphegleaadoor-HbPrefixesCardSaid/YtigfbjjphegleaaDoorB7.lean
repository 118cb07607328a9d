/- Texts of this claim, part 7: E10, K8, E11, K9, E13, L4. Conditions: those of the given rows. -/
import Derived.Test.YtigfbjjphegleaaDoorB6
import Derived.Test.YtigfbjjphegleaaDoorCards
import Derived.Test.YtigfbjjphegleaaDoorTie
import Derived.WalkKit
import Derived.ProofKit
import Derived.OpenShut
import Derived.Deep.DeepHandedRow
import Derived.Lib.LaidTab
set_option linter.unusedSimpArgs false
set_option linter.unusedVariables false
set_option maxRecDepth 100000
namespace Go.Proofs.YtigfbjjphegleaaDoor
open Go Go.Eng

@[reducible] def ctSame : CT := { ps := [.sl (.int .i64), .sl (.int .i64)], pre := fun d => d.1.length ≤ 1000000, res := fun d => ([], vB (decide (d.1 = d.2.1))) }
@[reducible] def cl12 : List (Nat × CT) := []
@[reducible] def ann12 (u : List (Int)) (v : List (Int)) : Nat → Option (St → Ann) := fun n => match n with
  | 4 => some fun _ => .inv { α := Nat, slots := fun k => [(5, .c (.v (.int .i64 k)))], res := fun k => [], inv := fun k => k ≤ u.length ∧ ∀ j < k, u[j]? = v[j]?, meas := fun k => u.length - k }
  | _ => none
@[reducible] def il12 : List (Nat × IP) := []
@[reducible] def hl12 : List (Nat × Nat × CT) := []
@[reducible] def ml12 : List (Nat × MK) := []
set_option maxRecDepth 100000 in
theorem f12_vc (u : List (Int)) (v : List (Int)) (hpre : ctSame.pre (u, v, ())) :
    br (!decide ((↑u.length : Int) = (↑v.length : Int))) (([] : List Go.Eng.Res) = [] ∧ Ent.one (SV.c (SC.v (Value.bool (decide (u = v))))) = Ent.one (SV.c (SC.v (Value.bool false)))) ((∃ x, (x ≤ u.length ∧ ∀ (j : Nat), j < x → u[j]? = v[j]?) ∧ (SV.c (SC.v (Value.int IntKind.i64 (0 : Int))) = SV.c (SC.v (Value.int IntKind.i64 (↑x : Int))) ∧ True) ∧ ([] : List (Go.Eng.Gd × Go.Eng.Res)) = []) ∧ ∀ (x : Nat), (x ≤ u.length ∧ ∀ (j : Nat), j < x → u[j]? = v[j]?) → br (decide ((↑x : Int) < (↑u.length : Int))) (((0 : Int) ≤ (↑x : Int) ∧ (↑x : Int) < (↑u.length : Int)) ∧ ∀ (d : Int), u[(↑x : Int).toNat]? = some d → ((0 : Int) ≤ (↑x : Int) ∧ (↑x : Int) < (↑v.length : Int)) ∧ ∀ (d_1 : Int), v[(↑x : Int).toNat]? = some d_1 → br (!decide (d = d_1)) (([] : List Go.Eng.Res) = [] ∧ Ent.one (SV.c (SC.v (Value.bool (decide (u = v))))) = Ent.one (SV.c (SC.v (Value.bool false)))) (InR IntKind.i64 ((↑x : Int) + (1 : Int)) ∧ ∃ x', (x' ≤ u.length ∧ ∀ (j : Nat), j < x' → u[j]? = v[j]?) ∧ (SV.c (SC.v (Value.int IntKind.i64 ((↑x : Int) + (1 : Int)))) = SV.c (SC.v (Value.int IntKind.i64 (↑x' : Int))) ∧ True) ∧ ([] : List (Go.Eng.Gd × Go.Eng.Res)) = [] ∧ u.length - x' < u.length - x)) (([] : List Go.Eng.Res) = [] ∧ Ent.one (SV.c (SC.v (Value.bool (decide (u = v))))) = Ent.one (SV.c (SC.v (Value.bool true))))) := by
  have hp : u.length ≤ 1000000 := hpre
  have fF : u ≠ v → ([] : List Go.Eng.Res) = [] ∧ Ent.one (SV.c (SC.v (Value.bool (decide (u = v))))) = Ent.one (SV.c (SC.v (Value.bool false))) := fun q => ⟨rfl, by rw [decide_eq_false q]⟩
  refine br_iff.2 ⟨fun h => fF fun q => ?_, fun h => ?_⟩
  · subst q; simp at h
  simp only [Bool.not_eq_false', decide_eq_true_eq] at h
  refine ⟨⟨0, ⟨by omega, fun j hj => by omega⟩, ⟨rfl, trivial⟩, rfl⟩, fun k hk => br_iff.2 ⟨fun g => ?_, fun g => ?_⟩⟩
  · simp only [decide_eq_true_eq] at g
    refine ⟨⟨by omega, by omega⟩, fun d hd => ⟨⟨by omega, by omega⟩, fun d1 hd1 => br_iff.2 ⟨fun g2 => fF fun q => ?_, fun g2 => ⟨InR_i64.2 (by omega), k + 1, ⟨by omega, fun j hj => ?_⟩, ⟨rfl, trivial⟩, rfl, by omega⟩⟩⟩⟩
    · subst q
      rw [hd] at hd1; cases hd1
      simp at g2
    · by_cases hjk : j = k
      · subst hjk
        have hd : u[j]? = some d := hd
        have hd1 : v[j]? = some d1 := hd1
        simp at g2
        rw [hd, hd1, g2]
      · exact hk.2 j (by omega)
  simp only [decide_eq_false_iff_not] at g
  have e : u = v := by
    apply List.ext_getElem?
    intro j
    by_cases hj : j < k
    · exact hk.2 j hj
    · rw [List.getElem?_eq_none (by omega), List.getElem?_eq_none (by omega)]
  exact ⟨rfl, by rw [decide_eq_true e]⟩
set_option maxHeartbeats 2000000 in
set_option maxRecDepth 100000 in
theorem f12_met : Go.Eng.Met Tryd.prog cx0.gd 12 ctSame :=
  (met_all (cx := cx0) (n := 26) (cl := cl12) (il := il12) (hl := hl12) (ml := ml12) (rc := []) (lits := []) (suf := []) (by kernel_rfl) tis_ok trivial trivial trivial trivial Tryd.func12 (by kernel_rfl) (by kernel_rfl) rfl (by kernel_rfl) (by kernel_rfl) (by simp) fun d hd => by
    obtain ⟨u, v, ⟨⟩⟩ := d
    exact ex_of (ann12 u v) (f12_vc u v hd) (by kernel_rfl)).met
@[reducible] def ctPrs : CT := { ps := [.sl shP, .sl shP], pre := fun d => d.1.length ≤ 1000000, res := fun d => ([], vB (decide (d.1 = d.2.1))) }
@[reducible] def cl26 : List (Nat × CT) := []
@[reducible] def ann26 (u : List (List Int)) (v : List (List Int)) : Nat → Option (St → Ann) := fun n => match n with
  | 4 => some fun _ => .inv { α := Nat, slots := fun k => [(5, .c (.v (.int .i64 k)))], res := fun k => [], inv := fun k => k ≤ u.length ∧ ∀ j < k, u[j]? = v[j]?, meas := fun k => u.length - k }
  | _ => none
@[reducible] def il26 : List (Nat × IP) := []
@[reducible] def hl26 : List (Nat × Nat × CT) := []
@[reducible] def ml26 : List (Nat × MK) := []
set_option maxRecDepth 100000 in
theorem f26_vc (u : List (List Int)) (v : List (List Int)) (hpre : ctPrs.pre (u, v, ())) :
    br (!decide ((↑u.length : Int) = (↑v.length : Int))) (([] : List Go.Eng.Res) = [] ∧ Ent.one (SV.c (SC.v (Value.bool (decide (u = v))))) = Ent.one (SV.c (SC.v (Value.bool false)))) ((∃ x, (x ≤ u.length ∧ ∀ (j : Nat), j < x → u[j]? = v[j]?) ∧ (SV.c (SC.v (Value.int IntKind.i64 (0 : Int))) = SV.c (SC.v (Value.int IntKind.i64 (↑x : Int))) ∧ True) ∧ ([] : List (Go.Eng.Gd × Go.Eng.Res)) = []) ∧ ∀ (x : Nat), (x ≤ u.length ∧ ∀ (j : Nat), j < x → u[j]? = v[j]?) → br (decide ((↑x : Int) < (↑u.length : Int))) (((0 : Int) ≤ (↑x : Int) ∧ (↑x : Int) < (↑u.length : Int)) ∧ ∀ (d : List I6.den), u[(↑x : Int).toNat]? = some d → ((0 : Int) ≤ (↑x : Int) ∧ (↑x : Int) < (↑v.length : Int)) ∧ ∀ (d_1 : List I6.den), v[(↑x : Int).toNat]? = some d_1 → br (!decide (d = d_1)) (([] : List Go.Eng.Res) = [] ∧ Ent.one (SV.c (SC.v (Value.bool (decide (u = v))))) = Ent.one (SV.c (SC.v (Value.bool false)))) (InR IntKind.i64 ((↑x : Int) + (1 : Int)) ∧ ∃ x', (x' ≤ u.length ∧ ∀ (j : Nat), j < x' → u[j]? = v[j]?) ∧ (SV.c (SC.v (Value.int IntKind.i64 ((↑x : Int) + (1 : Int)))) = SV.c (SC.v (Value.int IntKind.i64 (↑x' : Int))) ∧ True) ∧ ([] : List (Go.Eng.Gd × Go.Eng.Res)) = [] ∧ u.length - x' < u.length - x)) (([] : List Go.Eng.Res) = [] ∧ Ent.one (SV.c (SC.v (Value.bool (decide (u = v))))) = Ent.one (SV.c (SC.v (Value.bool true))))) := by
  have hp : u.length ≤ 1000000 := hpre
  have fF : u ≠ v → ([] : List Go.Eng.Res) = [] ∧ Ent.one (SV.c (SC.v (Value.bool (decide (u = v))))) = Ent.one (SV.c (SC.v (Value.bool false))) := fun q => ⟨rfl, by rw [decide_eq_false q]⟩
  refine br_iff.2 ⟨fun h => fF fun q => ?_, fun h => ?_⟩
  · subst q; simp at h
  simp only [Bool.not_eq_false', decide_eq_true_eq] at h
  refine ⟨⟨0, ⟨by omega, fun j hj => by omega⟩, ⟨rfl, trivial⟩, rfl⟩, fun k hk => br_iff.2 ⟨fun g => ?_, fun g => ?_⟩⟩
  · simp only [decide_eq_true_eq] at g
    refine ⟨⟨by omega, by omega⟩, fun d hd => ⟨⟨by omega, by omega⟩, fun d1 hd1 => br_iff.2 ⟨fun g2 => fF fun q => ?_, fun g2 => ⟨InR_i64.2 (by omega), k + 1, ⟨by omega, fun j hj => ?_⟩, ⟨rfl, trivial⟩, rfl, by omega⟩⟩⟩⟩
    · subst q
      rw [hd] at hd1; cases hd1
      simp at g2
    · by_cases hjk : j = k
      · subst hjk
        have hd : u[j]? = some d := hd
        have hd1 : v[j]? = some d1 := hd1
        simp at g2
        rw [hd, hd1, g2]
      · exact hk.2 j (by omega)
  simp only [decide_eq_false_iff_not] at g
  have e : u = v := by
    apply List.ext_getElem?
    intro j
    by_cases hj : j < k
    · exact hk.2 j hj
    · rw [List.getElem?_eq_none (by omega), List.getElem?_eq_none (by omega)]
  exact ⟨rfl, by rw [decide_eq_true e]⟩
set_option maxHeartbeats 2000000 in
set_option maxRecDepth 100000 in
theorem f26_met : Go.Eng.Met Tryd.prog cx0.gd 26 ctPrs :=
  (met_all (cx := cx0) (n := 26) (cl := cl26) (il := il26) (hl := hl26) (ml := ml26) (rc := []) (lits := []) (suf := []) (by kernel_rfl) tis_ok trivial trivial trivial trivial Tryd.func26 (by kernel_rfl) (by kernel_rfl) rfl (by kernel_rfl) (by kernel_rfl) (by simp) fun d hd => by
    obtain ⟨u, v, ⟨⟩⟩ := d
    exact ex_of (ann26 u v) (f26_vc u v hd) (by kernel_rfl)).met
@[reducible] def ctSm3 : CT := { ps := [.sl shTk, .sl shTk], pre := fun d => d.1.length ≤ 1000000, res := fun d => ([], vB (decide (d.1 = d.2.1))) }
@[reducible] def cl19 : List (Nat × CT) := []
@[reducible] def ann19 (u : List (TkD)) (v : List (TkD)) : Nat → Option (St → Ann) := fun n => match n with
  | 4 => some fun _ => .inv { α := Nat, slots := fun k => [(5, .c (.v (.int .i64 k)))], res := fun k => [], inv := fun k => k ≤ u.length ∧ ∀ j < k, u[j]? = v[j]?, meas := fun k => u.length - k }
  | _ => none
@[reducible] def il19 : List (Nat × IP) := []
@[reducible] def hl19 : List (Nat × Nat × CT) := []
@[reducible] def ml19 : List (Nat × MK) := []
set_option maxRecDepth 100000 in
theorem f19_vc (u : List (TkD)) (v : List (TkD)) (hpre : ctSm3.pre (u, v, ())) :
    br (!decide ((↑u.length : Int) = (↑v.length : Int))) (([] : List Go.Eng.Res) = [] ∧ Ent.one (SV.c (SC.v (Value.bool (decide (u = v))))) = Ent.one (SV.c (SC.v (Value.bool false)))) ((∃ x, (x ≤ u.length ∧ ∀ (j : Nat), j < x → u[j]? = v[j]?) ∧ (SV.c (SC.v (Value.int IntKind.i64 (0 : Int))) = SV.c (SC.v (Value.int IntKind.i64 (↑x : Int))) ∧ True) ∧ ([] : List (Go.Eng.Gd × Go.Eng.Res)) = []) ∧ ∀ (x : Nat), (x ≤ u.length ∧ ∀ (j : Nat), j < x → u[j]? = v[j]?) → br (decide ((↑x : Int) < (↑u.length : Int))) (((0 : Int) ≤ (↑x : Int) ∧ (↑x : Int) < (↑u.length : Int)) ∧ ∀ (d : I6.den × (I6.pair Sh.unit).den), u[(↑x : Int).toNat]? = some d → ((0 : Int) ≤ (↑x : Int) ∧ (↑x : Int) < (↑v.length : Int)) ∧ ∀ (d_1 : I6.den × (I6.pair Sh.unit).den), v[(↑x : Int).toNat]? = some d_1 → br (!(true && d.fst == d_1.fst && d.snd.fst == d_1.snd.fst)) (([] : List Go.Eng.Res) = [] ∧ Ent.one (SV.c (SC.v (Value.bool (decide (u = v))))) = Ent.one (SV.c (SC.v (Value.bool false)))) (InR IntKind.i64 ((↑x : Int) + (1 : Int)) ∧ ∃ x', (x' ≤ u.length ∧ ∀ (j : Nat), j < x' → u[j]? = v[j]?) ∧ (SV.c (SC.v (Value.int IntKind.i64 ((↑x : Int) + (1 : Int)))) = SV.c (SC.v (Value.int IntKind.i64 (↑x' : Int))) ∧ True) ∧ ([] : List (Go.Eng.Gd × Go.Eng.Res)) = [] ∧ u.length - x' < u.length - x)) (([] : List Go.Eng.Res) = [] ∧ Ent.one (SV.c (SC.v (Value.bool (decide (u = v))))) = Ent.one (SV.c (SC.v (Value.bool true))))) := by
  have hp : u.length ≤ 1000000 := hpre
  have fF : u ≠ v → ([] : List Go.Eng.Res) = [] ∧ Ent.one (SV.c (SC.v (Value.bool (decide (u = v))))) = Ent.one (SV.c (SC.v (Value.bool false))) := fun q => ⟨rfl, by rw [decide_eq_false q]⟩
  refine br_iff.2 ⟨fun h => fF fun q => ?_, fun h => ?_⟩
  · subst q; simp at h
  simp only [Bool.not_eq_false', decide_eq_true_eq] at h
  refine ⟨⟨0, ⟨by omega, fun j hj => by omega⟩, ⟨rfl, trivial⟩, rfl⟩, fun k hk => br_iff.2 ⟨fun g => ?_, fun g => ?_⟩⟩
  · simp only [decide_eq_true_eq] at g
    refine ⟨⟨by omega, by omega⟩, fun d hd => ⟨⟨by omega, by omega⟩, fun d1 hd1 => br_iff.2 ⟨fun g2 => fF fun q => ?_, fun g2 => ⟨InR_i64.2 (by omega), k + 1, ⟨by omega, fun j hj => ?_⟩, ⟨rfl, trivial⟩, rfl, by omega⟩⟩⟩⟩
    · subst q
      rw [hd] at hd1; cases hd1
      simp at g2
    · by_cases hjk : j = k
      · subst hjk
        have hd : u[j]? = some d := hd
        have hd1 : v[j]? = some d1 := hd1
        simp at g2
        rw [hd, hd1, tk_inj (x := d) (y := d1) (Prod.ext g2.1 g2.2)]
      · exact hk.2 j (by omega)
  simp only [decide_eq_false_iff_not] at g
  have e : u = v := by
    apply List.ext_getElem?
    intro j
    by_cases hj : j < k
    · exact hk.2 j hj
    · rw [List.getElem?_eq_none (by omega), List.getElem?_eq_none (by omega)]
  exact ⟨rfl, by rw [decide_eq_true e]⟩
set_option maxHeartbeats 2000000 in
set_option maxRecDepth 100000 in
theorem f19_met : Go.Eng.Met Tryd.prog cx0.gd 19 ctSm3 :=
  (met_all (cx := cx0) (n := 26) (cl := cl19) (il := il19) (hl := hl19) (ml := ml19) (rc := []) (lits := []) (suf := []) (by kernel_rfl) tis_ok trivial trivial trivial trivial Tryd.func19 (by kernel_rfl) (by kernel_rfl) rfl (by kernel_rfl) (by kernel_rfl) (by simp) fun d hd => by
    obtain ⟨u, v, ⟨⟩⟩ := d
    exact ex_of (ann19 u v) (f19_vc u v hd) (by kernel_rfl)).met
def turnI (i k : Int) : Int := if i = k then k - 1 else if i = k - 1 then k else i
@[reducible] def ctTurn : CT := { ps := [.int .i64, .int .i64], pre := fun d => -1000 ≤ d.2.1 ∧ d.2.1 ≤ 1000, res := fun d => ([], .one (.c (.v (.int .i64 (turnI d.1 d.2.1))))) }
@[reducible] def cl21 : List (Nat × CT) := []
@[reducible] def ann21 (i : Int) (k : Int) : Nat → Option (St → Ann) := fun _ => none
set_option maxRecDepth 100000 in
theorem f21_vc (i : Int) (k : Int) (hpre : ctTurn.pre (i, k, ())) :
    br (decide (i = k)) (InR IntKind.i64 (k - (1 : Int)) ∧ ([] : List Go.Eng.Res) = [] ∧ Ent.one (SV.c (SC.v (Value.int IntKind.i64 (turnI i k)))) = Ent.one (SV.c (SC.v (Value.int IntKind.i64 (k - (1 : Int)))))) (InR IntKind.i64 (k - (1 : Int)) ∧ br (decide (i = k - (1 : Int))) (([] : List Go.Eng.Res) = [] ∧ Ent.one (SV.c (SC.v (Value.int IntKind.i64 (turnI i k)))) = Ent.one (SV.c (SC.v (Value.int IntKind.i64 k)))) (([] : List Go.Eng.Res) = [] ∧ Ent.one (SV.c (SC.v (Value.int IntKind.i64 (turnI i k)))) = Ent.one (SV.c (SC.v (Value.int IntKind.i64 i))))) := by
  have hk : -1000 ≤ k ∧ k ≤ 1000 := hpre
  refine br_iff.2 ⟨fun h => ⟨InR_i64.2 (by omega), rfl, ?_⟩, fun h => ⟨InR_i64.2 (by omega), br_iff.2 ⟨fun h2 => ⟨rfl, ?_⟩, fun h2 => ⟨rfl, ?_⟩⟩⟩⟩
  · rw [show turnI i k = k - 1 from if_pos (by simpa using h)]
  · simp only [decide_eq_true_eq, decide_eq_false_iff_not] at h h2
    rw [show turnI i k = k by unfold turnI; rw [if_neg h, if_pos h2]]
  · simp only [decide_eq_false_iff_not] at h h2
    rw [show turnI i k = i by unfold turnI; rw [if_neg h, if_neg h2]]
set_option maxHeartbeats 2000000 in
set_option maxRecDepth 100000 in
theorem f21_met : Go.Eng.Met Tryd.prog cx0.gd 21 ctTurn :=
  met_of (cx := cx0) (n := 16) (cl := cl21) (by kernel_rfl) tis_ok trivial Tryd.func21 (by kernel_rfl) (by kernel_rfl) rfl (by kernel_rfl) (by kernel_rfl) fun d hd => by
    obtain ⟨i, k, ⟨⟩⟩ := d
    exact ex_of (ann21 i k) (f21_vc i k hd) (by kernel_rfl)
def exL : List ED := [(0, 0, 2, 0, -1, -1, 0, 0, 0, ()), (1, 0, 2, 1, -1, -1, 0, 0, 0, ()), (1, 1, 1, 0, -1, -1, 0, 0, 0, ())]
@[reducible] def ctExm : CT := { ps := [], pre := fun d => True, res := fun d => ([], .one (.c (.sl shE exL))) }
@[reducible] def cl32 : List (Nat × CT) := []
@[reducible] def ann32  : Nat → Option (St → Ann) := fun _ => none
@[reducible] def il32 : List (Nat × IP) := []
@[reducible] def hl32 : List (Nat × Nat × CT) := []
@[reducible] def ml32 : List (Nat × MK) := []
set_option maxRecDepth 100000 in
theorem f32_vc  :
    ([] : List Go.Eng.Res) = [] ∧ Ent.one (SV.c (SC.sl shE exL)) = Ent.one (SV.c (SC.sl shE ([((0 : Int), (0 : Int), (2 : Int), (0 : Int), (-1 : Int), (-1 : Int), (0 : Int), (0 : Int), (0 : Int), ()), ((1 : Int), (0 : Int), (2 : Int), (1 : Int), (-1 : Int), (-1 : Int), (0 : Int), (0 : Int), (0 : Int), ()), ((1 : Int), (1 : Int), (1 : Int), (0 : Int), (-1 : Int), (-1 : Int), (0 : Int), (0 : Int), (0 : Int), ())]))) := by
  exact ⟨rfl, rfl⟩
set_option maxHeartbeats 2000000 in
set_option maxRecDepth 100000 in
theorem f32_met : Go.Eng.Met Tryd.prog cx0.gd 32 ctExm :=
  (met_all (cx := cx0) (n := 5) (cl := cl32) (il := il32) (hl := hl32) (ml := ml32) (rc := [.data (.sl shE)]) (lits := []) (suf := []) (by kernel_rfl) tis_ok trivial trivial trivial trivial Tryd.func32 (by kernel_rfl) (by kernel_rfl) rfl (by kernel_rfl) (by kernel_rfl) (by simp) fun d hd => by
    obtain ⟨⟩ := d
    exact ex_of (ann32 ) (f32_vc ) (by kernel_rfl)).met
end Go.Proofs.YtigfbjjphegleaaDoor
set_option linter.unusedSimpArgs false
set_option linter.unusedVariables false
namespace Go.Proofs.YtigfbjjphegleaaDoor
open Go Go.Eng
theorem exb : ∀ e ∈ exL, bE e := by
  intro e he
  simp only [exL, List.mem_cons, List.not_mem_nil, or_false] at he
  rcases he with rfl | rfl | rfl <;> exact ⟨by decide, by decide⟩
theorem ex01 : bfL exL 0 1 = false := by
  rw [← Bool.not_eq_true, bfL_iff, Bf.iff]
  rintro ⟨k, hk, d, _⟩
  have : k = 0 := by omega
  subst this
  exact absurd d (by decide)
theorem ex02 : bfL exL 0 2 = true := bfL_iff.2 (.one (by omega) (by decide))
theorem ex12 : bfL exL 1 2 = true := bfL_iff.2 (.one (by omega) (by decide))
theorem ex_low {i j : Nat} (h : j ≤ i) : bfL exL i j = false := bf_up h
theorem ex_cov : covM exL = [[0, 2], [1, 2]] := by
  have l3 : exL.length = 3 := rfl
  have c01 : covB exL 0 1 = false := by simp [covB, ex01]
  have c02 : covB exL 0 2 = true := by simp [covB, ex02, List.range_succ, ex01, ex_low]
  have c12 : covB exL 1 2 = true := by simp [covB, ex12, List.range_succ]
  unfold covM
  rw [l3, if_neg (by omega)]
  simp [pairs, pairI, List.range_succ, c01, c02, c12]
theorem ex_too : tooM exL = 0 := if_neg (by decide)
theorem ex_clk : clkM exL = [ckL exL 0, ckL exL 1, [(0, 1, ()), (1, 2, ())]] := by
  have l3 : exL.length = 3 := rfl
  have a0 : agA exL 0 = 0 := rfl
  have a1 : agA exL 1 = 1 := rfl
  have a2 : agA exL 2 = 1 := rfl
  have e0 : ckA exL 2 0 = [(1, 1)] := by simp [ckA, mput, a2]
  have e1 : ckA exL 2 1 = [(0, 1), (1, 1)] := by
    rw [show ckA exL 2 1 = bump (ckA exL 2 0) (agA exL 0) from if_pos ex02, e0, a0]; rfl
  have e2 : ckA exL 2 2 = [(0, 1), (1, 2)] := by
    rw [show ckA exL 2 2 = bump (ckA exL 2 1) (agA exL 1) from if_pos ex12, e1, a1]; rfl
  have c2 : ckL exL 2 = [(0, 1, ()), (1, 2, ())] := by unfold ckL; rw [e2]; rfl
  unfold clkM
  rw [l3, if_neg (by omega)]
  simp [clkP, List.range_succ, c2]
theorem ex_b02 : befM exL 0 2 = true := by
  unfold befM
  rw [if_neg (by simp [badI, exL])]
  exact ex02
theorem ex_b01 : befM exL 0 1 = false := by
  unfold befM
  rw [if_neg (by simp [badI, exL])]
  exact ex01
theorem ex_not : notM exL 0 = [1] := by
  have l3 : exL.length = 3 := rfl
  unfold notM
  rw [if_neg (by simp [badI, exL]), l3]
  simp [upL, List.range_succ, ex01, ex02]
theorem ex_pas : pasM exL 2 = [0, 1, 2] := by
  unfold pasM
  rw [if_neg (by simp [badI, exL])]
  show upL (fun i => bfL exL i 2) 2 ++ [2] = _
  simp [upL, List.range_succ, ex02, ex12]
end Go.Proofs.YtigfbjjphegleaaDoor
set_option linter.unusedSimpArgs false
set_option linter.unusedVariables false
set_option maxRecDepth 100000
namespace Go.Proofs.YtigfbjjphegleaaDoor
open Go Go.Eng

@[reducible] def ctLiv : CT := { ps := [], pre := fun d => True, res := fun d => ([], vB (true)) }
@[reducible] noncomputable def cl9 : List (Nat × CT) := [(32, ctExm), (24, ctCov), (17, ctClk), (26, ctPrs), (19, ctSm3), (10, ctBef), (15, ctNot), (13, ctPas), (12, ctSame)]
@[reducible] noncomputable def ann9  : Nat → Option (St → Ann) := fun _ => none
@[reducible] def il9 : List (Nat × IP) := []
@[reducible] def hl9 : List (Nat × Nat × CT) := []
@[reducible] noncomputable def ml9 : List (Nat × MK) := []
set_option maxRecDepth 100000 in
theorem f9_vc  :
    True ∧ (∀ (e : I6.den × (I6.pair (I6.pair (I6.pair (I6.pair (I6.pair (I6.pair shTk)))))).den), e ∈ exL → bE e) ∧ True ∧ (∀ (e : I6.den × (I6.pair (I6.pair (I6.pair (I6.pair (I6.pair (I6.pair shTk)))))).den), e ∈ exL → bE e) ∧ (true = true → (covM exL).length ≤ (1000000 : Nat)) ∧ ((true && decide (covM exL = [[(0 : Int), (2 : Int)], [(1 : Int), (2 : Int)]]) && true) = true → (0 : Int) ≤ (2 : Int) ∧ (2 : Int) < (3 : Int)) ∧ ∀ (d : List shTk.den), ((true && decide (covM exL = [[(0 : Int), (2 : Int)], [(1 : Int), (2 : Int)]]) && true) = true → (clkM exL)[(2 : Nat)]? = some d) → ((true && decide (covM exL = [[(0 : Int), (2 : Int)], [(1 : Int), (2 : Int)]]) && true) = true → d.length ≤ (1000000 : Nat)) ∧ ((true && decide (covM exL = [[(0 : Int), (2 : Int)], [(1 : Int), (2 : Int)]]) && true && decide (d = [((0 : Int), (1 : Int), ()), ((1 : Int), (2 : Int), ())])) = true → True) ∧ ((true && decide (covM exL = [[(0 : Int), (2 : Int)], [(1 : Int), (2 : Int)]]) && true && decide (d = [((0 : Int), (1 : Int), ()), ((1 : Int), (2 : Int), ())])) = true → ∀ (e : I6.den × (I6.pair (I6.pair (I6.pair (I6.pair (I6.pair (I6.pair shTk)))))).den), e ∈ exL → bE e) ∧ ((true && decide (covM exL = [[(0 : Int), (2 : Int)], [(1 : Int), (2 : Int)]]) && true && decide (d = [((0 : Int), (1 : Int), ()), ((1 : Int), (2 : Int), ())]) && befM exL (0 : Int) (2 : Int)) = true → True) ∧ ((true && decide (covM exL = [[(0 : Int), (2 : Int)], [(1 : Int), (2 : Int)]]) && true && decide (d = [((0 : Int), (1 : Int), ()), ((1 : Int), (2 : Int), ())]) && befM exL (0 : Int) (2 : Int)) = true → ∀ (e : I6.den × (I6.pair (I6.pair (I6.pair (I6.pair (I6.pair (I6.pair shTk)))))).den), e ∈ exL → bE e) ∧ ((true && decide (covM exL = [[(0 : Int), (2 : Int)], [(1 : Int), (2 : Int)]]) && true && decide (d = [((0 : Int), (1 : Int), ()), ((1 : Int), (2 : Int), ())]) && befM exL (0 : Int) (2 : Int) && !befM exL (0 : Int) (1 : Int)) = true → True) ∧ ((true && decide (covM exL = [[(0 : Int), (2 : Int)], [(1 : Int), (2 : Int)]]) && true && decide (d = [((0 : Int), (1 : Int), ()), ((1 : Int), (2 : Int), ())]) && befM exL (0 : Int) (2 : Int) && !befM exL (0 : Int) (1 : Int)) = true → ∀ (e : I6.den × (I6.pair (I6.pair (I6.pair (I6.pair (I6.pair (I6.pair shTk)))))).den), e ∈ exL → bE e) ∧ ((true && decide (covM exL = [[(0 : Int), (2 : Int)], [(1 : Int), (2 : Int)]]) && true && decide (d = [((0 : Int), (1 : Int), ()), ((1 : Int), (2 : Int), ())]) && befM exL (0 : Int) (2 : Int) && !befM exL (0 : Int) (1 : Int)) = true → (notM exL (0 : Int)).length ≤ (1000000 : Nat)) ∧ ((true && decide (covM exL = [[(0 : Int), (2 : Int)], [(1 : Int), (2 : Int)]]) && true && decide (d = [((0 : Int), (1 : Int), ()), ((1 : Int), (2 : Int), ())]) && befM exL (0 : Int) (2 : Int) && !befM exL (0 : Int) (1 : Int) && decide (notM exL (0 : Int) = [(1 : Int)])) = true → True) ∧ ((true && decide (covM exL = [[(0 : Int), (2 : Int)], [(1 : Int), (2 : Int)]]) && true && decide (d = [((0 : Int), (1 : Int), ()), ((1 : Int), (2 : Int), ())]) && befM exL (0 : Int) (2 : Int) && !befM exL (0 : Int) (1 : Int) && decide (notM exL (0 : Int) = [(1 : Int)])) = true → ∀ (e : I6.den × (I6.pair (I6.pair (I6.pair (I6.pair (I6.pair (I6.pair shTk)))))).den), e ∈ exL → bE e) ∧ ((true && decide (covM exL = [[(0 : Int), (2 : Int)], [(1 : Int), (2 : Int)]]) && true && decide (d = [((0 : Int), (1 : Int), ()), ((1 : Int), (2 : Int), ())]) && befM exL (0 : Int) (2 : Int) && !befM exL (0 : Int) (1 : Int) && decide (notM exL (0 : Int) = [(1 : Int)])) = true → (pasM exL (2 : Int)).length ≤ (1000000 : Nat)) ∧ ([] : List Go.Eng.Res) = [] ∧ Ent.one (SV.c (SC.v (Value.bool true))) = Ent.one (SV.c (SC.v (Value.bool (true && decide (covM exL = [[(0 : Int), (2 : Int)], [(1 : Int), (2 : Int)]]) && true && decide (d = [((0 : Int), (1 : Int), ()), ((1 : Int), (2 : Int), ())]) && befM exL (0 : Int) (2 : Int) && !befM exL (0 : Int) (1 : Int) && decide (notM exL (0 : Int) = [(1 : Int)]) && decide (pasM exL (2 : Int) = [(0 : Int), (1 : Int), (2 : Int)]))))) := by
  have hc : (true && decide (covM exL = [[0, 2], [1, 2]]) && true) = true := by rw [ex_cov]; rfl
  refine ⟨trivial, exb, trivial, exb, fun _ => by rw [ex_cov]; decide, fun _ => ⟨by decide, by decide⟩, fun d hd => ?_⟩
  have hd := hd hc
  rw [ex_clk] at hd
  have ed : d = [(0, 1, ()), (1, 2, ())] := (Option.some.inj hd).symm
  subst ed
  refine ⟨fun _ => by decide, fun _ => trivial, fun _ => exb, fun _ => trivial, fun _ => exb, fun _ => trivial, fun _ => exb, fun _ => by rw [ex_not]; decide, fun _ => trivial, fun _ => exb, fun _ => by rw [ex_pas]; decide, rfl, ?_⟩
  rw [ex_cov, ex_b02, ex_b01, ex_not, ex_pas]
  rfl
set_option maxHeartbeats 2000000 in
set_option maxRecDepth 100000 in
theorem f9_met : Go.Eng.Met Tryd.prog cx0.gd 9 ctLiv :=
  (met_all (cx := cx0) (n := 55) (cl := cl9) (il := il9) (hl := hl9) (ml := ml9) (rc := []) (lits := []) (suf := []) (by kernel_rfl) tis_ok ⟨f32_met, f24_met, f17_met, f26_met, f19_met, f10_met, f15_met, f13_met, f12_met, trivial⟩ trivial trivial trivial Tryd.func9 (by kernel_rfl) (by kernel_rfl) rfl (by kernel_rfl) (by kernel_rfl) (by simp) fun d hd => by
    obtain ⟨⟩ := d
    exact ex_of (ann9 ) (f9_vc ) (by kernel_rfl)).met
theorem pas_len (l : List ED) (j : Int) : (pasM l j).length ≤ 1000000 := by
  unfold pasM
  split
  · simp
  · rename_i h
    have := upL_len (fun i => bfL l i j.toNat) j.toNat
    unfold badI at h
    rw [List.length_append, List.length_singleton]; omega
theorem not_len (l : List ED) (j : Int) : (notM l j).length ≤ 1000000 := by
  unfold notM
  split
  · simp
  · rename_i h
    have := upL_len (fun i => decide (j.toNat < i) && !bfL l j.toNat i) l.length
    unfold badI at h
    omega
theorem clkM_len (l : List ED) : (clkM l).length ≤ 512 := by
  unfold clkM
  split
  · simp
  · rw [clkP_len]; omega
theorem clk_len {l : List ED} {k : Nat} {d : List TkD} (h : (clkM l)[k]? = some d) : d.length ≤ 1000000 := by
  unfold clkM at h
  split at h
  · simp at h
  · rename_i hl
    have hm := List.mem_of_getElem? h
    unfold clkP at hm
    obtain ⟨i, hi, rfl⟩ := List.mem_map.1 hm
    rw [List.mem_range] at hi
    have := ckA_len l i i
    unfold ckL
    rw [List.length_map]; omega
@[reducible] def ctL3 : CT := { ps := [.sl shE, .int .i64, .int .i64], pre := fun d => ∀ e ∈ d.1, bE e, res := fun d => ([], vB (true)) }
@[reducible] noncomputable def cl3 : List (Nat × CT) := [(9, ctLiv), (10, ctBef), (11, ctBef), (13, ctPas), (14, ctPas), (15, ctNot), (16, ctNot), (12, ctSame)]
@[reducible] noncomputable def ann3 (l : List ED) (i : Int) (j : Int) : Nat → Option (St → Ann) := fun _ => none
@[reducible] def il3 : List (Nat × IP) := []
@[reducible] def hl3 : List (Nat × Nat × CT) := []
@[reducible] noncomputable def ml3 : List (Nat × MK) := []
set_option maxRecDepth 100000 in
theorem f3_vc (l : List ED) (i : Int) (j : Int) (hpre : ctL3.pre (l, i, j, ())) :
    br (decide ((40 : Int) < (↑l.length : Int))) (True ∧ ([] : List Go.Eng.Res) = [] ∧ Ent.one (SV.c (SC.v (Value.bool true))) = Ent.one (SV.c (SC.v (Value.bool true)))) ((∀ (e : I6.den × (I6.pair (I6.pair (I6.pair (I6.pair (I6.pair (I6.pair shTk)))))).den), e ∈ l → bE e) ∧ (∀ (e : I6.den × (I6.pair (I6.pair (I6.pair (I6.pair (I6.pair (I6.pair shTk)))))).den), e ∈ l → bE e) ∧ ((befM l i j == befM l i j) = true → ∀ (e : I6.den × (I6.pair (I6.pair (I6.pair (I6.pair (I6.pair (I6.pair shTk)))))).den), e ∈ l → bE e) ∧ ((befM l i j == befM l i j) = true → ∀ (e : I6.den × (I6.pair (I6.pair (I6.pair (I6.pair (I6.pair (I6.pair shTk)))))).den), e ∈ l → bE e) ∧ ((befM l i j == befM l i j) = true → (pasM l i).length ≤ (1000000 : Nat)) ∧ ((befM l i j == befM l i j && decide (pasM l i = pasM l i)) = true → ∀ (e : I6.den × (I6.pair (I6.pair (I6.pair (I6.pair (I6.pair (I6.pair shTk)))))).den), e ∈ l → bE e) ∧ ((befM l i j == befM l i j && decide (pasM l i = pasM l i)) = true → ∀ (e : I6.den × (I6.pair (I6.pair (I6.pair (I6.pair (I6.pair (I6.pair shTk)))))).den), e ∈ l → bE e) ∧ ((befM l i j == befM l i j && decide (pasM l i = pasM l i)) = true → (notM l i).length ≤ (1000000 : Nat)) ∧ ((befM l i j == befM l i j && decide (pasM l i = pasM l i) && decide (notM l i = notM l i)) = true → True) ∧ ([] : List Go.Eng.Res) = [] ∧ Ent.one (SV.c (SC.v (Value.bool true))) = Ent.one (SV.c (SC.v (Value.bool (befM l i j == befM l i j && decide (pasM l i = pasM l i) && decide (notM l i = notM l i) && true))))) := by
  have hb : ∀ e ∈ l, bE e := hpre
  refine br_iff.2 ⟨fun _ => ⟨trivial, rfl, rfl⟩, fun h => ⟨hb, hb, fun _ => hb, fun _ => hb, fun _ => pas_len l i, fun _ => hb, fun _ => hb, fun _ => not_len l i, fun _ => trivial, rfl, ?_⟩⟩
  simp
set_option maxHeartbeats 2000000 in
set_option maxRecDepth 100000 in
theorem f3_met : Go.Eng.Met Tryd.prog cx0.gd 3 ctL3 :=
  (met_all (cx := cx0) (n := 41) (cl := cl3) (il := il3) (hl := hl3) (ml := ml3) (rc := []) (lits := []) (suf := []) (by kernel_rfl) tis_ok ⟨f9_met, f10_met, f11_met, f13_met, f14_met, f15_met, f16_met, f12_met, trivial⟩ trivial trivial trivial Tryd.func3 (by kernel_rfl) (by kernel_rfl) rfl (by kernel_rfl) (by kernel_rfl) (by simp) fun d hd => by
    obtain ⟨l, i, j, ⟨⟩⟩ := d
    exact ex_of (ann3 l i j) (f3_vc l i j hd) (by kernel_rfl)).met
@[reducible] def ctL4 : CT := { ps := [.sl shE], pre := fun d => ∀ e ∈ d.1, bE e, res := fun d => ([], vB (true)) }
@[reducible] noncomputable def cl4 : List (Nat × CT) := [(9, ctLiv), (17, ctClk), (18, ctClk), (19, ctSm3)]
@[reducible] noncomputable def ann4 (l : List ED) : Nat → Option (St → Ann) := fun n => match n with
  | 7 => some fun _ => .inv { α := Nat, slots := fun k => [(5, .c (.v (.int .i64 k)))], res := fun k => [], inv := fun k => k ≤ (clkM l).length, meas := fun k => (clkM l).length - k }
  | _ => none
@[reducible] def il4 : List (Nat × IP) := []
@[reducible] def hl4 : List (Nat × Nat × CT) := []
@[reducible] noncomputable def ml4 : List (Nat × MK) := []
set_option maxRecDepth 100000 in
theorem f4_vc (l : List ED) (hpre : ctL4.pre (l, ())) :
    br (decide ((40 : Int) < (↑l.length : Int))) (True ∧ ([] : List Go.Eng.Res) = [] ∧ Ent.one (SV.c (SC.v (Value.bool true))) = Ent.one (SV.c (SC.v (Value.bool true)))) ((∀ (e : I6.den × (I6.pair (I6.pair (I6.pair (I6.pair (I6.pair (I6.pair shTk)))))).den), e ∈ l → bE e) ∧ (∀ (e : I6.den × (I6.pair (I6.pair (I6.pair (I6.pair (I6.pair (I6.pair shTk)))))).den), e ∈ l → bE e) ∧ br (!decide ((↑(clkM l).length : Int) = (↑(clkM l).length : Int))) (([] : List Go.Eng.Res) = [] ∧ Ent.one (SV.c (SC.v (Value.bool true))) = Ent.one (SV.c (SC.v (Value.bool false)))) ((∃ x, x ≤ (clkM l).length ∧ (SV.c (SC.v (Value.int IntKind.i64 (0 : Int))) = SV.c (SC.v (Value.int IntKind.i64 (↑x : Int))) ∧ True) ∧ ([] : List (Go.Eng.Gd × Go.Eng.Res)) = []) ∧ ∀ (x : Nat), x ≤ (clkM l).length → br (decide ((↑x : Int) < (↑(clkM l).length : Int))) (((0 : Int) ≤ (↑x : Int) ∧ (↑x : Int) < (↑(clkM l).length : Int)) ∧ ∀ (d : List shTk.den), (clkM l)[(↑x : Int).toNat]? = some d → ((0 : Int) ≤ (↑x : Int) ∧ (↑x : Int) < (↑(clkM l).length : Int)) ∧ ∀ (d_1 : List shTk.den), (clkM l)[(↑x : Int).toNat]? = some d_1 → d.length ≤ (1000000 : Nat) ∧ br (!decide (d = d_1)) (([] : List Go.Eng.Res) = [] ∧ Ent.one (SV.c (SC.v (Value.bool true))) = Ent.one (SV.c (SC.v (Value.bool false)))) (InR IntKind.i64 ((↑x : Int) + (1 : Int)) ∧ ∃ x', x' ≤ (clkM l).length ∧ (SV.c (SC.v (Value.int IntKind.i64 ((↑x : Int) + (1 : Int)))) = SV.c (SC.v (Value.int IntKind.i64 (↑x' : Int))) ∧ True) ∧ ([] : List (Go.Eng.Gd × Go.Eng.Res)) = [] ∧ (clkM l).length - x' < (clkM l).length - x)) (True ∧ ([] : List Go.Eng.Res) = [] ∧ Ent.one (SV.c (SC.v (Value.bool true))) = Ent.one (SV.c (SC.v (Value.bool true)))))) := by
  have hb : ∀ e ∈ l, bE e := hpre
  refine br_iff.2 ⟨fun _ => ⟨trivial, rfl, rfl⟩, fun h => ⟨hb, hb, br_iff.2 ⟨fun q => by simp at q, fun _ => ⟨⟨0, by omega, ⟨rfl, trivial⟩, rfl⟩, fun x hx => br_iff.2 ⟨fun g => ?_, fun g => ⟨trivial, rfl, rfl⟩⟩⟩⟩⟩⟩
  simp only [decide_eq_true_eq] at g
  have lc := clkM_len l
  refine ⟨⟨by omega, by omega⟩, fun d hd => ⟨⟨by omega, by omega⟩, fun d1 hd1 => ⟨clk_len hd, br_iff.2 ⟨fun q => ?_, fun q => ⟨InR_i64.2 (by omega), x + 1, by omega, ⟨rfl, trivial⟩, rfl, by omega⟩⟩⟩⟩⟩
  have : d = d1 := Option.some.inj (hd.symm.trans hd1)
  subst this
  simp at q
set_option maxHeartbeats 2000000 in
set_option maxRecDepth 100000 in
theorem f4_met : Go.Eng.Met Tryd.prog cx0.gd 4 ctL4 :=
  (met_all (cx := cx0) (n := 36) (cl := cl4) (il := il4) (hl := hl4) (ml := ml4) (rc := []) (lits := []) (suf := []) (by kernel_rfl) tis_ok ⟨f9_met, f17_met, f18_met, f19_met, trivial⟩ trivial trivial trivial Tryd.func4 (by kernel_rfl) (by kernel_rfl) rfl (by kernel_rfl) (by kernel_rfl) (by simp) fun d hd => by
    obtain ⟨l, ⟨⟩⟩ := d
    exact ex_of (ann4 l) (f4_vc l hd) (by kernel_rfl)).met
end Go.Proofs.YtigfbjjphegleaaDoor
set_option linter.unusedSimpArgs false
set_option linter.unusedVariables false
namespace Go.Proofs.YtigfbjjphegleaaDoor
open Go Go.Eng
theorem beq_symm (a b : Int) : (a == b) = (b == a) := bool_ext (by rw [beq_iff_eq, beq_iff_eq]; exact ⟨Eq.symm, Eq.symm⟩)
theorem hit_symm (x y : AD) : hitX x y = hitX y x := by
  unfold hitX
  rw [beq_symm x.1 y.1, beq_symm x.2.1 y.2.1, beq_symm x.2.2.1 y.2.2.1, Bool.or_comm]
theorem conf_symm (a b : ED) : confM a b = confM b a := bool_ext (by
  simp only [confM, List.any_eq_true]
  constructor
  · rintro ⟨x, hx, y, hy, h⟩; exact ⟨y, hy, x, hx, by rw [hit_symm]; exact h⟩
  · rintro ⟨x, hx, y, hy, h⟩; exact ⟨y, hy, x, hx, by rw [hit_symm]; exact h⟩)
theorem dep_symm (a b : ED) : depM a b = depM b a := by
  unfold depM
  rw [beq_symm (eA a) (eA b), conf_symm a b]
  generalize validM a = v1
  generalize validM b = v2
  generalize thrM a b = t1
  generalize thrM b a = t2
  generalize draM a b = d1
  generalize draM b a = d2
  generalize confM b a = c
  generalize (eA b == eA a) = q
  revert v1 v2 t1 t2 d1 d2 c q
  decide
theorem bef_in {l : List ED} (hl : l.length ≤ 512) {a b : Nat} (ha : a < l.length) (hb : b < l.length) : befM l a b = bfL l a b := by
  unfold befM
  rw [if_neg]
  · rfl
  · unfold badI; omega
theorem bef_take {l : List ED} (hl : l.length ≤ 512) {n a b : Nat} (hn : n ≤ l.length) (hab : a < b) (hb : b < n) : befM l a b = befM (l.take n) a b := by
  rw [bef_in hl (by omega) (by omega), bef_in (by rw [List.length_take]; omega) (by rw [List.length_take]; omega) (by rw [List.length_take]; omega), bfL_take hb]
/-- The exchange of p - 1 and p. -/
def sg (p i : Nat) : Nat := if i = p then p - 1 else if i + 1 = p then p else i
def swp (l : List ED) (p : Nat) (d d2 : ED) : List ED := (l.set (p - 1) d).set p d2
theorem sg_sg {p : Nat} (hp : 1 ≤ p) (i : Nat) : sg p (sg p i) = i := by
  unfold sg
  by_cases h1 : i = p
  · rw [if_pos h1, if_neg (by omega), if_pos (by omega)]; omega
  · rw [if_neg h1]
    by_cases h2 : i + 1 = p
    · rw [if_pos h2, if_pos rfl]; omega
    · rw [if_neg h2, if_neg h1, if_neg h2]
theorem sg_lt {p i n : Nat} (hp : p < n) (hi : i < n) : sg p i < n := by
  unfold sg
  split
  · omega
  · split <;> omega
theorem turn_sg {p : Nat} (hp : 1 ≤ p) (i : Nat) : turnI (i : Int) (p : Int) = (sg p i : Nat) := by
  unfold turnI sg
  by_cases h1 : i = p
  · rw [if_pos (by omega), if_pos h1]; omega
  · rw [if_neg (by omega), if_neg h1]
    by_cases h2 : i + 1 = p
    · rw [if_pos (by omega), if_pos h2]
    · rw [if_neg (by omega), if_neg h2]
theorem swp_len (l : List ED) (p : Nat) (d d2 : ED) : (swp l p d d2).length = l.length := by simp [swp]
theorem swp_get {l : List ED} {p : Nat} {d d2 : ED} (hp : 1 ≤ p) (h1 : l[p]? = some d) (h2 : l[p - 1]? = some d2) (i : Nat) : (swp l p d d2)[sg p i]? = l[i]? := by
  obtain ⟨hl, _⟩ := List.getElem?_eq_some_iff.1 h1
  unfold swp sg
  by_cases e1 : i = p
  · rw [if_pos e1, List.getElem?_set_ne (by omega), List.getElem?_set_self (by omega), e1, h1]
  · rw [if_neg e1]
    by_cases e2 : i + 1 = p
    · rw [if_pos e2, List.getElem?_set_self (by rw [List.length_set]; omega), show i = p - 1 by omega, h2]
    · rw [if_neg e2, List.getElem?_set_ne (by omega), List.getElem?_set_ne (by omega)]
theorem swp_dAt {l : List ED} {p : Nat} {d d2 : ED} (hp : 1 ≤ p) (h1 : l[p]? = some d) (h2 : l[p - 1]? = some d2) (i j : Nat) : dAt (swp l p d d2) (sg p i) (sg p j) = dAt l i j := by
  unfold dAt
  rw [swp_get hp h1 h2, swp_get hp h1 h2]
theorem Bf.turn {D D' : Nat → Nat → Bool} {p : Nat} (hp : 1 ≤ p) (hD : ∀ i j, D' (sg p i) (sg p j) = D i j) (h0 : D (p - 1) p = false) {i j : Nat} (b : Bf D i j) : Bf D' (sg p i) (sg p j) := by
  have step : ∀ {a c : Nat}, a < c → D a c = true → sg p a < sg p c := by
    intro a c h d
    have hne : ¬ (a = p - 1 ∧ c = p) := fun q => by rw [q.1, q.2, h0] at d; cases d
    unfold sg
    split
    · split
      · omega
      · split <;> omega
    · split
      · split
        · omega
        · split <;> omega
      · split
        · omega
        · split <;> omega
  induction b with
  | one h d => exact .one (step h d) ((hD _ _).trans d)
  | more b h d ih => exact .more ih (step h d) ((hD _ _).trans d)
theorem bfL_swp {l : List ED} {p : Nat} {d d2 : ED} (hp : 1 ≤ p) (h1 : l[p]? = some d) (h2 : l[p - 1]? = some d2) (h0 : depM d2 d = false) (i j : Nat) : bfL (swp l p d d2) (sg p i) (sg p j) = bfL l i j := bool_ext (by
  rw [bfL_iff, bfL_iff]
  constructor
  · intro b
    have := Bf.turn (D := dAt (swp l p d d2)) (D' := dAt l) hp (fun i j => by rw [← swp_dAt hp h1 h2, sg_sg hp, sg_sg hp]) (by
      have := swp_dAt hp h1 h2 p (p - 1)
      have e1 : sg p p = p - 1 := by unfold sg; rw [if_pos rfl]
      have e2 : sg p (p - 1) = p := by unfold sg; rw [if_neg (by omega), if_pos (by omega)]
      rw [e1, e2] at this
      rw [this]
      simp only [dAt, h1, h2]
      rw [dep_symm]; exact h0) b
    rwa [sg_sg hp, sg_sg hp] at this
  · exact Bf.turn hp (swp_dAt hp h1 h2) (by simp only [dAt, h1, h2]; exact h0))
theorem bef_swp {l : List ED} (hl : l.length ≤ 512) {p : Nat} {d d2 : ED} (hp : 1 ≤ p) (h1 : l[p]? = some d) (h2 : l[p - 1]? = some d2) (h0 : depM d2 d = false) {i j : Nat} (hi : i < l.length) (hj : j < l.length) :
    befM l i j = befM (swp l p d d2) (turnI i p) (turnI j p) := by
  obtain ⟨hpl, _⟩ := List.getElem?_eq_some_iff.1 h1
  rw [turn_sg hp, turn_sg hp, bef_in hl hi hj, bef_in (by rw [swp_len]; exact hl) (by rw [swp_len]; exact sg_lt hpl hi) (by rw [swp_len]; exact sg_lt hpl hj), bfL_swp hp h1 h2 h0]
theorem swp_mem {l : List ED} {p : Nat} {d d2 : ED} (h1 : l[p]? = some d) (h2 : l[p - 1]? = some d2) (hb : ∀ e ∈ l, bE e) : ∀ e ∈ swp l p d d2, bE e := by
  intro e he
  unfold swp at he
  rcases List.mem_or_eq_of_mem_set he with he | rfl
  · rcases List.mem_or_eq_of_mem_set he with he | rfl
    · exact hb e he
    · exact hb _ (List.mem_of_getElem? h1)
  · exact hb _ (List.mem_of_getElem? h2)
end Go.Proofs.YtigfbjjphegleaaDoor
set_option linter.unusedSimpArgs false
set_option linter.unusedVariables false
set_option maxRecDepth 100000
namespace Go.Proofs.YtigfbjjphegleaaDoor
open Go Go.Eng

theorem inA72 {n : Nat} (h : n ≤ 100000) : InA n 72 := InA_iff.2 (by omega)
@[reducible] def ctL5 : CT := { ps := [.sl shE, .int .i64], pre := fun d => ∀ e ∈ d.1, bE e, res := fun d => ([], vB (true)) }
@[reducible] noncomputable def cl5 : List (Nat × CT) := [(9, ctLiv), (10, ctBef), (20, ctDp), (21, ctTurn)]
@[reducible] noncomputable def ann5 (l : List ED) (i : Int) : Nat → Option (St → Ann) := fun n => match n with
  | 4 => some fun _ => .inv { α := Nat, slots := fun k => [(5, .c (.v (.int .i64 k)))], res := fun k => [], inv := fun k => k ≤ i.toNat, meas := fun k => i.toNat - k }
  | 7 => some fun s => .inv { α := Nat, slots := fun k => [(6, .c (.v (.int .i64 k)))], res := fun k => [], inv := fun k => k ≤ (slotI s 5).toNat, meas := fun k => (slotI s 5).toNat - k }
  | 16 => some fun _ => .inv { α := Nat, slots := fun k => [(8, .c (.v (.int .i64 k)))], res := fun k => [], inv := fun k => k ≤ l.length, meas := fun k => l.length - k }
  | 19 => some fun _ => .inv { α := Nat, slots := fun k => [(9, .c (.v (.int .i64 k)))], res := fun k => [], inv := fun k => k ≤ l.length, meas := fun k => l.length - k }
  | _ => none
@[reducible] def il5 : List (Nat × IP) := []
@[reducible] def hl5 : List (Nat × Nat × CT) := []
@[reducible] noncomputable def ml5 : List (Nat × MK) := []
set_option maxRecDepth 100000 in
theorem f5_vc (l : List ED) (i : Int) (hpre : ctL5.pre (l, i, ())) :
    br (decide ((30 : Int) < (↑l.length : Int)) || decide (i < (0 : Int)) || decide ((↑l.length : Int) ≤ i)) (True ∧ ([] : List Go.Eng.Res) = [] ∧ Ent.one (SV.c (SC.v (Value.bool true))) = Ent.one (SV.c (SC.v (Value.bool true)))) ((∃ x, x ≤ i.toNat ∧ (SV.c (SC.v (Value.int IntKind.i64 (0 : Int))) = SV.c (SC.v (Value.int IntKind.i64 (↑x : Int))) ∧ True) ∧ ([] : List (Go.Eng.Gd × Go.Eng.Res)) = []) ∧ ∀ (x : Nat), x ≤ i.toNat → br (decide ((↑x : Int) < i)) ((∃ x_1, x_1 ≤ (↑x : Int).toNat ∧ (SV.c (SC.v (Value.int IntKind.i64 (0 : Int))) = SV.c (SC.v (Value.int IntKind.i64 (↑x_1 : Int))) ∧ True) ∧ ([] : List (Go.Eng.Gd × Go.Eng.Res)) = []) ∧ ∀ (x_1 : Nat), x_1 ≤ (↑x : Int).toNat → br (decide ((↑x_1 : Int) < (↑x : Int))) (((∀ (e : I6.den × (I6.pair (I6.pair (I6.pair (I6.pair (I6.pair (I6.pair shTk)))))).den), e ∈ l → bE e) ∧ ((0 : Int) ≤ (0 : Int) ∧ (0 : Int) ≤ i ∧ i ≤ (↑l.length : Int)) ∧ (∀ (e : I6.den × (I6.pair (I6.pair (I6.pair (I6.pair (I6.pair (I6.pair shTk)))))).den), e ∈ List.drop (0 : Nat) (List.take i.toNat l) → bE e) ∧ br (!befM l (↑x_1 : Int) (↑x : Int) == befM (List.drop (0 : Nat) (List.take i.toNat l)) (↑x_1 : Int) (↑x : Int)) (([] : List Go.Eng.Res) = [] ∧ Ent.one (SV.c (SC.v (Value.bool true))) = Ent.one (SV.c (SC.v (Value.bool false)))) (InR IntKind.i64 ((↑x_1 : Int) + (1 : Int)) ∧ ∃ x', x' ≤ (↑x : Int).toNat ∧ (SV.c (SC.v (Value.int IntKind.i64 ((↑x_1 : Int) + (1 : Int)))) = SV.c (SC.v (Value.int IntKind.i64 (↑x' : Int))) ∧ True) ∧ ([] : List (Go.Eng.Gd × Go.Eng.Res)) = [] ∧ (↑x : Int).toNat - x' < (↑x : Int).toNat - x_1)) ∧ ((0 : Int) ≤ (0 : Int) ∧ (0 : Int) ≤ i ∧ i ≤ (↑l.length : Int)) ∧ (∀ (e : I6.den × (I6.pair (I6.pair (I6.pair (I6.pair (I6.pair (I6.pair shTk)))))).den), e ∈ l → bE e) ∧ (∀ (e : I6.den × (I6.pair (I6.pair (I6.pair (I6.pair (I6.pair (I6.pair shTk)))))).den), e ∈ List.drop (0 : Nat) (List.take i.toNat l) → bE e) ∧ br (!befM l (↑x_1 : Int) (↑x : Int) == befM (List.drop (0 : Nat) (List.take i.toNat l)) (↑x_1 : Int) (↑x : Int)) (([] : List Go.Eng.Res) = [] ∧ Ent.one (SV.c (SC.v (Value.bool true))) = Ent.one (SV.c (SC.v (Value.bool false)))) (InR IntKind.i64 ((↑x_1 : Int) + (1 : Int)) ∧ ∃ x', x' ≤ (↑x : Int).toNat ∧ (SV.c (SC.v (Value.int IntKind.i64 ((↑x_1 : Int) + (1 : Int)))) = SV.c (SC.v (Value.int IntKind.i64 (↑x' : Int))) ∧ True) ∧ ([] : List (Go.Eng.Gd × Go.Eng.Res)) = [] ∧ (↑x : Int).toNat - x' < (↑x : Int).toNat - x_1)) (InR IntKind.i64 ((↑x : Int) + (1 : Int)) ∧ ∃ x', x' ≤ i.toNat ∧ (SV.c (SC.v (Value.int IntKind.i64 ((↑x : Int) + (1 : Int)))) = SV.c (SC.v (Value.int IntKind.i64 (↑x' : Int))) ∧ True) ∧ ([] : List (Go.Eng.Gd × Go.Eng.Res)) = [] ∧ i.toNat - x' < i.toNat - x)) (((!decide (i = (0 : Int))) = true → InR IntKind.i64 (i - (1 : Int))) ∧ ((!decide (i = (0 : Int))) = true → (0 : Int) ≤ i - (1 : Int) ∧ i - (1 : Int) < (↑l.length : Int)) ∧ ∀ (d : I6.den × (I6.pair (I6.pair (I6.pair (I6.pair (I6.pair (I6.pair shTk)))))).den), ((!decide (i = (0 : Int))) = true → l[(i - (1 : Int)).toNat]? = some d) → ((!decide (i = (0 : Int))) = true → (0 : Int) ≤ i ∧ i < (↑l.length : Int)) ∧ ∀ (d_1 : I6.den × (I6.pair (I6.pair (I6.pair (I6.pair (I6.pair (I6.pair shTk)))))).den), ((!decide (i = (0 : Int))) = true → l[i.toNat]? = some d_1) → ((!decide (i = (0 : Int))) = true → bE d ∧ bE d_1) ∧ br (decide (i = (0 : Int)) || depM d d_1) (True ∧ ([] : List Go.Eng.Res) = [] ∧ Ent.one (SV.c (SC.v (Value.bool true))) = Ent.one (SV.c (SC.v (Value.bool true)))) (InA ((0 : Nat) + List.length (l)) (72 : Nat) ∧ InR IntKind.i64 (i - (1 : Int)) ∧ ((0 : Int) ≤ i ∧ i < (↑l.length : Int)) ∧ ∀ (d : I6.den × (I6.pair (I6.pair (I6.pair (I6.pair (I6.pair (I6.pair shTk)))))).den), l[i.toNat]? = some d → InR IntKind.i64 (i - (1 : Int)) ∧ ((0 : Int) ≤ i - (1 : Int) ∧ i - (1 : Int) < (↑l.length : Int)) ∧ ∀ (d_2 : I6.den × (I6.pair (I6.pair (I6.pair (I6.pair (I6.pair (I6.pair shTk)))))).den), l[(i - (1 : Int)).toNat]? = some d_2 → ((0 : Int) ≤ i - (1 : Int) ∧ i - (1 : Int) < (↑(List.length ([] ++ l)) : Int)) ∧ (i - (1 : Int)).toNat < List.length ([] ++ l) ∧ ((0 : Int) ≤ i ∧ i < (↑(List.set ([] ++ l) (i - (1 : Int)).toNat d).length : Int)) ∧ i.toNat < (List.set ([] ++ l) (i - (1 : Int)).toNat d).length ∧ (∃ x, x ≤ l.length ∧ (SV.c (SC.v (Value.int IntKind.i64 (0 : Int))) = SV.c (SC.v (Value.int IntKind.i64 (↑x : Int))) ∧ True) ∧ [(([] : Go.Eng.Gd), Res.row (38 : TypeId) shE ((List.set ([] ++ l) (i - (1 : Int)).toNat d).set i.toNat d_2))] = [(([] : Go.Eng.Gd), Res.row (38 : TypeId) shE ((List.set ([] ++ l) (i - (1 : Int)).toNat d).set i.toNat d_2))]) ∧ ∀ (x : Nat), x ≤ l.length → br (decide ((↑x : Int) < (↑((List.set ([] ++ l) (i - (1 : Int)).toNat d).set i.toNat d_2).length : Int))) ((∃ x, x ≤ l.length ∧ (SV.c (SC.v (Value.int IntKind.i64 (0 : Int))) = SV.c (SC.v (Value.int IntKind.i64 (↑x : Int))) ∧ True) ∧ [(([] : Go.Eng.Gd), Res.row (38 : TypeId) shE ((List.set ([] ++ l) (i - (1 : Int)).toNat d).set i.toNat d_2))] = [(([] : Go.Eng.Gd), Res.row (38 : TypeId) shE ((List.set ([] ++ l) (i - (1 : Int)).toNat d).set i.toNat d_2))]) ∧ ∀ (x_1 : Nat), x_1 ≤ l.length → br (decide ((↑x_1 : Int) < (↑((List.set ([] ++ l) (i - (1 : Int)).toNat d).set i.toNat d_2).length : Int))) ((∀ (e : I6.den × (I6.pair (I6.pair (I6.pair (I6.pair (I6.pair (I6.pair shTk)))))).den), e ∈ l → bE e) ∧ ((-1000 : I6.den) ≤ i ∧ i ≤ (1000 : I6.den)) ∧ ((-1000 : I6.den) ≤ i ∧ i ≤ (1000 : I6.den)) ∧ (∀ (e : I6.den × (I6.pair (I6.pair (I6.pair (I6.pair (I6.pair (I6.pair shTk)))))).den), e ∈ (List.set ([] ++ l) (i - (1 : Int)).toNat d).set i.toNat d_2 → bE e) ∧ br (!befM l (↑x_1 : Int) (↑x : Int) == befM ((List.set ([] ++ l) (i - (1 : Int)).toNat d).set i.toNat d_2) (turnI (↑x_1 : Int) i) (turnI (↑x : Int) i)) (([] : List Go.Eng.Res) = [] ∧ Ent.one (SV.c (SC.v (Value.bool true))) = Ent.one (SV.c (SC.v (Value.bool false)))) (InR IntKind.i64 ((↑x_1 : Int) + (1 : Int)) ∧ ∃ x', x' ≤ l.length ∧ (SV.c (SC.v (Value.int IntKind.i64 ((↑x_1 : Int) + (1 : Int)))) = SV.c (SC.v (Value.int IntKind.i64 (↑x' : Int))) ∧ True) ∧ [(([] : Go.Eng.Gd), Res.row (38 : TypeId) shE ((List.set ([] ++ l) (i - (1 : Int)).toNat d).set i.toNat d_2))] = [(([] : Go.Eng.Gd), Res.row (38 : TypeId) shE ((List.set ([] ++ l) (i - (1 : Int)).toNat d).set i.toNat d_2))] ∧ l.length - x' < l.length - x_1)) (InR IntKind.i64 ((↑x : Int) + (1 : Int)) ∧ ∃ x', x' ≤ l.length ∧ (SV.c (SC.v (Value.int IntKind.i64 ((↑x : Int) + (1 : Int)))) = SV.c (SC.v (Value.int IntKind.i64 (↑x' : Int))) ∧ True) ∧ [(([] : Go.Eng.Gd), Res.row (38 : TypeId) shE ((List.set ([] ++ l) (i - (1 : Int)).toNat d).set i.toNat d_2))] = [(([] : Go.Eng.Gd), Res.row (38 : TypeId) shE ((List.set ([] ++ l) (i - (1 : Int)).toNat d).set i.toNat d_2))] ∧ l.length - x' < l.length - x)) (True ∧ ([] : List Go.Eng.Res) = [] ∧ Ent.one (SV.c (SC.v (Value.bool true))) = Ent.one (SV.c (SC.v (Value.bool true))))))) := by
  have hb : ∀ e ∈ l, bE e := hpre
  refine br_iff.2 ⟨fun _ => ⟨trivial, rfl, rfl⟩, fun h => ?_⟩
  simp only [Bool.or_eq_false_iff, decide_eq_false_iff_not] at h
  obtain ⟨⟨h1, h2⟩, h3⟩ := h
  obtain ⟨n, rfl⟩ := Int.eq_ofNat_of_zero_le (by omega : 0 ≤ i)
  have hn : n < l.length := by omega
  have hl : l.length ≤ 512 := by omega
  have hbt : ∀ e ∈ l.take n, bE e := fun e he => hb e (List.mem_of_mem_take he)
  simp only [Int.toNat_natCast, List.drop_zero]
  refine ⟨⟨0, by omega, ⟨by trivial, trivial⟩, by trivial⟩, fun x hx => br_iff.2 ⟨fun g => ?_, fun g => ?_⟩⟩
  · simp only [decide_eq_true_eq] at g
    refine ⟨⟨0, Nat.zero_le _, ⟨by trivial, trivial⟩, by trivial⟩, fun y hy => br_iff.2 ⟨fun g2 => ?_, fun g2 => ?_⟩⟩
    · simp only [decide_eq_true_eq] at g2
      have e := bef_take hl (show n ≤ l.length by omega) (show y < x by omega) (show x < n by omega)
      have key : ∀ {A B : Prop}, B → br (!(befM l y x == befM (l.take n) y x)) A B := fun b => br_iff.2 ⟨fun q => by rw [e] at q; simp at q, fun _ => b⟩
      exact ⟨⟨hb, ⟨by omega, by omega, by omega⟩, hbt, key ⟨InR_i64.2 (by omega), y + 1, by omega, ⟨by trivial, trivial⟩, by trivial, by omega⟩⟩, ⟨by omega, by omega, by omega⟩, hb, hbt, key ⟨InR_i64.2 (by omega), y + 1, by omega, ⟨by trivial, trivial⟩, by trivial, by omega⟩⟩
    · exact ⟨InR_i64.2 (by omega), x + 1, by omega, ⟨by trivial, trivial⟩, by trivial, by omega⟩
  · clear g hx
    refine ⟨fun _ => InR_i64.2 (by omega), fun q => ?_, fun d hd => ⟨fun _ => ⟨by omega, by omega⟩, fun d1 hd1 => ⟨fun q => ⟨hb _ (List.mem_of_getElem? (hd q)), hb _ (List.mem_of_getElem? (hd1 q))⟩, br_iff.2 ⟨fun _ => ⟨trivial, by trivial, by trivial⟩, fun h => ?_⟩⟩⟩⟩
    · simp only [Bool.not_eq_true', decide_eq_false_iff_not] at q
      omega
    rw [Bool.or_eq_false_iff, decide_eq_false_iff_not] at h
    obtain ⟨h4, h5⟩ := h
    have hn1 : 1 ≤ n := by omega
    have e1 : ((n : Int) - 1).toNat = n - 1 := by omega
    have hq : (!decide ((n : Int) = 0)) = true := by rw [decide_eq_false h4]; rfl
    have hd := hd hq
    have hd1 := hd1 hq
    rw [e1] at hd
    simp only [e1, List.nil_append, List.length_set]
    refine ⟨inA72 (by omega), InR_i64.2 (by omega), ⟨by omega, by omega⟩, fun c hc => ⟨InR_i64.2 (by omega), ⟨by omega, by omega⟩, fun c2 hc2 => ?_⟩⟩
    have ec : d1 = c := Option.some.inj (hd1.symm.trans hc)
    have ec2 : d = c2 := Option.some.inj (hd.symm.trans hc2)
    subst ec ec2
    have hm := swp_mem hd1 hd hb
    refine ⟨⟨by omega, by omega⟩, by omega, ⟨by omega, by omega⟩, by omega, ⟨0, by omega, ⟨by trivial, trivial⟩, by trivial⟩, fun x hx => br_iff.2 ⟨fun g => ?_, fun g => ⟨trivial, by trivial, by trivial⟩⟩⟩
    simp only [decide_eq_true_eq] at g
    refine ⟨⟨0, Nat.zero_le _, ⟨by trivial, trivial⟩, by trivial⟩, fun y hy => br_iff.2 ⟨fun g2 => ⟨hb, ⟨?_, ?_⟩, ⟨?_, ?_⟩, hm, br_iff.2 ⟨fun q => ?_, fun _ => ⟨InR_i64.2 (by omega), y + 1, by simp only [decide_eq_true_eq] at g2; omega, ⟨by trivial, trivial⟩, by trivial, by simp only [decide_eq_true_eq] at g2; omega⟩⟩⟩, fun g2 => ⟨InR_i64.2 (by omega), x + 1, by omega, ⟨by trivial, trivial⟩, by trivial, by omega⟩⟩⟩
    · show (-1000 : Int) ≤ n; omega
    · show (n : Int) ≤ 1000; omega
    · show (-1000 : Int) ≤ n; omega
    · show (n : Int) ≤ 1000; omega
    · simp only [decide_eq_true_eq] at g2
      have e := bef_swp hl hn1 hd1 hd h5 (i := y) (j := x) (by omega) (by omega)
      have q : (!(befM l y x == befM (swp l n d1 d) (turnI y n) (turnI x n))) = true := q
      rw [e] at q
      simp at q
set_option maxHeartbeats 2000000 in
set_option maxRecDepth 100000 in
theorem f5_met : Go.Eng.Met Tryd.prog cx0.gd 5 ctL5 :=
  (met_all (cx := cx0) (n := 105) (cl := cl5) (il := il5) (hl := hl5) (ml := ml5) (rc := []) (lits := []) (suf := []) (by kernel_rfl) tis_ok ⟨f9_met, f10_met, f20_met, f21_met, trivial⟩ trivial trivial trivial Tryd.func5 (by kernel_rfl) (by kernel_rfl) rfl (by kernel_rfl) (by kernel_rfl) (by simp) fun d hd => by
    obtain ⟨l, i, ⟨⟩⟩ := d
    exact ex_of (ann5 l i) (f5_vc l i hd) (by kernel_rfl)).met
end Go.Proofs.YtigfbjjphegleaaDoor
set_option linter.unusedSimpArgs false
set_option linter.unusedVariables false
set_option maxRecDepth 1000000
namespace Go.Proofs.YtigfbjjphegleaaDoor
open Go Go.Eng Go.ChangeShapes Go.WideShapes Go.ChangeAt Go.RowKit
theorem own : ownKnob Tryd.prog.godebug = none := by kernel_rfl
theorem laidOut : laidOutB Tryd.prog = true := by kernel_rfl
theorem rowed : mapsRowed Tryd.prog = true := by kernel_rfl
theorem full : ∀ t e, t < Tryd.prog.types.size → Tryd.prog.underlying t = some (.slice e) → 0 < Tryd.prog.cellsOf e := slices_full_of _ (by kernel_rfl)
theorem gname0 : Tryd.prog.globalNamed "modelcheck/event.rows" = some 0 := by kernel_rfl
theorem gtype0 : (Tryd.prog.globals[0]?).map (·.type) = some 87 := by kernel_rfl
theorem gsok0 : (SOK Tryd.prog (.arr 17 shRow)).1 87 = true := by kernel_rfl
noncomputable def laidWorld (os : Os) : World :=
  { World.holding Tryd.prog os ⟨#[], #[], []⟩ with heap := ((World.holding Tryd.prog os ⟨#[], #[], []⟩).heap).modify 0 (lay #[.int .i64 7, .bool true, .int .i64 (-2147483648), .int .i64 2147483647, .bool false, .int .i64 (-1), .int .i64 1, .bool false, .int .i64 7, .bool true, .int .i64 0, .int .i64 0, .bool true, .int .i64 (-2), .int .i64 1, .bool true, .int .i64 7, .bool true, .int .i64 0, .int .i64 0, .bool true, .int .i64 0, .int .i64 4, .bool true, .int .i64 7, .bool false, .int .i64 0, .int .i64 0, .bool true, .int .i64 0, .int .i64 1, .bool true, .int .i64 7, .bool true, .int .i64 (-2147483648), .int .i64 2147483647, .bool true, .int .i64 (-2), .int .i64 1, .bool true, .int .i64 7, .bool true, .int .i64 (-2147483648), .int .i64 2147483647, .bool false, .int .i64 (-2), .int .i64 1, .bool false, .int .i64 0, .bool false, .int .i64 0, .int .i64 0, .bool false, .int .i64 (-2), .int .i64 0, .bool false, .int .i64 7, .bool true, .int .i64 (-2147483648), .int .i64 2147483647, .bool false, .int .i64 (-1), .int .i64 1, .bool false, .int .i64 3, .bool false, .int .i64 0, .int .i64 0, .bool false, .int .i64 (-2), .int .i64 2, .bool true, .int .i64 3, .bool false, .int .i64 0, .int .i64 0, .bool false, .int .i64 (-2), .int .i64 2, .bool true, .int .i64 3, .bool false, .int .i64 0, .int .i64 1, .bool false, .int .i64 (-2), .int .i64 2, .bool true, .int .i64 3, .bool false, .int .i64 0, .int .i64 0, .bool false, .int .i64 (-2), .int .i64 3, .bool true, .int .i64 3, .bool false, .int .i64 0, .int .i64 0, .bool false, .int .i64 (-2), .int .i64 3, .bool true, .int .i64 3, .bool false, .int .i64 0, .int .i64 1, .bool false, .int .i64 (-2), .int .i64 3, .bool true, .int .i64 3, .bool false, .int .i64 0, .int .i64 (-1), .bool false, .int .i64 (-2), .int .i64 3, .bool true, .int .i64 (-1), .bool false, .int .i64 0, .int .i64 0, .bool false, .int .i64 (-2), .int .i64 0, .bool false, .int .i64 (-1), .bool false, .int .i64 0, .int .i64 0, .bool false, .int .i64 (-2), .int .i64 0, .bool false]) }
theorem i64_of {n : Int} (h : (Lit.int .i64 n).wf = true) : -9223372036854775808 ≤ n ∧ n ≤ 9223372036854775807 := by
  simp [Lit.wf, IntKind.min, IntKind.max, IntKind.signed, IntKind.bits] at h; omega
namespace hbPrefixesL
theorem globs {W : World} (hL : laidMetH Tryd.prog Rows.hbPrefixesRow.laid W) : GlobOK gd0 (FH.all W) := by
  intro g p hp
  unfold gd0 at hp
  split at hp
  · cases hp; exact glob_open hL (by kernel_rfl) (n := "modelcheck/event.rows") (D := Rows.laid_modelcheck_event_rows) (by simp [Rows.hbPrefixesRow]) gname0 gtype0 gsok0 (by kernel_rfl)
  · cases hp
theorem laid_met (os : Os) : laidMet Tryd.prog Rows.hbPrefixesRow.laid ((laidWorld os).forCall (fun _ _ => 0) ⟨#[], #[.slice none 0 0, .int .i64 0], []⟩).memory :=
  laidMet_of_run' 20 (by kernel_rfl) (by kernel_rfl)
theorem reads (os : Os) {H : Type} (enc : TypeId × Value → H) : ∃ places, DataW.whole enc Tryd.prog ((laidWorld os).forCall (fun _ _ => 0) ⟨#[], #[.slice none 0 0, .int .i64 0], []⟩).memory Tryd.f5.params.toList Rows.hbPrefixesSpec.vars false (#[.slice none 0 0, .int .i64 0] : Array Value).toList 20 = some ([.nil, .lit (.int .i64 0)], [], places) :=
  ⟨[], by kernel_rfl⟩
theorem lifted (os : Os) (started : os.Started) (H : Type) (enc : TypeId × Value → H) (F : Stop.Interp) :
    ReturnsInHanded {} Tryd.checked os 5 .any ((OpenSpec.ofChange Rows.hbPrefixesSpec).preRow enc Tryd.prog Tryd.f5 Rows.hbPrefixesRow.domain false Rows.hbPrefixesRow.laid) (((OpenSpec.ofChange Rows.hbPrefixesSpec).at F).post enc Tryd.prog Tryd.f5 false true false false) := by
  obtain ⟨places, hx⟩ := reads os enc
  refine returnsInHanded_of_row (C := Tryd.checked) (s := OpenSpec.ofChange Rows.hbPrefixesSpec) own started (by kernel_rfl) Tryd.func5
    (witness_row_at (enc := enc) (C := Tryd.checked) false (laidWorld os) #[.slice none 0 0, .int .i64 0] rfl (by kernel_rfl) (by kernel_rfl) (by kernel_rfl)
      (OpenSpec.preRow_of_cond 20 hx (by kernel_rfl) (fun k hk => by cases hk) (by kernel_rfl) (laid_met os))) ?_
  intro W base args ds gs before hval hW _ hcond hwt hL _ _
  refine call_true (fn := Tryd.f5) f5_met laidOut rowed full (by decide +kernel) (t := 4) (by kernel_rfl) (by kernel_rfl) rfl (by kernel_rfl) (fun _ => rfl) (fun d hd hwf => ?_) hval hW (globs hL)
  match ds, rdats_len hd with
  | [d0, d1], _ => exact ⟨rfl, by exact fun e he => i64_of (hwf.1.2 e he).1⟩
theorem said : Rows.HbPrefixesSaid :=
  OpenClaim.holds_of_cond 5 Tryd.f5 rfl rfl rfl rfl rfl rfl rfl ⟨rfl, rfl, rfl, rfl, rfl⟩ rfl rfl rfl rfl rfl (by kernel_rfl) Tryd.func5 (by kernel_rfl)
    (of_decide_eq_true (by kernel_rfl)) (by unfold Func.isWrapper; first | (rw [if_pos (by decide +kernel)]; kernel_rfl) | (rw [if_neg (by decide +kernel)]; exact ⟨rfl, rfl⟩))
    (fun os started H enc _ F => by rw [OpenClaim.pre_eq_preRow]; exact lifted os started H enc F)
theorem plain (f : FuncId) (fn : Func) (hf : Tryd.pinned.checked.prog.funcNamed "modelcheck/modelchecklaw27.HbPrefixes" = some f) (hfn : Tryd.pinned.checked.prog.funcs[f]? = some fn) :
    false = Tryd.pinned.checked.prog.looks [] ∧ ∀ (j : Nat) t, fn.params[j]? = some t → Tryd.pinned.checked.prog.wantsStandIn t = false := by
  obtain rfl : f = 5 := Option.some.inj ((show Tryd.prog.funcNamed "modelcheck/modelchecklaw27.HbPrefixes" = some 5 by kernel_rfl).symm.trans hf) |>.symm
  obtain rfl : fn = Tryd.f5 := (Option.some.inj (Tryd.func5.symm.trans hfn)).symm
  refine ⟨by kernel_rfl, fun j t ht => ?_⟩
  have hm : t ∈ Tryd.f5.params.toList := List.mem_of_getElem? (by simpa using ht)
  have key : ∀ t ∈ Tryd.f5.params.toList, Tryd.prog.wantsStandIn t = false := by decide +kernel
  exact key t hm
theorem card : Rows.HbPrefixesCardSaid :=
  Claim7.holds_tied_plain_at .later [] _ _ _ _ said (fun _ h => by cases h) (by kernel_rfl) (fun _ h => by cases h) hbPrefixes_row_tie rfl ⟨rfl, rfl⟩ (by kernel_rfl) rfl plain (by kernel_rfl)
end hbPrefixesL
end Go.Proofs.YtigfbjjphegleaaDoor
