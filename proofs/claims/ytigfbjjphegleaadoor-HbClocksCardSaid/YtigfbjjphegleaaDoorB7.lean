/- Texts of this claim, part 7: E10, K8, E11, K10, E14, L5. Conditions: those of the given rows. -/
import Derived.Test.YtigfbjjphegleaaDoorB6
import Derived.Test.YtigfbjjphegleaaDoorCards
import Derived.Test.YtigfbjjphegleaaDoorTie
import Derived.WalkKit
import Derived.ProofKit
import Derived.OpenShut
import Derived.Deep.DeepHandedRow
import Derived.Lib.LaidTab
set_option linter.unusedSimpArgs false
set_option linter.unusedVariables false
set_option maxRecDepth 100000
namespace Go.Proofs.YtigfbjjphegleaaDoor
open Go Go.Eng

@[reducible] def ctSame : CT := { ps := [.sl (.int .i64), .sl (.int .i64)], pre := fun d => d.1.length ≤ 1000000, res := fun d => ([], vB (decide (d.1 = d.2.1))) }
@[reducible] def cl12 : List (Nat × CT) := []
@[reducible] def ann12 (u : List (Int)) (v : List (Int)) : Nat → Option (St → Ann) := fun n => match n with
  | 4 => some fun _ => .inv { α := Nat, slots := fun k => [(5, .c (.v (.int .i64 k)))], res := fun k => [], inv := fun k => k ≤ u.length ∧ ∀ j < k, u[j]? = v[j]?, meas := fun k => u.length - k }
  | _ => none
@[reducible] def il12 : List (Nat × IP) := []
@[reducible] def hl12 : List (Nat × Nat × CT) := []
@[reducible] def ml12 : List (Nat × MK) := []
set_option maxRecDepth 100000 in
theorem f12_vc (u : List (Int)) (v : List (Int)) (hpre : ctSame.pre (u, v, ())) :
    br (!decide ((↑u.length : Int) = (↑v.length : Int))) (([] : List Go.Eng.Res) = [] ∧ Ent.one (SV.c (SC.v (Value.bool (decide (u = v))))) = Ent.one (SV.c (SC.v (Value.bool false)))) ((∃ x, (x ≤ u.length ∧ ∀ (j : Nat), j < x → u[j]? = v[j]?) ∧ (SV.c (SC.v (Value.int IntKind.i64 (0 : Int))) = SV.c (SC.v (Value.int IntKind.i64 (↑x : Int))) ∧ True) ∧ ([] : List (Go.Eng.Gd × Go.Eng.Res)) = []) ∧ ∀ (x : Nat), (x ≤ u.length ∧ ∀ (j : Nat), j < x → u[j]? = v[j]?) → br (decide ((↑x : Int) < (↑u.length : Int))) (((0 : Int) ≤ (↑x : Int) ∧ (↑x : Int) < (↑u.length : Int)) ∧ ∀ (d : Int), u[(↑x : Int).toNat]? = some d → ((0 : Int) ≤ (↑x : Int) ∧ (↑x : Int) < (↑v.length : Int)) ∧ ∀ (d_1 : Int), v[(↑x : Int).toNat]? = some d_1 → br (!decide (d = d_1)) (([] : List Go.Eng.Res) = [] ∧ Ent.one (SV.c (SC.v (Value.bool (decide (u = v))))) = Ent.one (SV.c (SC.v (Value.bool false)))) (InR IntKind.i64 ((↑x : Int) + (1 : Int)) ∧ ∃ x', (x' ≤ u.length ∧ ∀ (j : Nat), j < x' → u[j]? = v[j]?) ∧ (SV.c (SC.v (Value.int IntKind.i64 ((↑x : Int) + (1 : Int)))) = SV.c (SC.v (Value.int IntKind.i64 (↑x' : Int))) ∧ True) ∧ ([] : List (Go.Eng.Gd × Go.Eng.Res)) = [] ∧ u.length - x' < u.length - x)) (([] : List Go.Eng.Res) = [] ∧ Ent.one (SV.c (SC.v (Value.bool (decide (u = v))))) = Ent.one (SV.c (SC.v (Value.bool true))))) := by
  have hp : u.length ≤ 1000000 := hpre
  have fF : u ≠ v → ([] : List Go.Eng.Res) = [] ∧ Ent.one (SV.c (SC.v (Value.bool (decide (u = v))))) = Ent.one (SV.c (SC.v (Value.bool false))) := fun q => ⟨rfl, by rw [decide_eq_false q]⟩
  refine br_iff.2 ⟨fun h => fF fun q => ?_, fun h => ?_⟩
  · subst q; simp at h
  simp only [Bool.not_eq_false', decide_eq_true_eq] at h
  refine ⟨⟨0, ⟨by omega, fun j hj => by omega⟩, ⟨rfl, trivial⟩, rfl⟩, fun k hk => br_iff.2 ⟨fun g => ?_, fun g => ?_⟩⟩
  · simp only [decide_eq_true_eq] at g
    refine ⟨⟨by omega, by omega⟩, fun d hd => ⟨⟨by omega, by omega⟩, fun d1 hd1 => br_iff.2 ⟨fun g2 => fF fun q => ?_, fun g2 => ⟨InR_i64.2 (by omega), k + 1, ⟨by omega, fun j hj => ?_⟩, ⟨rfl, trivial⟩, rfl, by omega⟩⟩⟩⟩
    · subst q
      rw [hd] at hd1; cases hd1
      simp at g2
    · by_cases hjk : j = k
      · subst hjk
        have hd : u[j]? = some d := hd
        have hd1 : v[j]? = some d1 := hd1
        simp at g2
        rw [hd, hd1, g2]
      · exact hk.2 j (by omega)
  simp only [decide_eq_false_iff_not] at g
  have e : u = v := by
    apply List.ext_getElem?
    intro j
    by_cases hj : j < k
    · exact hk.2 j hj
    · rw [List.getElem?_eq_none (by omega), List.getElem?_eq_none (by omega)]
  exact ⟨rfl, by rw [decide_eq_true e]⟩
set_option maxHeartbeats 2000000 in
set_option maxRecDepth 100000 in
theorem f12_met : Go.Eng.Met Tryd.prog cx0.gd 12 ctSame :=
  (met_all (cx := cx0) (n := 26) (cl := cl12) (il := il12) (hl := hl12) (ml := ml12) (rc := []) (lits := []) (suf := []) (by kernel_rfl) tis_ok trivial trivial trivial trivial Tryd.func12 (by kernel_rfl) (by kernel_rfl) rfl (by kernel_rfl) (by kernel_rfl) (by simp) fun d hd => by
    obtain ⟨u, v, ⟨⟩⟩ := d
    exact ex_of (ann12 u v) (f12_vc u v hd) (by kernel_rfl)).met
@[reducible] def ctPrs : CT := { ps := [.sl shP, .sl shP], pre := fun d => d.1.length ≤ 1000000, res := fun d => ([], vB (decide (d.1 = d.2.1))) }
@[reducible] def cl26 : List (Nat × CT) := []
@[reducible] def ann26 (u : List (List Int)) (v : List (List Int)) : Nat → Option (St → Ann) := fun n => match n with
  | 4 => some fun _ => .inv { α := Nat, slots := fun k => [(5, .c (.v (.int .i64 k)))], res := fun k => [], inv := fun k => k ≤ u.length ∧ ∀ j < k, u[j]? = v[j]?, meas := fun k => u.length - k }
  | _ => none
@[reducible] def il26 : List (Nat × IP) := []
@[reducible] def hl26 : List (Nat × Nat × CT) := []
@[reducible] def ml26 : List (Nat × MK) := []
set_option maxRecDepth 100000 in
theorem f26_vc (u : List (List Int)) (v : List (List Int)) (hpre : ctPrs.pre (u, v, ())) :
    br (!decide ((↑u.length : Int) = (↑v.length : Int))) (([] : List Go.Eng.Res) = [] ∧ Ent.one (SV.c (SC.v (Value.bool (decide (u = v))))) = Ent.one (SV.c (SC.v (Value.bool false)))) ((∃ x, (x ≤ u.length ∧ ∀ (j : Nat), j < x → u[j]? = v[j]?) ∧ (SV.c (SC.v (Value.int IntKind.i64 (0 : Int))) = SV.c (SC.v (Value.int IntKind.i64 (↑x : Int))) ∧ True) ∧ ([] : List (Go.Eng.Gd × Go.Eng.Res)) = []) ∧ ∀ (x : Nat), (x ≤ u.length ∧ ∀ (j : Nat), j < x → u[j]? = v[j]?) → br (decide ((↑x : Int) < (↑u.length : Int))) (((0 : Int) ≤ (↑x : Int) ∧ (↑x : Int) < (↑u.length : Int)) ∧ ∀ (d : List I6.den), u[(↑x : Int).toNat]? = some d → ((0 : Int) ≤ (↑x : Int) ∧ (↑x : Int) < (↑v.length : Int)) ∧ ∀ (d_1 : List I6.den), v[(↑x : Int).toNat]? = some d_1 → br (!decide (d = d_1)) (([] : List Go.Eng.Res) = [] ∧ Ent.one (SV.c (SC.v (Value.bool (decide (u = v))))) = Ent.one (SV.c (SC.v (Value.bool false)))) (InR IntKind.i64 ((↑x : Int) + (1 : Int)) ∧ ∃ x', (x' ≤ u.length ∧ ∀ (j : Nat), j < x' → u[j]? = v[j]?) ∧ (SV.c (SC.v (Value.int IntKind.i64 ((↑x : Int) + (1 : Int)))) = SV.c (SC.v (Value.int IntKind.i64 (↑x' : Int))) ∧ True) ∧ ([] : List (Go.Eng.Gd × Go.Eng.Res)) = [] ∧ u.length - x' < u.length - x)) (([] : List Go.Eng.Res) = [] ∧ Ent.one (SV.c (SC.v (Value.bool (decide (u = v))))) = Ent.one (SV.c (SC.v (Value.bool true))))) := by
  have hp : u.length ≤ 1000000 := hpre
  have fF : u ≠ v → ([] : List Go.Eng.Res) = [] ∧ Ent.one (SV.c (SC.v (Value.bool (decide (u = v))))) = Ent.one (SV.c (SC.v (Value.bool false))) := fun q => ⟨rfl, by rw [decide_eq_false q]⟩
  refine br_iff.2 ⟨fun h => fF fun q => ?_, fun h => ?_⟩
  · subst q; simp at h
  simp only [Bool.not_eq_false', decide_eq_true_eq] at h
  refine ⟨⟨0, ⟨by omega, fun j hj => by omega⟩, ⟨rfl, trivial⟩, rfl⟩, fun k hk => br_iff.2 ⟨fun g => ?_, fun g => ?_⟩⟩
  · simp only [decide_eq_true_eq] at g
    refine ⟨⟨by omega, by omega⟩, fun d hd => ⟨⟨by omega, by omega⟩, fun d1 hd1 => br_iff.2 ⟨fun g2 => fF fun q => ?_, fun g2 => ⟨InR_i64.2 (by omega), k + 1, ⟨by omega, fun j hj => ?_⟩, ⟨rfl, trivial⟩, rfl, by omega⟩⟩⟩⟩
    · subst q
      rw [hd] at hd1; cases hd1
      simp at g2
    · by_cases hjk : j = k
      · subst hjk
        have hd : u[j]? = some d := hd
        have hd1 : v[j]? = some d1 := hd1
        simp at g2
        rw [hd, hd1, g2]
      · exact hk.2 j (by omega)
  simp only [decide_eq_false_iff_not] at g
  have e : u = v := by
    apply List.ext_getElem?
    intro j
    by_cases hj : j < k
    · exact hk.2 j hj
    · rw [List.getElem?_eq_none (by omega), List.getElem?_eq_none (by omega)]
  exact ⟨rfl, by rw [decide_eq_true e]⟩
set_option maxHeartbeats 2000000 in
set_option maxRecDepth 100000 in
theorem f26_met : Go.Eng.Met Tryd.prog cx0.gd 26 ctPrs :=
  (met_all (cx := cx0) (n := 26) (cl := cl26) (il := il26) (hl := hl26) (ml := ml26) (rc := []) (lits := []) (suf := []) (by kernel_rfl) tis_ok trivial trivial trivial trivial Tryd.func26 (by kernel_rfl) (by kernel_rfl) rfl (by kernel_rfl) (by kernel_rfl) (by simp) fun d hd => by
    obtain ⟨u, v, ⟨⟩⟩ := d
    exact ex_of (ann26 u v) (f26_vc u v hd) (by kernel_rfl)).met
@[reducible] def ctSm3 : CT := { ps := [.sl shTk, .sl shTk], pre := fun d => d.1.length ≤ 1000000, res := fun d => ([], vB (decide (d.1 = d.2.1))) }
@[reducible] def cl19 : List (Nat × CT) := []
@[reducible] def ann19 (u : List (TkD)) (v : List (TkD)) : Nat → Option (St → Ann) := fun n => match n with
  | 4 => some fun _ => .inv { α := Nat, slots := fun k => [(5, .c (.v (.int .i64 k)))], res := fun k => [], inv := fun k => k ≤ u.length ∧ ∀ j < k, u[j]? = v[j]?, meas := fun k => u.length - k }
  | _ => none
@[reducible] def il19 : List (Nat × IP) := []
@[reducible] def hl19 : List (Nat × Nat × CT) := []
@[reducible] def ml19 : List (Nat × MK) := []
set_option maxRecDepth 100000 in
theorem f19_vc (u : List (TkD)) (v : List (TkD)) (hpre : ctSm3.pre (u, v, ())) :
    br (!decide ((↑u.length : Int) = (↑v.length : Int))) (([] : List Go.Eng.Res) = [] ∧ Ent.one (SV.c (SC.v (Value.bool (decide (u = v))))) = Ent.one (SV.c (SC.v (Value.bool false)))) ((∃ x, (x ≤ u.length ∧ ∀ (j : Nat), j < x → u[j]? = v[j]?) ∧ (SV.c (SC.v (Value.int IntKind.i64 (0 : Int))) = SV.c (SC.v (Value.int IntKind.i64 (↑x : Int))) ∧ True) ∧ ([] : List (Go.Eng.Gd × Go.Eng.Res)) = []) ∧ ∀ (x : Nat), (x ≤ u.length ∧ ∀ (j : Nat), j < x → u[j]? = v[j]?) → br (decide ((↑x : Int) < (↑u.length : Int))) (((0 : Int) ≤ (↑x : Int) ∧ (↑x : Int) < (↑u.length : Int)) ∧ ∀ (d : I6.den × (I6.pair Sh.unit).den), u[(↑x : Int).toNat]? = some d → ((0 : Int) ≤ (↑x : Int) ∧ (↑x : Int) < (↑v.length : Int)) ∧ ∀ (d_1 : I6.den × (I6.pair Sh.unit).den), v[(↑x : Int).toNat]? = some d_1 → br (!(true && d.fst == d_1.fst && d.snd.fst == d_1.snd.fst)) (([] : List Go.Eng.Res) = [] ∧ Ent.one (SV.c (SC.v (Value.bool (decide (u = v))))) = Ent.one (SV.c (SC.v (Value.bool false)))) (InR IntKind.i64 ((↑x : Int) + (1 : Int)) ∧ ∃ x', (x' ≤ u.length ∧ ∀ (j : Nat), j < x' → u[j]? = v[j]?) ∧ (SV.c (SC.v (Value.int IntKind.i64 ((↑x : Int) + (1 : Int)))) = SV.c (SC.v (Value.int IntKind.i64 (↑x' : Int))) ∧ True) ∧ ([] : List (Go.Eng.Gd × Go.Eng.Res)) = [] ∧ u.length - x' < u.length - x)) (([] : List Go.Eng.Res) = [] ∧ Ent.one (SV.c (SC.v (Value.bool (decide (u = v))))) = Ent.one (SV.c (SC.v (Value.bool true))))) := by
  have hp : u.length ≤ 1000000 := hpre
  have fF : u ≠ v → ([] : List Go.Eng.Res) = [] ∧ Ent.one (SV.c (SC.v (Value.bool (decide (u = v))))) = Ent.one (SV.c (SC.v (Value.bool false))) := fun q => ⟨rfl, by rw [decide_eq_false q]⟩
  refine br_iff.2 ⟨fun h => fF fun q => ?_, fun h => ?_⟩
  · subst q; simp at h
  simp only [Bool.not_eq_false', decide_eq_true_eq] at h
  refine ⟨⟨0, ⟨by omega, fun j hj => by omega⟩, ⟨rfl, trivial⟩, rfl⟩, fun k hk => br_iff.2 ⟨fun g => ?_, fun g => ?_⟩⟩
  · simp only [decide_eq_true_eq] at g
    refine ⟨⟨by omega, by omega⟩, fun d hd => ⟨⟨by omega, by omega⟩, fun d1 hd1 => br_iff.2 ⟨fun g2 => fF fun q => ?_, fun g2 => ⟨InR_i64.2 (by omega), k + 1, ⟨by omega, fun j hj => ?_⟩, ⟨rfl, trivial⟩, rfl, by omega⟩⟩⟩⟩
    · subst q
      rw [hd] at hd1; cases hd1
      simp at g2
    · by_cases hjk : j = k
      · subst hjk
        have hd : u[j]? = some d := hd
        have hd1 : v[j]? = some d1 := hd1
        simp at g2
        rw [hd, hd1, tk_inj (x := d) (y := d1) (Prod.ext g2.1 g2.2)]
      · exact hk.2 j (by omega)
  simp only [decide_eq_false_iff_not] at g
  have e : u = v := by
    apply List.ext_getElem?
    intro j
    by_cases hj : j < k
    · exact hk.2 j hj
    · rw [List.getElem?_eq_none (by omega), List.getElem?_eq_none (by omega)]
  exact ⟨rfl, by rw [decide_eq_true e]⟩
set_option maxHeartbeats 2000000 in
set_option maxRecDepth 100000 in
theorem f19_met : Go.Eng.Met Tryd.prog cx0.gd 19 ctSm3 :=
  (met_all (cx := cx0) (n := 26) (cl := cl19) (il := il19) (hl := hl19) (ml := ml19) (rc := []) (lits := []) (suf := []) (by kernel_rfl) tis_ok trivial trivial trivial trivial Tryd.func19 (by kernel_rfl) (by kernel_rfl) rfl (by kernel_rfl) (by kernel_rfl) (by simp) fun d hd => by
    obtain ⟨u, v, ⟨⟩⟩ := d
    exact ex_of (ann19 u v) (f19_vc u v hd) (by kernel_rfl)).met
def turnI (i k : Int) : Int := if i = k then k - 1 else if i = k - 1 then k else i
@[reducible] def ctTurn : CT := { ps := [.int .i64, .int .i64], pre := fun d => -1000 ≤ d.2.1 ∧ d.2.1 ≤ 1000, res := fun d => ([], .one (.c (.v (.int .i64 (turnI d.1 d.2.1))))) }
@[reducible] def cl21 : List (Nat × CT) := []
@[reducible] def ann21 (i : Int) (k : Int) : Nat → Option (St → Ann) := fun _ => none
set_option maxRecDepth 100000 in
theorem f21_vc (i : Int) (k : Int) (hpre : ctTurn.pre (i, k, ())) :
    br (decide (i = k)) (InR IntKind.i64 (k - (1 : Int)) ∧ ([] : List Go.Eng.Res) = [] ∧ Ent.one (SV.c (SC.v (Value.int IntKind.i64 (turnI i k)))) = Ent.one (SV.c (SC.v (Value.int IntKind.i64 (k - (1 : Int)))))) (InR IntKind.i64 (k - (1 : Int)) ∧ br (decide (i = k - (1 : Int))) (([] : List Go.Eng.Res) = [] ∧ Ent.one (SV.c (SC.v (Value.int IntKind.i64 (turnI i k)))) = Ent.one (SV.c (SC.v (Value.int IntKind.i64 k)))) (([] : List Go.Eng.Res) = [] ∧ Ent.one (SV.c (SC.v (Value.int IntKind.i64 (turnI i k)))) = Ent.one (SV.c (SC.v (Value.int IntKind.i64 i))))) := by
  have hk : -1000 ≤ k ∧ k ≤ 1000 := hpre
  refine br_iff.2 ⟨fun h => ⟨InR_i64.2 (by omega), rfl, ?_⟩, fun h => ⟨InR_i64.2 (by omega), br_iff.2 ⟨fun h2 => ⟨rfl, ?_⟩, fun h2 => ⟨rfl, ?_⟩⟩⟩⟩
  · rw [show turnI i k = k - 1 from if_pos (by simpa using h)]
  · simp only [decide_eq_true_eq, decide_eq_false_iff_not] at h h2
    rw [show turnI i k = k by unfold turnI; rw [if_neg h, if_pos h2]]
  · simp only [decide_eq_false_iff_not] at h h2
    rw [show turnI i k = i by unfold turnI; rw [if_neg h, if_neg h2]]
set_option maxHeartbeats 2000000 in
set_option maxRecDepth 100000 in
theorem f21_met : Go.Eng.Met Tryd.prog cx0.gd 21 ctTurn :=
  met_of (cx := cx0) (n := 16) (cl := cl21) (by kernel_rfl) tis_ok trivial Tryd.func21 (by kernel_rfl) (by kernel_rfl) rfl (by kernel_rfl) (by kernel_rfl) fun d hd => by
    obtain ⟨i, k, ⟨⟩⟩ := d
    exact ex_of (ann21 i k) (f21_vc i k hd) (by kernel_rfl)
def exL : List ED := [(0, 0, 2, 0, -1, -1, 0, 0, 0, ()), (1, 0, 2, 1, -1, -1, 0, 0, 0, ()), (1, 1, 1, 0, -1, -1, 0, 0, 0, ())]
@[reducible] def ctExm : CT := { ps := [], pre := fun d => True, res := fun d => ([], .one (.c (.sl shE exL))) }
@[reducible] def cl32 : List (Nat × CT) := []
@[reducible] def ann32  : Nat → Option (St → Ann) := fun _ => none
@[reducible] def il32 : List (Nat × IP) := []
@[reducible] def hl32 : List (Nat × Nat × CT) := []
@[reducible] def ml32 : List (Nat × MK) := []
set_option maxRecDepth 100000 in
theorem f32_vc  :
    ([] : List Go.Eng.Res) = [] ∧ Ent.one (SV.c (SC.sl shE exL)) = Ent.one (SV.c (SC.sl shE ([((0 : Int), (0 : Int), (2 : Int), (0 : Int), (-1 : Int), (-1 : Int), (0 : Int), (0 : Int), (0 : Int), ()), ((1 : Int), (0 : Int), (2 : Int), (1 : Int), (-1 : Int), (-1 : Int), (0 : Int), (0 : Int), (0 : Int), ()), ((1 : Int), (1 : Int), (1 : Int), (0 : Int), (-1 : Int), (-1 : Int), (0 : Int), (0 : Int), (0 : Int), ())]))) := by
  exact ⟨rfl, rfl⟩
set_option maxHeartbeats 2000000 in
set_option maxRecDepth 100000 in
theorem f32_met : Go.Eng.Met Tryd.prog cx0.gd 32 ctExm :=
  (met_all (cx := cx0) (n := 5) (cl := cl32) (il := il32) (hl := hl32) (ml := ml32) (rc := [.data (.sl shE)]) (lits := []) (suf := []) (by kernel_rfl) tis_ok trivial trivial trivial trivial Tryd.func32 (by kernel_rfl) (by kernel_rfl) rfl (by kernel_rfl) (by kernel_rfl) (by simp) fun d hd => by
    obtain ⟨⟩ := d
    exact ex_of (ann32 ) (f32_vc ) (by kernel_rfl)).met
end Go.Proofs.YtigfbjjphegleaaDoor
set_option linter.unusedSimpArgs false
set_option linter.unusedVariables false
namespace Go.Proofs.YtigfbjjphegleaaDoor
open Go Go.Eng
theorem exb : ∀ e ∈ exL, bE e := by
  intro e he
  simp only [exL, List.mem_cons, List.not_mem_nil, or_false] at he
  rcases he with rfl | rfl | rfl <;> exact ⟨by decide, by decide⟩
theorem ex01 : bfL exL 0 1 = false := by
  rw [← Bool.not_eq_true, bfL_iff, Bf.iff]
  rintro ⟨k, hk, d, _⟩
  have : k = 0 := by omega
  subst this
  exact absurd d (by decide)
theorem ex02 : bfL exL 0 2 = true := bfL_iff.2 (.one (by omega) (by decide))
theorem ex12 : bfL exL 1 2 = true := bfL_iff.2 (.one (by omega) (by decide))
theorem ex_low {i j : Nat} (h : j ≤ i) : bfL exL i j = false := bf_up h
theorem ex_cov : covM exL = [[0, 2], [1, 2]] := by
  have l3 : exL.length = 3 := rfl
  have c01 : covB exL 0 1 = false := by simp [covB, ex01]
  have c02 : covB exL 0 2 = true := by simp [covB, ex02, List.range_succ, ex01, ex_low]
  have c12 : covB exL 1 2 = true := by simp [covB, ex12, List.range_succ]
  unfold covM
  rw [l3, if_neg (by omega)]
  simp [pairs, pairI, List.range_succ, c01, c02, c12]
theorem ex_too : tooM exL = 0 := if_neg (by decide)
theorem ex_clk : clkM exL = [ckL exL 0, ckL exL 1, [(0, 1, ()), (1, 2, ())]] := by
  have l3 : exL.length = 3 := rfl
  have a0 : agA exL 0 = 0 := rfl
  have a1 : agA exL 1 = 1 := rfl
  have a2 : agA exL 2 = 1 := rfl
  have e0 : ckA exL 2 0 = [(1, 1)] := by simp [ckA, mput, a2]
  have e1 : ckA exL 2 1 = [(0, 1), (1, 1)] := by
    rw [show ckA exL 2 1 = bump (ckA exL 2 0) (agA exL 0) from if_pos ex02, e0, a0]; rfl
  have e2 : ckA exL 2 2 = [(0, 1), (1, 2)] := by
    rw [show ckA exL 2 2 = bump (ckA exL 2 1) (agA exL 1) from if_pos ex12, e1, a1]; rfl
  have c2 : ckL exL 2 = [(0, 1, ()), (1, 2, ())] := by unfold ckL; rw [e2]; rfl
  unfold clkM
  rw [l3, if_neg (by omega)]
  simp [clkP, List.range_succ, c2]
theorem ex_b02 : befM exL 0 2 = true := by
  unfold befM
  rw [if_neg (by simp [badI, exL])]
  exact ex02
theorem ex_b01 : befM exL 0 1 = false := by
  unfold befM
  rw [if_neg (by simp [badI, exL])]
  exact ex01
theorem ex_not : notM exL 0 = [1] := by
  have l3 : exL.length = 3 := rfl
  unfold notM
  rw [if_neg (by simp [badI, exL]), l3]
  simp [upL, List.range_succ, ex01, ex02]
theorem ex_pas : pasM exL 2 = [0, 1, 2] := by
  unfold pasM
  rw [if_neg (by simp [badI, exL])]
  show upL (fun i => bfL exL i 2) 2 ++ [2] = _
  simp [upL, List.range_succ, ex02, ex12]
end Go.Proofs.YtigfbjjphegleaaDoor
set_option linter.unusedSimpArgs false
set_option linter.unusedVariables false
set_option maxRecDepth 100000
namespace Go.Proofs.YtigfbjjphegleaaDoor
open Go Go.Eng

@[reducible] def ctLiv : CT := { ps := [], pre := fun d => True, res := fun d => ([], vB (true)) }
@[reducible] noncomputable def cl9 : List (Nat × CT) := [(32, ctExm), (24, ctCov), (17, ctClk), (26, ctPrs), (19, ctSm3), (10, ctBef), (15, ctNot), (13, ctPas), (12, ctSame)]
@[reducible] noncomputable def ann9  : Nat → Option (St → Ann) := fun _ => none
@[reducible] def il9 : List (Nat × IP) := []
@[reducible] def hl9 : List (Nat × Nat × CT) := []
@[reducible] noncomputable def ml9 : List (Nat × MK) := []
set_option maxRecDepth 100000 in
theorem f9_vc  :
    True ∧ (∀ (e : I6.den × (I6.pair (I6.pair (I6.pair (I6.pair (I6.pair (I6.pair shTk)))))).den), e ∈ exL → bE e) ∧ True ∧ (∀ (e : I6.den × (I6.pair (I6.pair (I6.pair (I6.pair (I6.pair (I6.pair shTk)))))).den), e ∈ exL → bE e) ∧ (true = true → (covM exL).length ≤ (1000000 : Nat)) ∧ ((true && decide (covM exL = [[(0 : Int), (2 : Int)], [(1 : Int), (2 : Int)]]) && true) = true → (0 : Int) ≤ (2 : Int) ∧ (2 : Int) < (3 : Int)) ∧ ∀ (d : List shTk.den), ((true && decide (covM exL = [[(0 : Int), (2 : Int)], [(1 : Int), (2 : Int)]]) && true) = true → (clkM exL)[(2 : Nat)]? = some d) → ((true && decide (covM exL = [[(0 : Int), (2 : Int)], [(1 : Int), (2 : Int)]]) && true) = true → d.length ≤ (1000000 : Nat)) ∧ ((true && decide (covM exL = [[(0 : Int), (2 : Int)], [(1 : Int), (2 : Int)]]) && true && decide (d = [((0 : Int), (1 : Int), ()), ((1 : Int), (2 : Int), ())])) = true → True) ∧ ((true && decide (covM exL = [[(0 : Int), (2 : Int)], [(1 : Int), (2 : Int)]]) && true && decide (d = [((0 : Int), (1 : Int), ()), ((1 : Int), (2 : Int), ())])) = true → ∀ (e : I6.den × (I6.pair (I6.pair (I6.pair (I6.pair (I6.pair (I6.pair shTk)))))).den), e ∈ exL → bE e) ∧ ((true && decide (covM exL = [[(0 : Int), (2 : Int)], [(1 : Int), (2 : Int)]]) && true && decide (d = [((0 : Int), (1 : Int), ()), ((1 : Int), (2 : Int), ())]) && befM exL (0 : Int) (2 : Int)) = true → True) ∧ ((true && decide (covM exL = [[(0 : Int), (2 : Int)], [(1 : Int), (2 : Int)]]) && true && decide (d = [((0 : Int), (1 : Int), ()), ((1 : Int), (2 : Int), ())]) && befM exL (0 : Int) (2 : Int)) = true → ∀ (e : I6.den × (I6.pair (I6.pair (I6.pair (I6.pair (I6.pair (I6.pair shTk)))))).den), e ∈ exL → bE e) ∧ ((true && decide (covM exL = [[(0 : Int), (2 : Int)], [(1 : Int), (2 : Int)]]) && true && decide (d = [((0 : Int), (1 : Int), ()), ((1 : Int), (2 : Int), ())]) && befM exL (0 : Int) (2 : Int) && !befM exL (0 : Int) (1 : Int)) = true → True) ∧ ((true && decide (covM exL = [[(0 : Int), (2 : Int)], [(1 : Int), (2 : Int)]]) && true && decide (d = [((0 : Int), (1 : Int), ()), ((1 : Int), (2 : Int), ())]) && befM exL (0 : Int) (2 : Int) && !befM exL (0 : Int) (1 : Int)) = true → ∀ (e : I6.den × (I6.pair (I6.pair (I6.pair (I6.pair (I6.pair (I6.pair shTk)))))).den), e ∈ exL → bE e) ∧ ((true && decide (covM exL = [[(0 : Int), (2 : Int)], [(1 : Int), (2 : Int)]]) && true && decide (d = [((0 : Int), (1 : Int), ()), ((1 : Int), (2 : Int), ())]) && befM exL (0 : Int) (2 : Int) && !befM exL (0 : Int) (1 : Int)) = true → (notM exL (0 : Int)).length ≤ (1000000 : Nat)) ∧ ((true && decide (covM exL = [[(0 : Int), (2 : Int)], [(1 : Int), (2 : Int)]]) && true && decide (d = [((0 : Int), (1 : Int), ()), ((1 : Int), (2 : Int), ())]) && befM exL (0 : Int) (2 : Int) && !befM exL (0 : Int) (1 : Int) && decide (notM exL (0 : Int) = [(1 : Int)])) = true → True) ∧ ((true && decide (covM exL = [[(0 : Int), (2 : Int)], [(1 : Int), (2 : Int)]]) && true && decide (d = [((0 : Int), (1 : Int), ()), ((1 : Int), (2 : Int), ())]) && befM exL (0 : Int) (2 : Int) && !befM exL (0 : Int) (1 : Int) && decide (notM exL (0 : Int) = [(1 : Int)])) = true → ∀ (e : I6.den × (I6.pair (I6.pair (I6.pair (I6.pair (I6.pair (I6.pair shTk)))))).den), e ∈ exL → bE e) ∧ ((true && decide (covM exL = [[(0 : Int), (2 : Int)], [(1 : Int), (2 : Int)]]) && true && decide (d = [((0 : Int), (1 : Int), ()), ((1 : Int), (2 : Int), ())]) && befM exL (0 : Int) (2 : Int) && !befM exL (0 : Int) (1 : Int) && decide (notM exL (0 : Int) = [(1 : Int)])) = true → (pasM exL (2 : Int)).length ≤ (1000000 : Nat)) ∧ ([] : List Go.Eng.Res) = [] ∧ Ent.one (SV.c (SC.v (Value.bool true))) = Ent.one (SV.c (SC.v (Value.bool (true && decide (covM exL = [[(0 : Int), (2 : Int)], [(1 : Int), (2 : Int)]]) && true && decide (d = [((0 : Int), (1 : Int), ()), ((1 : Int), (2 : Int), ())]) && befM exL (0 : Int) (2 : Int) && !befM exL (0 : Int) (1 : Int) && decide (notM exL (0 : Int) = [(1 : Int)]) && decide (pasM exL (2 : Int) = [(0 : Int), (1 : Int), (2 : Int)]))))) := by
  have hc : (true && decide (covM exL = [[0, 2], [1, 2]]) && true) = true := by rw [ex_cov]; rfl
  refine ⟨trivial, exb, trivial, exb, fun _ => by rw [ex_cov]; decide, fun _ => ⟨by decide, by decide⟩, fun d hd => ?_⟩
  have hd := hd hc
  rw [ex_clk] at hd
  have ed : d = [(0, 1, ()), (1, 2, ())] := (Option.some.inj hd).symm
  subst ed
  refine ⟨fun _ => by decide, fun _ => trivial, fun _ => exb, fun _ => trivial, fun _ => exb, fun _ => trivial, fun _ => exb, fun _ => by rw [ex_not]; decide, fun _ => trivial, fun _ => exb, fun _ => by rw [ex_pas]; decide, rfl, ?_⟩
  rw [ex_cov, ex_b02, ex_b01, ex_not, ex_pas]
  rfl
set_option maxHeartbeats 2000000 in
set_option maxRecDepth 100000 in
theorem f9_met : Go.Eng.Met Tryd.prog cx0.gd 9 ctLiv :=
  (met_all (cx := cx0) (n := 55) (cl := cl9) (il := il9) (hl := hl9) (ml := ml9) (rc := []) (lits := []) (suf := []) (by kernel_rfl) tis_ok ⟨f32_met, f24_met, f17_met, f26_met, f19_met, f10_met, f15_met, f13_met, f12_met, trivial⟩ trivial trivial trivial Tryd.func9 (by kernel_rfl) (by kernel_rfl) rfl (by kernel_rfl) (by kernel_rfl) (by simp) fun d hd => by
    obtain ⟨⟩ := d
    exact ex_of (ann9 ) (f9_vc ) (by kernel_rfl)).met
theorem pas_len (l : List ED) (j : Int) : (pasM l j).length ≤ 1000000 := by
  unfold pasM
  split
  · simp
  · rename_i h
    have := upL_len (fun i => bfL l i j.toNat) j.toNat
    unfold badI at h
    rw [List.length_append, List.length_singleton]; omega
theorem not_len (l : List ED) (j : Int) : (notM l j).length ≤ 1000000 := by
  unfold notM
  split
  · simp
  · rename_i h
    have := upL_len (fun i => decide (j.toNat < i) && !bfL l j.toNat i) l.length
    unfold badI at h
    omega
theorem clkM_len (l : List ED) : (clkM l).length ≤ 512 := by
  unfold clkM
  split
  · simp
  · rw [clkP_len]; omega
theorem clk_len {l : List ED} {k : Nat} {d : List TkD} (h : (clkM l)[k]? = some d) : d.length ≤ 1000000 := by
  unfold clkM at h
  split at h
  · simp at h
  · rename_i hl
    have hm := List.mem_of_getElem? h
    unfold clkP at hm
    obtain ⟨i, hi, rfl⟩ := List.mem_map.1 hm
    rw [List.mem_range] at hi
    have := ckA_len l i i
    unfold ckL
    rw [List.length_map]; omega
@[reducible] def ctL3 : CT := { ps := [.sl shE, .int .i64, .int .i64], pre := fun d => ∀ e ∈ d.1, bE e, res := fun d => ([], vB (true)) }
@[reducible] noncomputable def cl3 : List (Nat × CT) := [(9, ctLiv), (10, ctBef), (11, ctBef), (13, ctPas), (14, ctPas), (15, ctNot), (16, ctNot), (12, ctSame)]
@[reducible] noncomputable def ann3 (l : List ED) (i : Int) (j : Int) : Nat → Option (St → Ann) := fun _ => none
@[reducible] def il3 : List (Nat × IP) := []
@[reducible] def hl3 : List (Nat × Nat × CT) := []
@[reducible] noncomputable def ml3 : List (Nat × MK) := []
set_option maxRecDepth 100000 in
theorem f3_vc (l : List ED) (i : Int) (j : Int) (hpre : ctL3.pre (l, i, j, ())) :
    br (decide ((40 : Int) < (↑l.length : Int))) (True ∧ ([] : List Go.Eng.Res) = [] ∧ Ent.one (SV.c (SC.v (Value.bool true))) = Ent.one (SV.c (SC.v (Value.bool true)))) ((∀ (e : I6.den × (I6.pair (I6.pair (I6.pair (I6.pair (I6.pair (I6.pair shTk)))))).den), e ∈ l → bE e) ∧ (∀ (e : I6.den × (I6.pair (I6.pair (I6.pair (I6.pair (I6.pair (I6.pair shTk)))))).den), e ∈ l → bE e) ∧ ((befM l i j == befM l i j) = true → ∀ (e : I6.den × (I6.pair (I6.pair (I6.pair (I6.pair (I6.pair (I6.pair shTk)))))).den), e ∈ l → bE e) ∧ ((befM l i j == befM l i j) = true → ∀ (e : I6.den × (I6.pair (I6.pair (I6.pair (I6.pair (I6.pair (I6.pair shTk)))))).den), e ∈ l → bE e) ∧ ((befM l i j == befM l i j) = true → (pasM l i).length ≤ (1000000 : Nat)) ∧ ((befM l i j == befM l i j && decide (pasM l i = pasM l i)) = true → ∀ (e : I6.den × (I6.pair (I6.pair (I6.pair (I6.pair (I6.pair (I6.pair shTk)))))).den), e ∈ l → bE e) ∧ ((befM l i j == befM l i j && decide (pasM l i = pasM l i)) = true → ∀ (e : I6.den × (I6.pair (I6.pair (I6.pair (I6.pair (I6.pair (I6.pair shTk)))))).den), e ∈ l → bE e) ∧ ((befM l i j == befM l i j && decide (pasM l i = pasM l i)) = true → (notM l i).length ≤ (1000000 : Nat)) ∧ ((befM l i j == befM l i j && decide (pasM l i = pasM l i) && decide (notM l i = notM l i)) = true → True) ∧ ([] : List Go.Eng.Res) = [] ∧ Ent.one (SV.c (SC.v (Value.bool true))) = Ent.one (SV.c (SC.v (Value.bool (befM l i j == befM l i j && decide (pasM l i = pasM l i) && decide (notM l i = notM l i) && true))))) := by
  have hb : ∀ e ∈ l, bE e := hpre
  refine br_iff.2 ⟨fun _ => ⟨trivial, rfl, rfl⟩, fun h => ⟨hb, hb, fun _ => hb, fun _ => hb, fun _ => pas_len l i, fun _ => hb, fun _ => hb, fun _ => not_len l i, fun _ => trivial, rfl, ?_⟩⟩
  simp
set_option maxHeartbeats 2000000 in
set_option maxRecDepth 100000 in
theorem f3_met : Go.Eng.Met Tryd.prog cx0.gd 3 ctL3 :=
  (met_all (cx := cx0) (n := 41) (cl := cl3) (il := il3) (hl := hl3) (ml := ml3) (rc := []) (lits := []) (suf := []) (by kernel_rfl) tis_ok ⟨f9_met, f10_met, f11_met, f13_met, f14_met, f15_met, f16_met, f12_met, trivial⟩ trivial trivial trivial Tryd.func3 (by kernel_rfl) (by kernel_rfl) rfl (by kernel_rfl) (by kernel_rfl) (by simp) fun d hd => by
    obtain ⟨l, i, j, ⟨⟩⟩ := d
    exact ex_of (ann3 l i j) (f3_vc l i j hd) (by kernel_rfl)).met
@[reducible] def ctL4 : CT := { ps := [.sl shE], pre := fun d => ∀ e ∈ d.1, bE e, res := fun d => ([], vB (true)) }
@[reducible] noncomputable def cl4 : List (Nat × CT) := [(9, ctLiv), (17, ctClk), (18, ctClk), (19, ctSm3)]
@[reducible] noncomputable def ann4 (l : List ED) : Nat → Option (St → Ann) := fun n => match n with
  | 7 => some fun _ => .inv { α := Nat, slots := fun k => [(5, .c (.v (.int .i64 k)))], res := fun k => [], inv := fun k => k ≤ (clkM l).length, meas := fun k => (clkM l).length - k }
  | _ => none
@[reducible] def il4 : List (Nat × IP) := []
@[reducible] def hl4 : List (Nat × Nat × CT) := []
@[reducible] noncomputable def ml4 : List (Nat × MK) := []
set_option maxRecDepth 100000 in
theorem f4_vc (l : List ED) (hpre : ctL4.pre (l, ())) :
    br (decide ((40 : Int) < (↑l.length : Int))) (True ∧ ([] : List Go.Eng.Res) = [] ∧ Ent.one (SV.c (SC.v (Value.bool true))) = Ent.one (SV.c (SC.v (Value.bool true)))) ((∀ (e : I6.den × (I6.pair (I6.pair (I6.pair (I6.pair (I6.pair (I6.pair shTk)))))).den), e ∈ l → bE e) ∧ (∀ (e : I6.den × (I6.pair (I6.pair (I6.pair (I6.pair (I6.pair (I6.pair shTk)))))).den), e ∈ l → bE e) ∧ br (!decide ((↑(clkM l).length : Int) = (↑(clkM l).length : Int))) (([] : List Go.Eng.Res) = [] ∧ Ent.one (SV.c (SC.v (Value.bool true))) = Ent.one (SV.c (SC.v (Value.bool false)))) ((∃ x, x ≤ (clkM l).length ∧ (SV.c (SC.v (Value.int IntKind.i64 (0 : Int))) = SV.c (SC.v (Value.int IntKind.i64 (↑x : Int))) ∧ True) ∧ ([] : List (Go.Eng.Gd × Go.Eng.Res)) = []) ∧ ∀ (x : Nat), x ≤ (clkM l).length → br (decide ((↑x : Int) < (↑(clkM l).length : Int))) (((0 : Int) ≤ (↑x : Int) ∧ (↑x : Int) < (↑(clkM l).length : Int)) ∧ ∀ (d : List shTk.den), (clkM l)[(↑x : Int).toNat]? = some d → ((0 : Int) ≤ (↑x : Int) ∧ (↑x : Int) < (↑(clkM l).length : Int)) ∧ ∀ (d_1 : List shTk.den), (clkM l)[(↑x : Int).toNat]? = some d_1 → d.length ≤ (1000000 : Nat) ∧ br (!decide (d = d_1)) (([] : List Go.Eng.Res) = [] ∧ Ent.one (SV.c (SC.v (Value.bool true))) = Ent.one (SV.c (SC.v (Value.bool false)))) (InR IntKind.i64 ((↑x : Int) + (1 : Int)) ∧ ∃ x', x' ≤ (clkM l).length ∧ (SV.c (SC.v (Value.int IntKind.i64 ((↑x : Int) + (1 : Int)))) = SV.c (SC.v (Value.int IntKind.i64 (↑x' : Int))) ∧ True) ∧ ([] : List (Go.Eng.Gd × Go.Eng.Res)) = [] ∧ (clkM l).length - x' < (clkM l).length - x)) (True ∧ ([] : List Go.Eng.Res) = [] ∧ Ent.one (SV.c (SC.v (Value.bool true))) = Ent.one (SV.c (SC.v (Value.bool true)))))) := by
  have hb : ∀ e ∈ l, bE e := hpre
  refine br_iff.2 ⟨fun _ => ⟨trivial, rfl, rfl⟩, fun h => ⟨hb, hb, br_iff.2 ⟨fun q => by simp at q, fun _ => ⟨⟨0, by omega, ⟨rfl, trivial⟩, rfl⟩, fun x hx => br_iff.2 ⟨fun g => ?_, fun g => ⟨trivial, rfl, rfl⟩⟩⟩⟩⟩⟩
  simp only [decide_eq_true_eq] at g
  have lc := clkM_len l
  refine ⟨⟨by omega, by omega⟩, fun d hd => ⟨⟨by omega, by omega⟩, fun d1 hd1 => ⟨clk_len hd, br_iff.2 ⟨fun q => ?_, fun q => ⟨InR_i64.2 (by omega), x + 1, by omega, ⟨rfl, trivial⟩, rfl, by omega⟩⟩⟩⟩⟩
  have : d = d1 := Option.some.inj (hd.symm.trans hd1)
  subst this
  simp at q
set_option maxHeartbeats 2000000 in
set_option maxRecDepth 100000 in
theorem f4_met : Go.Eng.Met Tryd.prog cx0.gd 4 ctL4 :=
  (met_all (cx := cx0) (n := 36) (cl := cl4) (il := il4) (hl := hl4) (ml := ml4) (rc := []) (lits := []) (suf := []) (by kernel_rfl) tis_ok ⟨f9_met, f17_met, f18_met, f19_met, trivial⟩ trivial trivial trivial Tryd.func4 (by kernel_rfl) (by kernel_rfl) rfl (by kernel_rfl) (by kernel_rfl) (by simp) fun d hd => by
    obtain ⟨l, ⟨⟩⟩ := d
    exact ex_of (ann4 l) (f4_vc l hd) (by kernel_rfl)).met
end Go.Proofs.YtigfbjjphegleaaDoor
set_option linter.unusedSimpArgs false
set_option linter.unusedVariables false
namespace Go.Proofs.YtigfbjjphegleaaDoor
open Go Go.Eng
def belM (a b : List TkD) : Bool := a.all fun t => b.any fun s => s.1 == t.1 && decide (t.2.1 ≤ s.2.1)
theorem get_put {m : MpD} (hu : keysUp m) (a v b : Int) : mgetD (mput m a v) b 0 = if b = a then v else mgetD m b 0 := by
  unfold mgetD
  have hu2 := mput_up (n := a) (d := v) hu
  by_cases h : b = a
  · subst h
    rw [if_pos rfl, (mget_mem hu2).2 ((mput_mem hu).2 (.inl rfl))]; rfl
  · rw [if_neg h]
    cases e : mget m b with
    | none =>
      have e := mget_none.1 e
      rw [mget_none.2 fun x hx => ?_]
      rcases (mput_mem hu).1 hx with rfl | ⟨hx, _⟩
      · exact fun q => h q.symm
      · exact e x hx
    | some w =>
      rw [(mget_mem hu2).2 ((mput_mem hu).2 (.inr ⟨(mget_mem hu).1 e, h⟩))]
noncomputable def inP (l : List ED) (i x : Nat) : Bool := x == i || bfL l x i
noncomputable def cntN (l : List ED) (i : Nat) (a : Int) (n : Nat) : Nat := (List.range n).countP fun x => inP l i x && agA l x == a
theorem cntN_succ (l : List ED) (i : Nat) (a : Int) (n : Nat) : cntN l i a (n + 1) = cntN l i a n + if (inP l i n && agA l n == a) = true then 1 else 0 := by
  unfold cntN
  rw [List.range_succ, List.countP_append, List.countP_cons, List.countP_nil]
  simp
theorem cntN_far {l : List ED} {i : Nat} {a : Int} : ∀ {n : Nat}, i < n → cntN l i a n = cntN l i a (i + 1)
  | n + 1, h => by
    by_cases hn : n = i
    · rw [hn]
    · rw [cntN_succ, cntN_far (by omega : i < n), if_neg]
      · rfl
      · have e : bfL l n i = false := bf_up (by omega)
        simp [inP, e, hn]
theorem ck_cnt {l : List ED} {i : Nat} {a : Int} : ∀ {k : Nat}, k ≤ i → mgetD (ckA l i k) a 0 = (if agA l i = a then 1 else 0) + (cntN l i a k : Int)
  | 0, _ => by
    rw [show ckA l i 0 = mput [] (agA l i) 1 from rfl, get_put (by simp [keysUp])]
    by_cases h : agA l i = a
    · rw [if_pos h.symm, if_pos h]; rfl
    · rw [if_neg fun q => h q.symm, if_neg h]; rfl
  | k + 1, hk => by
    have ih := ck_cnt (l := l) (a := a) (show k ≤ i by omega)
    have hki : (k == i) = false := by simp; omega
    rw [cntN_succ]
    have e : inP l i k = bfL l k i := by simp [inP, hki]
    by_cases hb : bfL l k i = true
    · rw [show ckA l i (k + 1) = bump (ckA l i k) (agA l k) from if_pos hb]
      unfold bump
      rw [get_put (ckA_up l i k), e, hb, Bool.true_and]
      by_cases h : a = agA l k
      · have z : (if (agA l k == a) = true then 1 else 0) = (1 : Nat) := if_pos (beq_iff_eq.2 h.symm)
        rw [z, if_pos h, ← h, ih]; omega
      · have z : (if (agA l k == a) = true then 1 else 0) = (0 : Nat) := if_neg fun q => h (beq_iff_eq.1 q).symm
        rw [z, if_neg h, ih, Nat.add_zero]
    · have z : (if (inP l i k && agA l k == a) = true then 1 else 0) = (0 : Nat) := if_neg (by rw [e]; simp [hb])
      rw [show ckA l i (k + 1) = ckA l i k from if_neg hb, ih, z, Nat.add_zero]
theorem ck_all {l : List ED} {i : Nat} {a : Int} : mgetD (ckA l i i) a 0 = (cntN l i a (i + 1) : Int) := by
  rw [ck_cnt (Nat.le_refl i), cntN_succ]
  have e : inP l i i = true := by simp [inP]
  rw [e, Bool.true_and]
  by_cases h : agA l i = a
  · rw [if_pos h, if_pos (by simpa using h)]; omega
  · rw [if_neg h, if_neg (by simpa using h)]; omega
theorem bel_iff {m m2 : MpD} (hu : keysUp m) (hu2 : keysUp m2) (hp : ∀ p ∈ m, 1 ≤ p.2) (hp2 : ∀ p ∈ m2, 1 ≤ p.2) : belM (m.map toT) (m2.map toT) = true ↔ ∀ a, mgetD m a 0 ≤ mgetD m2 a 0 := by
  have nn : ∀ a, 0 ≤ mgetD m2 a 0 := fun a => by
    unfold mgetD
    cases e : mget m2 a with
    | none => simp
    | some v => have := hp2 _ ((mget_mem hu2).1 e); simp at this ⊢; omega
  simp only [belM, List.all_eq_true, List.any_eq_true, List.mem_map, Bool.and_eq_true, beq_iff_eq, decide_eq_true_eq]
  constructor
  · intro h a
    cases e : mget m a with
    | none =>
      have := nn a
      unfold mgetD at this ⊢
      rw [e]; exact this
    | some v =>
      obtain ⟨_, ⟨q, hq, rfl⟩, h1, h2⟩ := h _ ⟨(a, v), (mget_mem hu).1 e, rfl⟩
      have h1 : q.1 = a := h1
      have h2 : v ≤ q.2 := h2
      have e2 : mget m2 a = some q.2 := (mget_mem hu2).2 (by rw [← h1]; exact hq)
      unfold mgetD
      rw [e, e2]; exact h2
  · rintro h _ ⟨p, hpm, rfl⟩
    have h1 := hp p hpm
    have h2 := h p.1
    have e : mget m p.1 = some p.2 := (mget_mem hu).2 hpm
    cases e2 : mget m2 p.1 with
    | none => unfold mgetD at h2; rw [e, e2] at h2; simp at h2; omega
    | some w =>
      unfold mgetD at h2
      rw [e, e2] at h2
      exact ⟨toT (p.1, w), ⟨(p.1, w), (mget_mem hu2).1 e2, rfl⟩, rfl, h2⟩
theorem countP_lt {α : Type} {p q : α → Bool} : ∀ {l : List α}, (∀ x ∈ l, q x = true → p x = true) → (∃ x ∈ l, p x = true ∧ q x = false) → l.countP q < l.countP p
  | [], _, ⟨x, hx, _⟩ => by cases hx
  | y :: l, h, ⟨x, hx, h1, h2⟩ => by
    have hm : l.countP q ≤ l.countP p := List.countP_mono_left fun x hx => h x (by simp [hx])
    rw [List.countP_cons, List.countP_cons]
    rcases List.mem_cons.1 hx with rfl | hx
    · rw [h1, h2, if_pos rfl, if_neg (by simp)]; omega
    · have ih := countP_lt (l := l) (fun x hx => h x (by simp [hx])) ⟨x, hx, h1, h2⟩
      have := h y (by simp)
      cases hq : q y with
      | false =>
        rw [if_neg (by simp)]
        split <;> omega
      | true => rw [this hq, if_pos rfl]; omega
/-- Events of one agent follow each other. -/
theorem same_bf {l : List ED} (hv : ∀ e ∈ l, validM e = true) {x y : Nat} (hxy : x < y) (hy : y < l.length) (ha : agA l x = agA l y) : bfL l x y = true := by
  refine dep_bf hxy ?_
  have e1 : l[x]? = some (l[x]'(by omega)) := List.getElem?_eq_getElem (by omega)
  have e2 : l[y]? = some (l[y]'hy) := List.getElem?_eq_getElem hy
  have v1 := hv _ (List.mem_of_getElem? e1)
  have v2 := hv _ (List.mem_of_getElem? e2)
  have ea : eA (l[x]'(by omega)) = eA (l[y]'hy) := by simpa [agA, e1, e2] using ha
  simp only [dAt, e1, e2, depM, v1, v2, ea]
  simp
theorem clk_le {l : List ED} (hv : ∀ e ∈ l, validM e = true) {i j : Nat} (hi : i < l.length) (hj : j < l.length) (hij : i ≠ j) : bfL l i j = belM (ckL l i) (ckL l j) := bool_ext (by
  unfold ckL
  rw [bel_iff (ckA_up l i i) (ckA_up l j j) (fun p hp => (ckA_bnd l i i p hp).1) (fun p hp => (ckA_bnd l j j p hp).1)]
  have far : ∀ a, mgetD (ckA l i i) a 0 = (cntN l i a l.length : Int) := fun a => by rw [ck_all, cntN_far hi]
  have far2 : ∀ a, mgetD (ckA l j j) a 0 = (cntN l j a l.length : Int) := fun a => by rw [ck_all, cntN_far hj]
  constructor
  · intro b a
    rw [far, far2]
    refine Int.ofNat_le.2 (List.countP_mono_left fun x hx h => ?_)
    simp only [Bool.and_eq_true, inP, Bool.or_eq_true, beq_iff_eq] at h ⊢
    refine ⟨.inr ?_, h.2⟩
    rcases h.1 with rfl | h
    · exact b
    · exact bfL_trans h b
  · intro h
    refine Classical.byContradiction fun nb => ?_
    have h := h (agA l i)
    rw [far, far2] at h
    have h := Int.ofNat_le.1 h
    have : cntN l j (agA l i) l.length < cntN l i (agA l i) l.length := by
      refine countP_lt (fun x hx q => ?_) ⟨i, List.mem_range.2 hi, by simp [inP], ?_⟩
      · simp only [Bool.and_eq_true, inP, Bool.or_eq_true, beq_iff_eq] at q ⊢
        rw [List.mem_range] at hx
        refine ⟨?_, q.2⟩
        rcases Nat.lt_trichotomy x i with h1 | h1 | h1
        · exact .inr (same_bf hv h1 hi q.2)
        · exact .inl h1
        · exfalso
          have b := same_bf hv h1 hx q.2.symm
          rcases q.1 with rfl | q
          · exact nb b
          · exact nb (bfL_trans b q)
      · have e : bfL l i j = false := by simpa using nb
        simp [inP, hij, e]
    omega)
end Go.Proofs.YtigfbjjphegleaaDoor
set_option linter.unusedSimpArgs false
set_option linter.unusedVariables false
set_option maxRecDepth 100000
namespace Go.Proofs.YtigfbjjphegleaaDoor
open Go Go.Eng

theorem srt_lt {u : List TkD} (hs : u.Pairwise fun x y => x.1 < y.1) {a b : Nat} {s t : TkD} (hab : a < b) (h1 : u[a]? = some s) (h2 : u[b]? = some t) : s.1 < t.1 := by
  obtain ⟨ha, rfl⟩ := List.getElem?_eq_some_iff.1 h1
  obtain ⟨hb, rfl⟩ := List.getElem?_eq_some_iff.1 h2
  exact List.pairwise_iff_getElem.1 hs a b ha hb hab
def okC (c : List TkD) : Prop := c.length ≤ 1000 ∧ (c.Pairwise fun x y => x.1 < y.1) ∧ ∀ t ∈ c, 1 ≤ t.2.1 ∧ t.2.1 ≤ 2147483647
@[reducible] def ctCkV : CT := { ps := [.sl shTk], pre := fun d => okC d.1, res := fun d => ([], vB (true)) }
@[reducible] def cl30 : List (Nat × CT) := []
@[reducible] def ann30 (u : List TkD) : Nat → Option (St → Ann) := fun n => match n with
  | 2 => some fun _ => .inv { α := Nat, slots := fun k => [(7, .c (.v (.int .i64 k)))], res := fun k => [], inv := fun k => k ≤ u.length, meas := fun k => u.length - k }
  | _ => none
@[reducible] def il30 : List (Nat × IP) := []
@[reducible] def hl30 : List (Nat × Nat × CT) := []
@[reducible] def ml30 : List (Nat × MK) := []
set_option maxRecDepth 100000 in
theorem f30_vc (u : List TkD) (hpre : ctCkV.pre (u, ())) :
    (∃ x, x ≤ u.length ∧ (SV.c (SC.v (Value.int IntKind.i64 (0 : Int))) = SV.c (SC.v (Value.int IntKind.i64 (↑x : Int))) ∧ True) ∧ ([] : List (Go.Eng.Gd × Go.Eng.Res)) = []) ∧ ∀ (x : Nat), x ≤ u.length → br (decide ((↑x : Int) < (↑u.length : Int))) (((0 : Int) ≤ (↑x : Int) ∧ (↑x : Int) < (↑u.length : Int)) ∧ ∀ (d : I6.den × (I6.pair Sh.unit).den), u[(↑x : Int).toNat]? = some d → ((decide ((0 : Int) < (↑x : Int)) && !(decide (d.snd.fst < (1 : Int)) || decide ((2147483647 : Int) < d.snd.fst))) = true → InR IntKind.i64 ((↑x : Int) - (1 : Int))) ∧ ((decide ((0 : Int) < (↑x : Int)) && !(decide (d.snd.fst < (1 : Int)) || decide ((2147483647 : Int) < d.snd.fst))) = true → (0 : Int) ≤ (↑x : Int) - (1 : Int) ∧ (↑x : Int) - (1 : Int) < (↑u.length : Int)) ∧ ∀ (d_1 : I6.den × (I6.pair Sh.unit).den), ((decide ((0 : Int) < (↑x : Int)) && !(decide (d.snd.fst < (1 : Int)) || decide ((2147483647 : Int) < d.snd.fst))) = true → u[((↑x : Int) - (1 : Int)).toNat]? = some d_1) → br (decide (d.snd.fst < (1 : Int)) || decide ((2147483647 : Int) < d.snd.fst) || decide ((0 : Int) < (↑x : Int)) && decide (d.fst ≤ d_1.fst)) (([] : List Go.Eng.Res) = [] ∧ Ent.one (SV.c (SC.v (Value.bool true))) = Ent.one (SV.c (SC.v (Value.bool false)))) (InR IntKind.i64 ((↑x : Int) + (1 : Int)) ∧ ∃ x', x' ≤ u.length ∧ (SV.c (SC.v (Value.int IntKind.i64 ((↑x : Int) + (1 : Int)))) = SV.c (SC.v (Value.int IntKind.i64 (↑x' : Int))) ∧ True) ∧ ([] : List (Go.Eng.Gd × Go.Eng.Res)) = [] ∧ u.length - x' < u.length - x)) (([] : List Go.Eng.Res) = [] ∧ Ent.one (SV.c (SC.v (Value.bool true))) = Ent.one (SV.c (SC.v (Value.bool true)))) := by
  obtain ⟨hl, hs, hc⟩ : okC u := hpre
  refine ⟨⟨0, by omega, ⟨rfl, trivial⟩, rfl⟩, fun x hx => br_iff.2 ⟨fun g => ?_, fun g => ⟨rfl, rfl⟩⟩⟩
  simp only [decide_eq_true_eq] at g
  refine ⟨⟨by omega, by omega⟩, fun (d : TkD) hd => ⟨fun q => InR_i64.2 (by omega), fun q => ?_, fun (d1 : TkD) hd1 => br_iff.2 ⟨fun q => ?_, fun _ => ⟨InR_i64.2 (by omega), x + 1, by omega, ⟨rfl, trivial⟩, rfl, by omega⟩⟩⟩⟩
  · rw [Bool.and_eq_true, decide_eq_true_eq] at q
    omega
  · exfalso
    have hd : u[x]? = some d := hd
    have bd := hc d (List.mem_of_getElem? hd)
    have n1 : (decide (d.2.1 < 1) || decide (2147483647 < d.2.1)) = false := by
      rw [decide_eq_false (show ¬ d.2.1 < 1 by omega), decide_eq_false (show ¬ 2147483647 < d.2.1 by omega)]; rfl
    rw [n1, Bool.false_or, Bool.and_eq_true, decide_eq_true_eq, decide_eq_true_eq] at q
    have hd1 := hd1 (by rw [n1, Bool.not_false, Bool.and_true]; exact decide_eq_true q.1)
    rw [show ((x : Int) - 1).toNat = x - 1 by omega] at hd1
    have h1 := srt_lt hs (show x - 1 < x by omega) hd1 hd
    have q2 : d.1 ≤ d1.1 := q.2
    exact absurd h1 (by omega)
set_option maxHeartbeats 2000000 in
set_option maxRecDepth 100000 in
theorem f30_met : Go.Eng.Met Tryd.prog cx0.gd 30 ctCkV :=
  (met_all (cx := cx0) (n := 36) (cl := cl30) (il := il30) (hl := hl30) (ml := ml30) (rc := []) (lits := []) (suf := []) (by kernel_rfl) tis_ok trivial trivial trivial trivial Tryd.func30 (by kernel_rfl) (by kernel_rfl) rfl (by kernel_rfl) (by kernel_rfl) (by simp) fun d hd => by
    obtain ⟨u, ⟨⟩⟩ := d
    exact ex_of (ann30 u) (f30_vc u hd) (by kernel_rfl)).met
/-- Where the comparison stands: k ticks of the first are done, and what lies before j in the second is below what is left. -/
def belI (u v : List TkD) (k j : Nat) : Prop := k ≤ u.length ∧ j ≤ v.length ∧ (∀ x < k, ∀ t, u[x]? = some t → ∃ s ∈ v, s.1 = t.1 ∧ t.2.1 ≤ s.2.1) ∧ ∀ y < j, ∀ s, v[y]? = some s → ∀ x, k ≤ x → ∀ t, u[x]? = some t → s.1 < t.1
def belJ (u v : List TkD) (k j : Nat) : Prop := belI u v k j
@[reducible] def ctBel : CT := { ps := [.sl shTk, .sl shTk], pre := fun d => okC d.1 ∧ okC d.2.1, res := fun d => ([], vB (belM d.1 d.2.1)) }
@[reducible] def cl56 : List (Nat × CT) := []
@[reducible] def ann56 (u : List TkD) (v : List TkD) : Nat → Option (St → Ann) := fun n => match n with
  | 3 => some fun s => .inv { α := Nat × Nat, slots := fun w => [(10, .c (.v (.int .i64 w.1))), (5, .c (.v (.int .i64 w.2)))], res := fun w => [], inv := fun w => belI u v w.1 w.2, meas := fun w => u.length - w.1 }
  | 5 => some fun s => .inv { α := Nat, slots := fun w => [(5, .c (.v (.int .i64 w)))], res := fun w => [], inv := fun w => belJ u v (slotI s 10).toNat w, meas := fun w => v.length - w }
  | _ => none
@[reducible] def il56 : List (Nat × IP) := []
@[reducible] def hl56 : List (Nat × Nat × CT) := []
@[reducible] def ml56 : List (Nat × MK) := []
set_option maxRecDepth 100000 in
theorem f56_vc (u : List TkD) (v : List TkD) (hpre : ctBel.pre (u, v, ())) :
    (∃ x : Nat × Nat, belI u v x.fst x.snd ∧ (SV.c (SC.v (Value.int IntKind.i64 (0 : Int))) = SV.c (SC.v (Value.int IntKind.i64 (↑x.fst : Int))) ∧ SV.c (SC.v (Value.int IntKind.i64 (0 : Int))) = SV.c (SC.v (Value.int IntKind.i64 (↑x.snd : Int))) ∧ True) ∧ ([] : List (Go.Eng.Gd × Go.Eng.Res)) = []) ∧ ∀ (x : Nat × Nat), belI u v x.fst x.snd → br (decide ((↑x.fst : Int) < (↑u.length : Int))) (((0 : Int) ≤ (↑x.fst : Int) ∧ (↑x.fst : Int) < (↑u.length : Int)) ∧ ∀ (d : I6.den × (I6.pair Sh.unit).den), u[(↑x.fst : Int).toNat]? = some d → (∃ x_1, belJ u v (↑x.fst : Int).toNat x_1 ∧ (SV.c (SC.v (Value.int IntKind.i64 (↑x.snd : Int))) = SV.c (SC.v (Value.int IntKind.i64 (↑x_1 : Int))) ∧ True) ∧ [(([] : Go.Eng.Gd), Res.blk (57 : Nat) [SC.v (Value.int IntKind.i64 d.fst), SC.v (Value.int IntKind.i64 d.snd.fst)])] = [(([] : Go.Eng.Gd), Res.blk (57 : Nat) [SC.v (Value.int IntKind.i64 d.fst), SC.v (Value.int IntKind.i64 d.snd.fst)])]) ∧ ∀ (x_1 : Nat), belJ u v (↑x.fst : Int).toNat x_1 → (decide ((↑x_1 : Int) < (↑v.length : Int)) = true → (0 : Int) ≤ (↑x_1 : Int) ∧ (↑x_1 : Int) < (↑v.length : Int)) ∧ ∀ (d_1 : I6.den × (I6.pair Sh.unit).den), (decide ((↑x_1 : Int) < (↑v.length : Int)) = true → v[(↑x_1 : Int).toNat]? = some d_1) → br (decide ((↑x_1 : Int) < (↑v.length : Int)) && decide (d_1.fst < d.fst)) (InR IntKind.i64 ((↑x_1 : Int) + (1 : Int)) ∧ ∃ x', belJ u v (↑x.fst : Int).toNat x' ∧ (SV.c (SC.v (Value.int IntKind.i64 ((↑x_1 : Int) + (1 : Int)))) = SV.c (SC.v (Value.int IntKind.i64 (↑x' : Int))) ∧ True) ∧ [(([] : Go.Eng.Gd), Res.blk (57 : Nat) [SC.v (Value.int IntKind.i64 d.fst), SC.v (Value.int IntKind.i64 d.snd.fst)])] = [(([] : Go.Eng.Gd), Res.blk (57 : Nat) [SC.v (Value.int IntKind.i64 d.fst), SC.v (Value.int IntKind.i64 d.snd.fst)])] ∧ v.length - x' < v.length - x_1) (((!decide ((↑x_1 : Int) = (↑v.length : Int))) = true → (0 : Int) ≤ (↑x_1 : Int) ∧ (↑x_1 : Int) < (↑v.length : Int)) ∧ ∀ (d_2 : I6.den × (I6.pair Sh.unit).den), ((!decide ((↑x_1 : Int) = (↑v.length : Int))) = true → v[(↑x_1 : Int).toNat]? = some d_2) → br (decide ((↑x_1 : Int) = (↑v.length : Int)) || !decide (d_2.fst = d.fst)) (([] : List Go.Eng.Res) = [] ∧ Ent.one (SV.c (SC.v (Value.bool (belM u v)))) = Ent.one (SV.c (SC.v (Value.bool false)))) (((0 : Int) ≤ (↑x_1 : Int) ∧ (↑x_1 : Int) < (↑v.length : Int)) ∧ ∀ (d_3 : I6.den × (I6.pair Sh.unit).den), v[(↑x_1 : Int).toNat]? = some d_3 → ((!(true && d_3.fst == d.fst && d_3.snd.fst == d.snd.fst)) = true → (0 : Int) ≤ (↑x_1 : Int) ∧ (↑x_1 : Int) < (↑v.length : Int)) ∧ ∀ (d_4 : I6.den × (I6.pair Sh.unit).den), ((!(true && d_3.fst == d.fst && d_3.snd.fst == d.snd.fst)) = true → v[(↑x_1 : Int).toNat]? = some d_4) → br (!(true && d_3.fst == d.fst && d_3.snd.fst == d.snd.fst) && decide (d_4.snd.fst < d.snd.fst)) (([] : List Go.Eng.Res) = [] ∧ Ent.one (SV.c (SC.v (Value.bool (belM u v)))) = Ent.one (SV.c (SC.v (Value.bool false)))) (InR IntKind.i64 ((↑x.fst : Int) + (1 : Int)) ∧ ∃ x' : Nat × Nat, belI u v x'.fst x'.snd ∧ (SV.c (SC.v (Value.int IntKind.i64 ((↑x.fst : Int) + (1 : Int)))) = SV.c (SC.v (Value.int IntKind.i64 (↑x'.fst : Int))) ∧ SV.c (SC.v (Value.int IntKind.i64 (↑x_1 : Int))) = SV.c (SC.v (Value.int IntKind.i64 (↑x'.snd : Int))) ∧ True) ∧ ([] : List (Go.Eng.Gd × Go.Eng.Res)) = [] ∧ u.length - x'.fst < u.length - x.fst)))) (([] : List Go.Eng.Res) = [] ∧ Ent.one (SV.c (SC.v (Value.bool (belM u v)))) = Ent.one (SV.c (SC.v (Value.bool true)))) := by
  obtain ⟨⟨hl, hs, hc⟩, hl2, hs2, hc2⟩ : okC u ∧ okC v := hpre
  have no : ∀ {d : TkD} {k : Nat}, u[k]? = some d → (∀ s ∈ v, s.1 = d.1 → s.2.1 < d.2.1) → belM u v = false := by
    intro d k hd h
    rw [← Bool.not_eq_true]
    intro q
    simp only [belM, List.all_eq_true, List.any_eq_true, Bool.and_eq_true, beq_iff_eq, decide_eq_true_eq] at q
    obtain ⟨s, hm, h1, h2⟩ := q d (List.mem_of_getElem? hd)
    have := h s hm h1
    omega
  refine ⟨⟨(0, 0), ⟨Nat.zero_le _, Nat.zero_le _, fun x hx => absurd hx (Nat.not_lt_zero x), fun y hy => absurd hy (Nat.not_lt_zero y)⟩, ⟨rfl, rfl, trivial⟩, rfl⟩, ?_⟩
  rintro ⟨k, j⟩ hx
  obtain ⟨i1, i2, i3, i4⟩ := hx
  have i1 : k ≤ u.length := i1
  refine br_iff.2 ⟨fun g => ?_, fun g => ?_⟩
  · have g : decide ((k : Int) < (u.length : Int)) = true := g
    rw [decide_eq_true_eq] at g
    have hk : k < u.length := by omega
    refine ⟨⟨Int.natCast_nonneg k, g⟩, fun (d : TkD) hd => ⟨⟨j, ⟨i1, i2, i3, i4⟩, ⟨rfl, trivial⟩, rfl⟩, fun w hw => ?_⟩⟩
    have hd : u[k]? = some d := hd
    obtain ⟨-, j2, j3, j4⟩ : belI u v k w := hw
    refine ⟨fun q => by rw [decide_eq_true_eq] at q; omega, fun (d1 : TkD) hd1 => br_iff.2 ⟨fun g2 => ?_, fun g2 => ?_⟩⟩
    · rw [Bool.and_eq_true, decide_eq_true_eq, decide_eq_true_eq] at g2
      have hd1 : v[w]? = some d1 := hd1 (decide_eq_true g2.1)
      refine ⟨InR_i64.2 (by omega), w + 1, ⟨i1, by omega, j3, fun y hy s hsy x hx t ht => ?_⟩, ⟨rfl, trivial⟩, rfl, by omega⟩
      by_cases hyw : y = w
      · subst hyw
        rw [hd1] at hsy
        cases hsy
        have hx : k ≤ x := hx
        by_cases hxk : x = k
        · subst hxk
          rw [hd] at ht
          cases ht
          exact g2.2
        · have := srt_lt hs (show k < x by omega) hd ht
          have g22 : d1.1 < d.1 := g2.2
          omega
      · exact j4 y (by omega) s hsy x hx t ht
    · have lo : ∀ y s, y < w → v[y]? = some s → s.1 < d.1 := fun y s hy hsy => j4 y hy s hsy k (Nat.le_refl k) d hd
      have j2 : w ≤ v.length := j2
      refine ⟨fun q => ?_, fun (d2 : TkD) hd2 => br_iff.2 ⟨fun g3 => ?_, fun g3 => ?_⟩⟩
      · simp only [Bool.not_eq_true', decide_eq_false_iff_not] at q
        omega
      · refine ⟨rfl, ?_⟩
        rw [no hd]
        intro s hm he
        exfalso
        obtain ⟨y, hy, rfl⟩ := List.getElem_of_mem hm
        have e1 : v[y]? = some v[y] := List.getElem?_eq_getElem hy
        rcases Nat.lt_or_ge y w with h | h
        · have := lo y _ h e1; omega
        · have hwl : w < v.length := by omega
          have hd1 : v[w]? = some d1 := hd1 (decide_eq_true (by omega))
          have hd2 : v[w]? = some d2 := hd2 (by rw [decide_eq_false (by omega)]; rfl)
          rw [hd1] at hd2
          cases hd2
          rw [decide_eq_true (show (w : Int) < (v.length : Int) by omega), Bool.true_and, decide_eq_false_iff_not] at g2
          rw [decide_eq_false (show ¬ (w : Int) = (v.length : Int) by omega), Bool.false_or] at g3
          simp only [Bool.not_eq_true', decide_eq_false_iff_not] at g3
          have g2 : ¬ d1.1 < d.1 := g2
          have g3 : ¬ d1.1 = d.1 := g3
          have : d1.1 ≤ v[y].1 := by
            by_cases hyw : y = w
            · subst hyw
              rw [e1] at hd1
              cases hd1
              omega
            · have := srt_lt hs2 (show w < y by omega) hd1 e1
              omega
          omega
      · rw [Bool.or_eq_false_iff, decide_eq_false_iff_not] at g3
        simp only [Bool.not_eq_false', decide_eq_true_eq] at g3
        have hwl : w < v.length := by omega
        have hd2 : v[w]? = some d2 := hd2 (by rw [decide_eq_false g3.1]; rfl)
        refine ⟨⟨by omega, by omega⟩, fun (d3 : TkD) hd3 => ⟨fun _ => ⟨by omega, by omega⟩, fun (d4 : TkD) hd4 => ?_⟩⟩
        have hd3 : v[w]? = some d3 := hd3
        have e3 : d2 = d3 := Option.some.inj (hd2.symm.trans hd3)
        subst e3
        have g32 : d2.1 = d.1 := g3.2
        have uq : ∀ s ∈ v, s.1 = d.1 → s = d2 := by
          intro s hm he
          obtain ⟨y, hy, rfl⟩ := List.getElem_of_mem hm
          have e1 : v[y]? = some v[y] := List.getElem?_eq_getElem hy
          rcases Nat.lt_trichotomy y w with h | h | h
          · have := lo y _ h e1; omega
          · subst h
            exact Option.some.inj (e1.symm.trans hd2)
          · have := srt_lt hs2 h hd2 e1
            omega
        refine br_iff.2 ⟨fun g4 => ?_, fun g4 => ?_⟩
        · rw [Bool.and_eq_true, decide_eq_true_eq] at g4
          have hd4 : v[w]? = some d4 := hd4 g4.1
          rw [hd2] at hd4
          cases hd4
          refine ⟨rfl, ?_⟩
          rw [no hd fun s hm he => by rw [uq s hm he]; exact g4.2]
        · have le : d.2.1 ≤ d2.2.1 := by
            cases hq : (!(true && d2.1 == d.1 && d2.2.1 == d.2.1)) with
            | false =>
              simp only [Bool.not_eq_false', Bool.true_and, Bool.and_eq_true, beq_iff_eq] at hq
              omega
            | true =>
              have hd4 : v[w]? = some d4 := hd4 hq
              rw [hd2] at hd4
              cases hd4
              rw [hq, Bool.true_and, decide_eq_false_iff_not] at g4
              have g4 : ¬ d2.2.1 < d.2.1 := g4
              omega
          refine ⟨InR_i64.2 (by show _ ≤ (k : Int) + 1 ∧ (k : Int) + 1 ≤ _; omega), (k + 1, w), ⟨hk, j2, fun x hx t ht => ?_, fun y hy s hsy x hx t ht => j4 y hy s hsy x (by omega) t ht⟩, ⟨rfl, rfl, trivial⟩, rfl, by show u.length - (k + 1) < u.length - k; omega⟩
          by_cases hxk : x = k
          · subst hxk
            rw [hd] at ht
            cases ht
            exact ⟨d2, List.mem_of_getElem? hd2, g3.2, le⟩
          · exact i3 x (by show x < k; omega) t ht
  · have g : decide ((k : Int) < (u.length : Int)) = false := g
    rw [decide_eq_false_iff_not] at g
    refine ⟨rfl, ?_⟩
    have e : belM u v = true := by
      simp only [belM, List.all_eq_true, List.any_eq_true, Bool.and_eq_true, beq_iff_eq, decide_eq_true_eq]
      intro t ht
      obtain ⟨x, hx, rfl⟩ := List.getElem_of_mem ht
      exact i3 x (by show x < k; omega) _ (List.getElem?_eq_getElem hx)
    rw [e]
set_option maxHeartbeats 2000000 in
set_option maxRecDepth 100000 in
theorem f56_met : Go.Eng.Met Tryd.prog cx0.gd 56 ctBel :=
  (met_all (cx := cx0) (n := 61) (cl := cl56) (il := il56) (hl := hl56) (ml := ml56) (rc := []) (lits := []) (suf := []) (by kernel_rfl) tis_ok trivial trivial trivial trivial Tryd.func56 (by kernel_rfl) (by kernel_rfl) rfl (by kernel_rfl) (by kernel_rfl) (by simp) fun d hd => by
    obtain ⟨u, v, ⟨⟩⟩ := d
    exact ex_of (ann56 u v) (f56_vc u v hd) (by kernel_rfl)).met
@[reducible] def ctLeq : CT := { ps := [.sl shTk, .sl shTk], pre := fun d => okC d.1 ∧ okC d.2.1, res := fun d => ([], vB (belM d.1 d.2.1)) }
@[reducible] def cl31 : List (Nat × CT) := [(30, ctCkV), (56, ctBel)]
@[reducible] def ann31 (u : List TkD) (v : List TkD) : Nat → Option (St → Ann) := fun _ => none
@[reducible] def il31 : List (Nat × IP) := []
@[reducible] def hl31 : List (Nat × Nat × CT) := []
@[reducible] def ml31 : List (Nat × MK) := []
set_option maxRecDepth 100000 in
theorem f31_vc (u : List TkD) (v : List TkD) (hpre : ctLeq.pre (u, v, ())) :
    okC u ∧ (true = true → okC v) ∧ (true = true → okC u ∧ okC v) ∧ ([] : List Go.Eng.Res) = [] ∧ Ent.one (SV.c (SC.v (Value.bool (belM u v)))) = Ent.one (SV.c (SC.v (Value.bool (true && belM u v)))) := by
  exact ⟨hpre.1, fun _ => hpre.2, fun _ => hpre, rfl, rfl⟩
set_option maxHeartbeats 2000000 in
set_option maxRecDepth 100000 in
theorem f31_met : Go.Eng.Met Tryd.prog cx0.gd 31 ctLeq :=
  (met_all (cx := cx0) (n := 16) (cl := cl31) (il := il31) (hl := hl31) (ml := ml31) (rc := []) (lits := []) (suf := []) (by kernel_rfl) tis_ok ⟨f30_met, f56_met, trivial⟩ trivial trivial trivial Tryd.func31 (by kernel_rfl) (by kernel_rfl) rfl (by kernel_rfl) (by kernel_rfl) (by simp) fun d hd => by
    obtain ⟨u, v, ⟨⟩⟩ := d
    exact ex_of (ann31 u v) (f31_vc u v hd) (by kernel_rfl)).met
theorem clk_at {l : List ED} (hl : l.length ≤ 512) {k : Nat} {d : List TkD} (h : (clkM l)[k]? = some d) : d = ckL l k ∧ k < l.length ∧ okC d := by
  unfold clkM at h
  rw [if_neg (by omega)] at h
  obtain ⟨hk, e⟩ := List.getElem?_eq_some_iff.1 h
  rw [clkP_len] at hk
  have e : d = ckL l k := by rw [← e]; simp [clkP]
  refine ⟨e, hk, ?_⟩
  subst e
  have h1 := ckA_len l k k
  refine ⟨by unfold ckL; rw [List.length_map]; omega, toT_up (ckA_up l k k), fun t ht => ?_⟩
  obtain ⟨p, hp, rfl⟩ := List.mem_map.1 ht
  have := ckA_bnd l k k p hp
  show 1 ≤ p.2 ∧ p.2 ≤ 2147483647
  omega
theorem bef_in2 {l : List ED} (hl : l.length ≤ 512) {a b : Nat} (ha : a < l.length) (hb : b < l.length) : befM l a b = bfL l a b := by
  unfold befM
  rw [if_neg]
  · rfl
  · unfold badI; omega
@[reducible] def ctL8 : CT := { ps := [.sl shE], pre := fun d => ∀ e ∈ d.1, bE e, res := fun d => ([], vB (true)) }
@[reducible] noncomputable def cl8 : List (Nat × CT) := [(9, ctLiv), (29, ctVd), (17, ctClk), (30, ctCkV), (31, ctLeq), (10, ctBef)]
@[reducible] noncomputable def ann8 (l : List ED) : Nat → Option (St → Ann) := fun n => match n with
  | 4 => some fun _ => .inv { α := Nat, slots := fun k => [(3, .c (.v (.int .i64 k)))], res := fun k => [], inv := fun k => k ≤ l.length ∧ ∀ j < k, ∀ e, l[j]? = some e → validM e = true, meas := fun k => l.length - k }
  | 12 => some fun _ => .inv { α := Nat, slots := fun k => [(5, .c (.v (.int .i64 k)))], res := fun k => [], inv := fun k => k ≤ (clkM l).length, meas := fun k => (clkM l).length - k }
  | 17 => some fun _ => .inv { α := Nat, slots := fun k => [(6, .c (.v (.int .i64 k)))], res := fun k => [], inv := fun k => k ≤ (clkM l).length, meas := fun k => (clkM l).length - k }
  | _ => none
@[reducible] def il8 : List (Nat × IP) := []
@[reducible] def hl8 : List (Nat × Nat × CT) := []
@[reducible] noncomputable def ml8 : List (Nat × MK) := []
set_option maxRecDepth 100000 in
theorem f8_vc (l : List ED) (hpre : ctL8.pre (l, ())) :
    br (decide ((40 : Int) < (↑l.length : Int))) (True ∧ ([] : List Go.Eng.Res) = [] ∧ Ent.one (SV.c (SC.v (Value.bool true))) = Ent.one (SV.c (SC.v (Value.bool true)))) ((∃ x, (x ≤ l.length ∧ ∀ (j : Nat), j < x → ∀ (e : Int × Int × Int × Int × Int × Int × Int × Int × Int × Unit), l[j]? = some e → validM e = true) ∧ (SV.c (SC.v (Value.int IntKind.i64 (0 : Int))) = SV.c (SC.v (Value.int IntKind.i64 (↑x : Int))) ∧ True) ∧ ([] : List (Go.Eng.Gd × Go.Eng.Res)) = []) ∧ ∀ (x : Nat), (x ≤ l.length ∧ ∀ (j : Nat), j < x → ∀ (e : Int × Int × Int × Int × Int × Int × Int × Int × Int × Unit), l[j]? = some e → validM e = true) → br (decide ((↑x : Int) < (↑l.length : Int))) (((0 : Int) ≤ (↑x : Int) ∧ (↑x : Int) < (↑l.length : Int)) ∧ ∀ (d : I6.den × (I6.pair (I6.pair (I6.pair (I6.pair (I6.pair (I6.pair shTk)))))).den), l[(↑x : Int).toNat]? = some d → True ∧ br (!validM d) (True ∧ ([] : List Go.Eng.Res) = [] ∧ Ent.one (SV.c (SC.v (Value.bool true))) = Ent.one (SV.c (SC.v (Value.bool true)))) (InR IntKind.i64 ((↑x : Int) + (1 : Int)) ∧ ∃ x', (x' ≤ l.length ∧ ∀ (j : Nat), j < x' → ∀ (e : Int × Int × Int × Int × Int × Int × Int × Int × Int × Unit), l[j]? = some e → validM e = true) ∧ (SV.c (SC.v (Value.int IntKind.i64 ((↑x : Int) + (1 : Int)))) = SV.c (SC.v (Value.int IntKind.i64 (↑x' : Int))) ∧ True) ∧ ([] : List (Go.Eng.Gd × Go.Eng.Res)) = [] ∧ l.length - x' < l.length - x)) ((∀ (e : I6.den × (I6.pair (I6.pair (I6.pair (I6.pair (I6.pair (I6.pair shTk)))))).den), e ∈ l → bE e) ∧ br (!decide ((↑(clkM l).length : Int) = (↑l.length : Int))) (([] : List Go.Eng.Res) = [] ∧ Ent.one (SV.c (SC.v (Value.bool true))) = Ent.one (SV.c (SC.v (Value.bool false)))) ((∃ x, x ≤ (clkM l).length ∧ (SV.c (SC.v (Value.int IntKind.i64 (0 : Int))) = SV.c (SC.v (Value.int IntKind.i64 (↑x : Int))) ∧ True) ∧ ([] : List (Go.Eng.Gd × Go.Eng.Res)) = []) ∧ ∀ (x : Nat), x ≤ (clkM l).length → br (decide ((↑x : Int) < (↑(clkM l).length : Int))) (((0 : Int) ≤ (↑x : Int) ∧ (↑x : Int) < (↑(clkM l).length : Int)) ∧ ∀ (d : List shTk.den), (clkM l)[(↑x : Int).toNat]? = some d → okC d ∧ (∃ x, x ≤ (clkM l).length ∧ (SV.c (SC.v (Value.int IntKind.i64 (0 : Int))) = SV.c (SC.v (Value.int IntKind.i64 (↑x : Int))) ∧ True) ∧ ([] : List (Go.Eng.Gd × Go.Eng.Res)) = []) ∧ ∀ (x_1 : Nat), x_1 ≤ (clkM l).length → br (decide ((↑x_1 : Int) < (↑(clkM l).length : Int))) (((!decide ((↑x : Int) = (↑x_1 : Int))) = true → (0 : Int) ≤ (↑x : Int) ∧ (↑x : Int) < (↑(clkM l).length : Int)) ∧ ∀ (d : List shTk.den), ((!decide ((↑x : Int) = (↑x_1 : Int))) = true → (clkM l)[(↑x : Int).toNat]? = some d) → ((!decide ((↑x : Int) = (↑x_1 : Int))) = true → (0 : Int) ≤ (↑x_1 : Int) ∧ (↑x_1 : Int) < (↑(clkM l).length : Int)) ∧ ∀ (d_1 : List shTk.den), ((!decide ((↑x : Int) = (↑x_1 : Int))) = true → (clkM l)[(↑x_1 : Int).toNat]? = some d_1) → ((!decide ((↑x : Int) = (↑x_1 : Int))) = true → ∀ (e : I6.den × (I6.pair (I6.pair (I6.pair (I6.pair (I6.pair (I6.pair shTk)))))).den), e ∈ l → bE e) ∧ ((!decide ((↑x : Int) = (↑x_1 : Int))) = true → okC d ∧ okC d_1) ∧ br (!decide ((↑x : Int) = (↑x_1 : Int)) && !befM l (↑x : Int) (↑x_1 : Int) == belM d d_1) (([] : List Go.Eng.Res) = [] ∧ Ent.one (SV.c (SC.v (Value.bool true))) = Ent.one (SV.c (SC.v (Value.bool false)))) (InR IntKind.i64 ((↑x_1 : Int) + (1 : Int)) ∧ ∃ x', x' ≤ (clkM l).length ∧ (SV.c (SC.v (Value.int IntKind.i64 ((↑x_1 : Int) + (1 : Int)))) = SV.c (SC.v (Value.int IntKind.i64 (↑x' : Int))) ∧ True) ∧ ([] : List (Go.Eng.Gd × Go.Eng.Res)) = [] ∧ (clkM l).length - x' < (clkM l).length - x_1)) (InR IntKind.i64 ((↑x : Int) + (1 : Int)) ∧ ∃ x', x' ≤ (clkM l).length ∧ (SV.c (SC.v (Value.int IntKind.i64 ((↑x : Int) + (1 : Int)))) = SV.c (SC.v (Value.int IntKind.i64 (↑x' : Int))) ∧ True) ∧ ([] : List (Go.Eng.Gd × Go.Eng.Res)) = [] ∧ (clkM l).length - x' < (clkM l).length - x)) (True ∧ ([] : List Go.Eng.Res) = [] ∧ Ent.one (SV.c (SC.v (Value.bool true))) = Ent.one (SV.c (SC.v (Value.bool true))))))) := by
  have hb : ∀ e ∈ l, bE e := hpre
  refine br_iff.2 ⟨fun _ => ⟨trivial, rfl, rfl⟩, fun h => ?_⟩
  simp only [decide_eq_false_iff_not] at h
  have hl : l.length ≤ 512 := by omega
  refine ⟨⟨0, ⟨by omega, fun j hj => by omega⟩, ⟨rfl, trivial⟩, rfl⟩, fun x hx => br_iff.2 ⟨fun g => ?_, fun g => ?_⟩⟩
  · simp only [decide_eq_true_eq] at g
    refine ⟨⟨by omega, by omega⟩, fun d hd => ⟨trivial, br_iff.2 ⟨fun _ => ⟨trivial, rfl, rfl⟩, fun q => ⟨InR_i64.2 (by omega), x + 1, ⟨by omega, fun j hj e he => ?_⟩, ⟨rfl, trivial⟩, rfl, by omega⟩⟩⟩⟩
    by_cases hjx : j = x
    · subst hjx
      have hd : l[j]? = some d := hd
      rw [hd] at he
      cases he
      simpa using q
    · exact hx.2 j (by omega) e he
  · simp only [decide_eq_false_iff_not] at g
    have hv : ∀ e ∈ l, validM e = true := by
      intro e he
      obtain ⟨j, hj, rfl⟩ := List.getElem_of_mem he
      exact hx.2 j (by omega) _ (List.getElem?_eq_getElem hj)
    have cl : (clkM l).length = l.length := by
      unfold clkM
      rw [if_neg (by omega), clkP_len]
    refine ⟨hb, br_iff.2 ⟨fun q => by rw [cl] at q; simp at q, fun _ => ⟨⟨0, by omega, ⟨rfl, trivial⟩, rfl⟩, fun x hx => br_iff.2 ⟨fun g => ?_, fun g => ⟨trivial, rfl, rfl⟩⟩⟩⟩⟩
    simp only [decide_eq_true_eq] at g
    refine ⟨⟨by omega, by omega⟩, fun d hd => ⟨(clk_at hl hd).2.2, ⟨0, by omega, ⟨rfl, trivial⟩, rfl⟩, fun y hy => br_iff.2 ⟨fun g2 => ?_, fun g2 => ⟨InR_i64.2 (by omega), x + 1, by omega, ⟨rfl, trivial⟩, rfl, by omega⟩⟩⟩⟩
    simp only [decide_eq_true_eq] at g2
    refine ⟨fun _ => ⟨by omega, by omega⟩, fun c hc => ⟨fun _ => ⟨by omega, by omega⟩, fun c2 hc2 => ⟨fun _ => hb, fun q => ⟨(clk_at hl (hc q)).2.2, (clk_at hl (hc2 q)).2.2⟩, br_iff.2 ⟨fun q => ?_, fun _ => ⟨InR_i64.2 (by omega), y + 1, by omega, ⟨rfl, trivial⟩, rfl, by omega⟩⟩⟩⟩⟩
    exfalso
    rw [Bool.and_eq_true] at q
    obtain ⟨q1, q2⟩ := q
    obtain ⟨e1, l1, _⟩ := clk_at hl (hc q1)
    obtain ⟨e2, l2, _⟩ := clk_at hl (hc2 q1)
    have e1 : c = ckL l x := e1
    have e2 : c2 = ckL l y := e2
    simp only [Bool.not_eq_true', decide_eq_false_iff_not] at q1
    rw [e1, e2, bef_in2 hl (show x < l.length by omega) (show y < l.length by omega), clk_le hv (show x < l.length by omega) (show y < l.length by omega) (by omega)] at q2
    simp at q2
set_option maxHeartbeats 2000000 in
set_option maxRecDepth 100000 in
theorem f8_met : Go.Eng.Met Tryd.prog cx0.gd 8 ctL8 :=
  (met_all (cx := cx0) (n := 69) (cl := cl8) (il := il8) (hl := hl8) (ml := ml8) (rc := []) (lits := []) (suf := []) (by kernel_rfl) tis_ok ⟨f9_met, f29_met, f17_met, f30_met, f31_met, f10_met, trivial⟩ trivial trivial trivial Tryd.func8 (by kernel_rfl) (by kernel_rfl) rfl (by kernel_rfl) (by kernel_rfl) (by simp) fun d hd => by
    obtain ⟨l, ⟨⟩⟩ := d
    exact ex_of (ann8 l) (f8_vc l hd) (by kernel_rfl)).met
end Go.Proofs.YtigfbjjphegleaaDoor
set_option linter.unusedSimpArgs false
set_option linter.unusedVariables false
set_option maxRecDepth 1000000
namespace Go.Proofs.YtigfbjjphegleaaDoor
open Go Go.Eng Go.ChangeShapes Go.WideShapes Go.ChangeAt Go.RowKit
theorem own : ownKnob Tryd.prog.godebug = none := by kernel_rfl
theorem laidOut : laidOutB Tryd.prog = true := by kernel_rfl
theorem rowed : mapsRowed Tryd.prog = true := by kernel_rfl
theorem full : ∀ t e, t < Tryd.prog.types.size → Tryd.prog.underlying t = some (.slice e) → 0 < Tryd.prog.cellsOf e := slices_full_of _ (by kernel_rfl)
theorem gname0 : Tryd.prog.globalNamed "modelcheck/event.rows" = some 0 := by kernel_rfl
theorem gtype0 : (Tryd.prog.globals[0]?).map (·.type) = some 87 := by kernel_rfl
theorem gsok0 : (SOK Tryd.prog (.arr 17 shRow)).1 87 = true := by kernel_rfl
noncomputable def laidWorld (os : Os) : World :=
  { World.holding Tryd.prog os ⟨#[], #[], []⟩ with heap := ((World.holding Tryd.prog os ⟨#[], #[], []⟩).heap).modify 0 (lay #[.int .i64 7, .bool true, .int .i64 (-2147483648), .int .i64 2147483647, .bool false, .int .i64 (-1), .int .i64 1, .bool false, .int .i64 7, .bool true, .int .i64 0, .int .i64 0, .bool true, .int .i64 (-2), .int .i64 1, .bool true, .int .i64 7, .bool true, .int .i64 0, .int .i64 0, .bool true, .int .i64 0, .int .i64 4, .bool true, .int .i64 7, .bool false, .int .i64 0, .int .i64 0, .bool true, .int .i64 0, .int .i64 1, .bool true, .int .i64 7, .bool true, .int .i64 (-2147483648), .int .i64 2147483647, .bool true, .int .i64 (-2), .int .i64 1, .bool true, .int .i64 7, .bool true, .int .i64 (-2147483648), .int .i64 2147483647, .bool false, .int .i64 (-2), .int .i64 1, .bool false, .int .i64 0, .bool false, .int .i64 0, .int .i64 0, .bool false, .int .i64 (-2), .int .i64 0, .bool false, .int .i64 7, .bool true, .int .i64 (-2147483648), .int .i64 2147483647, .bool false, .int .i64 (-1), .int .i64 1, .bool false, .int .i64 3, .bool false, .int .i64 0, .int .i64 0, .bool false, .int .i64 (-2), .int .i64 2, .bool true, .int .i64 3, .bool false, .int .i64 0, .int .i64 0, .bool false, .int .i64 (-2), .int .i64 2, .bool true, .int .i64 3, .bool false, .int .i64 0, .int .i64 1, .bool false, .int .i64 (-2), .int .i64 2, .bool true, .int .i64 3, .bool false, .int .i64 0, .int .i64 0, .bool false, .int .i64 (-2), .int .i64 3, .bool true, .int .i64 3, .bool false, .int .i64 0, .int .i64 0, .bool false, .int .i64 (-2), .int .i64 3, .bool true, .int .i64 3, .bool false, .int .i64 0, .int .i64 1, .bool false, .int .i64 (-2), .int .i64 3, .bool true, .int .i64 3, .bool false, .int .i64 0, .int .i64 (-1), .bool false, .int .i64 (-2), .int .i64 3, .bool true, .int .i64 (-1), .bool false, .int .i64 0, .int .i64 0, .bool false, .int .i64 (-2), .int .i64 0, .bool false, .int .i64 (-1), .bool false, .int .i64 0, .int .i64 0, .bool false, .int .i64 (-2), .int .i64 0, .bool false]) }
theorem i64_of {n : Int} (h : (Lit.int .i64 n).wf = true) : -9223372036854775808 ≤ n ∧ n ≤ 9223372036854775807 := by
  simp [Lit.wf, IntKind.min, IntKind.max, IntKind.signed, IntKind.bits] at h; omega
namespace hbClocksL
theorem globs {W : World} (hL : laidMetH Tryd.prog Rows.hbClocksRow.laid W) : GlobOK gd0 (FH.all W) := by
  intro g p hp
  unfold gd0 at hp
  split at hp
  · cases hp; exact glob_open hL (by kernel_rfl) (n := "modelcheck/event.rows") (D := Rows.laid_modelcheck_event_rows) (by simp [Rows.hbClocksRow]) gname0 gtype0 gsok0 (by kernel_rfl)
  · cases hp
theorem laid_met (os : Os) : laidMet Tryd.prog Rows.hbClocksRow.laid ((laidWorld os).forCall (fun _ _ => 0) ⟨#[], #[.slice none 0 0], []⟩).memory :=
  laidMet_of_run' 20 (by kernel_rfl) (by kernel_rfl)
theorem reads (os : Os) {H : Type} (enc : TypeId × Value → H) : ∃ places, DataW.whole enc Tryd.prog ((laidWorld os).forCall (fun _ _ => 0) ⟨#[], #[.slice none 0 0], []⟩).memory Tryd.f8.params.toList Rows.hbClocksSpec.vars false (#[.slice none 0 0] : Array Value).toList 20 = some ([.nil], [], places) :=
  ⟨[], by kernel_rfl⟩
theorem lifted (os : Os) (started : os.Started) (H : Type) (enc : TypeId × Value → H) (F : Stop.Interp) :
    ReturnsInHanded {} Tryd.checked os 8 .any ((OpenSpec.ofChange Rows.hbClocksSpec).preRow enc Tryd.prog Tryd.f8 Rows.hbClocksRow.domain false Rows.hbClocksRow.laid) (((OpenSpec.ofChange Rows.hbClocksSpec).at F).post enc Tryd.prog Tryd.f8 false true false false) := by
  obtain ⟨places, hx⟩ := reads os enc
  refine returnsInHanded_of_row (C := Tryd.checked) (s := OpenSpec.ofChange Rows.hbClocksSpec) own started (by kernel_rfl) Tryd.func8
    (witness_row_at (enc := enc) (C := Tryd.checked) false (laidWorld os) #[.slice none 0 0] rfl (by kernel_rfl) (by kernel_rfl) (by kernel_rfl)
      (OpenSpec.preRow_of_cond 20 hx (by kernel_rfl) (fun k hk => by cases hk) (by kernel_rfl) (laid_met os))) ?_
  intro W base args ds gs before hval hW _ hcond hwt hL _ _
  refine call_true (fn := Tryd.f8) f8_met laidOut rowed full (by decide +kernel) (t := 4) (by kernel_rfl) (by kernel_rfl) rfl (by kernel_rfl) (fun _ => rfl) (fun d hd hwf => ?_) hval hW (globs hL)
  match ds, rdats_len hd with
  | [d0], _ => exact ⟨rfl, by exact fun e he => i64_of (hwf.1.2 e he).1⟩
theorem said : Rows.HbClocksSaid :=
  OpenClaim.holds_of_cond 8 Tryd.f8 rfl rfl rfl rfl rfl rfl rfl ⟨rfl, rfl, rfl, rfl, rfl⟩ rfl rfl rfl rfl rfl (by kernel_rfl) Tryd.func8 (by kernel_rfl)
    (of_decide_eq_true (by kernel_rfl)) (by unfold Func.isWrapper; first | (rw [if_pos (by decide +kernel)]; kernel_rfl) | (rw [if_neg (by decide +kernel)]; exact ⟨rfl, rfl⟩))
    (fun os started H enc _ F => by rw [OpenClaim.pre_eq_preRow]; exact lifted os started H enc F)
theorem plain (f : FuncId) (fn : Func) (hf : Tryd.pinned.checked.prog.funcNamed "modelcheck/modelchecklaw27.HbClocks" = some f) (hfn : Tryd.pinned.checked.prog.funcs[f]? = some fn) :
    false = Tryd.pinned.checked.prog.looks [] ∧ ∀ (j : Nat) t, fn.params[j]? = some t → Tryd.pinned.checked.prog.wantsStandIn t = false := by
  obtain rfl : f = 8 := Option.some.inj ((show Tryd.prog.funcNamed "modelcheck/modelchecklaw27.HbClocks" = some 8 by kernel_rfl).symm.trans hf) |>.symm
  obtain rfl : fn = Tryd.f8 := (Option.some.inj (Tryd.func8.symm.trans hfn)).symm
  refine ⟨by kernel_rfl, fun j t ht => ?_⟩
  have hm : t ∈ Tryd.f8.params.toList := List.mem_of_getElem? (by simpa using ht)
  have key : ∀ t ∈ Tryd.f8.params.toList, Tryd.prog.wantsStandIn t = false := by decide +kernel
  exact key t hm
theorem card : Rows.HbClocksCardSaid :=
  Claim7.holds_tied_plain_at .later [] _ _ _ _ said (fun _ h => by cases h) (by kernel_rfl) (fun _ h => by cases h) hbClocks_row_tie rfl ⟨rfl, rfl⟩ (by kernel_rfl) rfl plain (by kernel_rfl)
end hbClocksL
end Go.Proofs.YtigfbjjphegleaaDoor
