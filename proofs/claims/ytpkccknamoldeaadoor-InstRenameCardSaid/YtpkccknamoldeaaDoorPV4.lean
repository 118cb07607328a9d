/- The functions of the Inst chapter, part 4. -/
import Derived.Test.YtpkccknamoldeaaDoorPV3
import Derived.Test.YtpkccknamoldeaaDoorEngV
set_option linter.unusedSimpArgs false
set_option linter.unusedVariables false
set_option maxRecDepth 100000
namespace Go.Proofs.YtpkccknamoldeaaDoor
open Go Go.Eng

def hasI (l : List Int) (x : Int) : Bool := l.any fun y => decide (y = x)
@[reducible] def ct46 : CT := { ps := [.sl (.int .i64), .int .i64], pre := fun d => d.1.length ≤ 4611686018427387904, res := fun d => ([], vB (hasI d.1 d.2.1)) }
@[reducible] def cl46 : List (Nat × CT) := []
@[reducible] def ann46 (l : List Int) (x : Int) : Nat → Option (St → Ann) := fun k => match k with
  | 2 => some fun _ => .inv { α := Nat, slots := fun k => [(5, .c (.v (.int .i64 k)))], res := fun _ => [], inv := fun k => k ≤ l.length ∧ ∀ j, j < k → ∀ b, l[j]? = some b → ¬ (b = x), meas := fun k => l.length - k }
  | _ => none
set_option maxRecDepth 100000 in
theorem f46_vc (l : List Int) (x : Int) (hpre : ct46.pre (l, x, ())) :
    (∃ x_1, (x_1 ≤ l.length ∧ ∀ (j : Nat), j < x_1 → ∀ (b : Int), l[j]? = some b → ¬b = x) ∧ (SV.c (SC.v (Value.int IntKind.i64 (0 : Int))) = SV.c (SC.v (Value.int IntKind.i64 (↑x_1 : Int))) ∧ True) ∧ ([] : List (Go.Eng.Gd × Go.Eng.Res)) = []) ∧ ∀ (x_1 : Nat), (x_1 ≤ l.length ∧ ∀ (j : Nat), j < x_1 → ∀ (b : Int), l[j]? = some b → ¬b = x) → br (decide ((↑x_1 : Int) < (↑l.length : Int))) (((0 : Int) ≤ (↑x_1 : Int) ∧ (↑x_1 : Int) < (↑l.length : Int)) ∧ ∀ (d : Int), l[(↑x_1 : Int).toNat]? = some d → br (decide (d = x)) (([] : List Go.Eng.Res) = [] ∧ Ent.one (SV.c (SC.v (Value.bool (hasI l x)))) = Ent.one (SV.c (SC.v (Value.bool true)))) (InR IntKind.i64 ((↑x_1 : Int) + (1 : Int)) ∧ ∃ x', (x' ≤ l.length ∧ ∀ (j : Nat), j < x' → ∀ (b : Int), l[j]? = some b → ¬b = x) ∧ (SV.c (SC.v (Value.int IntKind.i64 ((↑x_1 : Int) + (1 : Int)))) = SV.c (SC.v (Value.int IntKind.i64 (↑x' : Int))) ∧ True) ∧ ([] : List (Go.Eng.Gd × Go.Eng.Res)) = [] ∧ l.length - x' < l.length - x_1)) (([] : List Go.Eng.Res) = [] ∧ Ent.one (SV.c (SC.v (Value.bool (hasI l x)))) = Ent.one (SV.c (SC.v (Value.bool false)))) := by
  have hp : l.length ≤ 4611686018427387904 := hpre
  refine ⟨⟨0, ⟨by omega, fun j hj => by omega⟩, ⟨rfl, trivial⟩, rfl⟩, fun k hk => br_iff.2 ⟨fun h => ?_, fun h => ?_⟩⟩
  · simp only [decide_eq_true_eq] at h
    refine ⟨by omega, fun d hd => br_iff.2 ⟨fun h2 => ?_, fun h2 => ?_⟩⟩
    · simp only [decide_eq_true_eq] at h2
      have hm : hasI l x = true := List.any_eq_true.2 ⟨d, List.mem_of_getElem? hd, by simpa using h2⟩
      rw [hm]; exact ⟨rfl, rfl⟩
    · simp only [decide_eq_false_iff_not] at h2
      have hd : l[k]? = some d := by simpa using hd
      refine ⟨InR_i64.2 (by omega), k + 1, ⟨by omega, fun j hj b hb => ?_⟩, ⟨by simp, trivial⟩, rfl, by omega⟩
      by_cases hjx : j = k
      · subst hjx
        rw [hd] at hb; cases hb; exact h2
      · exact hk.2 j (by omega) b hb
  · simp only [decide_eq_false_iff_not] at h
    have hm : hasI l x = false := by
      unfold hasI
      rw [List.any_eq_false]
      intro b hb
      obtain ⟨j, hj⟩ := List.getElem?_of_mem hb
      have := (List.getElem?_eq_some_iff.1 hj).1
      simpa using hk.2 j (by omega) b hj
    rw [hm]; exact ⟨rfl, rfl⟩
set_option maxRecDepth 100000 in
theorem f46_met : Met Tryd.prog cx0.gd 46 ct46 :=
  met_of (cx := cx0) (n := 18) (cl := cl46) (by kernel_rfl) tis_ok trivial Tryd.func46 (by kernel_rfl) (by kernel_rfl) rfl (by kernel_rfl) (by kernel_rfl) fun d hd => by
    obtain ⟨l, x, ⟨⟩⟩ := d
    exact ⟨ann46 l x, cast (by kernel_rfl) (f46_vc l x hd)⟩
@[reducible] def ct13 : CT := { ps := [.sl (.int .i64), .sl (.int .i64)], pre := fun d => d.1.length ≤ 4611686018427387904, res := fun d => ([], vB (decide (d.1 = d.2.1))) }
@[reducible] def cl13 : List (Nat × CT) := []
@[reducible] def ann13 (l : List Int) (m : List Int) : Nat → Option (St → Ann) := fun k => match k with
  | 4 => some fun _ => .inv { α := Nat, slots := fun k => [(5, .c (.v (.int .i64 k)))], res := fun _ => [], inv := fun k => k ≤ l.length ∧ l.length = m.length ∧ ∀ j, j < k → l[j]? = m[j]?, meas := fun k => l.length - k }
  | _ => none
set_option maxRecDepth 100000 in
theorem f13_vc (l : List Int) (m : List Int) (hpre : ct13.pre (l, m, ())) :
    br (!decide ((↑l.length : Int) = (↑m.length : Int))) (([] : List Go.Eng.Res) = [] ∧ Ent.one (SV.c (SC.v (Value.bool (decide (l = m))))) = Ent.one (SV.c (SC.v (Value.bool false)))) ((∃ x, (x ≤ l.length ∧ l.length = m.length ∧ ∀ (j : Nat), j < x → l[j]? = m[j]?) ∧ (SV.c (SC.v (Value.int IntKind.i64 (0 : Int))) = SV.c (SC.v (Value.int IntKind.i64 (↑x : Int))) ∧ True) ∧ ([] : List (Go.Eng.Gd × Go.Eng.Res)) = []) ∧ ∀ (x : Nat), (x ≤ l.length ∧ l.length = m.length ∧ ∀ (j : Nat), j < x → l[j]? = m[j]?) → br (decide ((↑x : Int) < (↑l.length : Int))) (((0 : Int) ≤ (↑x : Int) ∧ (↑x : Int) < (↑l.length : Int)) ∧ ∀ (d : Int), l[(↑x : Int).toNat]? = some d → ((0 : Int) ≤ (↑x : Int) ∧ (↑x : Int) < (↑m.length : Int)) ∧ ∀ (d_1 : Int), m[(↑x : Int).toNat]? = some d_1 → br (!decide (d = d_1)) (([] : List Go.Eng.Res) = [] ∧ Ent.one (SV.c (SC.v (Value.bool (decide (l = m))))) = Ent.one (SV.c (SC.v (Value.bool false)))) (InR IntKind.i64 ((↑x : Int) + (1 : Int)) ∧ ∃ x', (x' ≤ l.length ∧ l.length = m.length ∧ ∀ (j : Nat), j < x' → l[j]? = m[j]?) ∧ (SV.c (SC.v (Value.int IntKind.i64 ((↑x : Int) + (1 : Int)))) = SV.c (SC.v (Value.int IntKind.i64 (↑x' : Int))) ∧ True) ∧ ([] : List (Go.Eng.Gd × Go.Eng.Res)) = [] ∧ l.length - x' < l.length - x)) (([] : List Go.Eng.Res) = [] ∧ Ent.one (SV.c (SC.v (Value.bool (decide (l = m))))) = Ent.one (SV.c (SC.v (Value.bool true))))) := by
  have hp : l.length ≤ 4611686018427387904 := hpre
  refine br_iff.2 ⟨fun h => ?_, fun h => ?_⟩
  · have hn : l ≠ m := by rintro rfl; simp at h
    rw [show decide (l = m) = false from decide_eq_false hn]; exact ⟨rfl, rfl⟩
  · have hl : l.length = m.length := by simp at h; omega
    refine ⟨⟨0, ⟨by omega, hl, fun j hj => by omega⟩, ⟨rfl, trivial⟩, rfl⟩, fun k hk => br_iff.2 ⟨fun h => ?_, fun h => ?_⟩⟩
    · simp only [decide_eq_true_eq] at h
      refine ⟨by omega, fun d hd => ⟨by omega, fun e he => br_iff.2 ⟨fun h2 => ?_, fun h2 => ?_⟩⟩⟩
      · have hd : l[k]? = some d := by simpa using hd
        have he : m[k]? = some e := by simpa using he
        have hn : l ≠ m := by rintro rfl; rw [hd] at he; cases he; simp at h2
        rw [show decide (l = m) = false from decide_eq_false hn]; exact ⟨rfl, rfl⟩
      · have hd : l[k]? = some d := by simpa using hd
        have he : m[k]? = some e := by simpa using he
        have hde : d = e := by simpa using h2
        refine ⟨InR_i64.2 (by omega), k + 1, ⟨by omega, hl, fun j hj => ?_⟩, ⟨by simp, trivial⟩, rfl, by omega⟩
        by_cases hjx : j = k
        · subst hjx; rw [hd, he, hde]
        · exact hk.2.2 j (by omega)
    · simp only [decide_eq_false_iff_not] at h
      have hlm : l = m := List.ext_getElem? fun j => by
        by_cases hj : j < k
        · exact hk.2.2 j hj
        · rw [List.getElem?_eq_none (by omega), List.getElem?_eq_none (by omega)]
      rw [show decide (l = m) = true from decide_eq_true hlm]; exact ⟨rfl, rfl⟩
set_option maxRecDepth 100000 in
theorem f13_met : Met Tryd.prog cx0.gd 13 ct13 :=
  met_of (cx := cx0) (n := 26) (cl := cl13) (by kernel_rfl) tis_ok trivial Tryd.func13 (by kernel_rfl) (by kernel_rfl) rfl (by kernel_rfl) (by kernel_rfl) fun d hd => by
    obtain ⟨l, m, ⟨⟩⟩ := d
    exact ⟨ann13 l m, cast (by kernel_rfl) (f13_vc l m hd)⟩
end Go.Proofs.YtpkccknamoldeaaDoor
