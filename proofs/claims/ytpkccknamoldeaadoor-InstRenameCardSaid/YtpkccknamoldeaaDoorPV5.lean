/- The functions of the Inst chapter, part 5. -/
import Derived.Test.YtpkccknamoldeaaDoorPV4
import Derived.Test.YtpkccknamoldeaaDoorEngV
set_option linter.unusedSimpArgs false
set_option linter.unusedVariables false
set_option maxRecDepth 100000
namespace Go.Proofs.YtpkccknamoldeaaDoor
open Go Go.Eng

theorem tw_len {p : Int → Bool} : ∀ {l : List Int} {k : Nat}, k ≤ l.length → (∀ j, j < k → ∀ b, l[j]? = some b → p b = true) → (∀ b, l[k]? = some b → p b = false) → (l.takeWhile p).length = k
  | [], k, h, _, _ => by simp at h; simp [h]
  | a :: l, 0, _, _, h2 => by simp [List.takeWhile_cons, h2 a rfl]
  | a :: l, k + 1, h, h1, h2 => by
    have h0 := h1 0 (by omega) a rfl
    simp only [List.takeWhile_cons, h0, if_true, List.length_cons]
    rw [tw_len (by simpa using h) (fun j hj b hb => h1 (j + 1) (by omega) b hb) (fun b hb => h2 b hb)]
def posI (l : List Int) (x : Int) : Nat := (l.takeWhile fun y => decide (y < x)).length
@[reducible] def ct47 : CT := { ps := [.sl (.int .i64), .int .i64], pre := fun d => d.1.length ≤ 1000000, res := fun d => ([.row 3 (.int .i64) (d.1.take (posI d.1 d.2.1) ++ [d.2.1] ++ d.1.drop (posI d.1 d.2.1))], .one (.c (.row 0))) }
@[reducible] def cl47 : List (Nat × CT) := []
@[reducible] def ann47 (l : List Int) (x : Int) : Nat → Option (St → Ann) := fun k => match k with
  | 2 => some fun _ => .inv { α := Nat, slots := fun k => [(5, .c (.v (.int .i64 k)))], res := fun _ => [], inv := fun k => k ≤ l.length ∧ ∀ j, j < k → ∀ b, l[j]? = some b → b < x, meas := fun k => l.length - k }
  | _ => none
set_option maxRecDepth 100000 in
theorem f47_vc (l : List Int) (x : Int) (hpre : ct47.pre (l, x, ())) :
    (∃ x_1, (x_1 ≤ l.length ∧ ∀ (j : Nat), j < x_1 → ∀ (b : Int), l[j]? = some b → b < x) ∧ (SV.c (SC.v (Value.int IntKind.i64 (0 : Int))) = SV.c (SC.v (Value.int IntKind.i64 (↑x_1 : Int))) ∧ True) ∧ ([] : List (Go.Eng.Gd × Go.Eng.Res)) = []) ∧ ∀ (x_1 : Nat), (x_1 ≤ l.length ∧ ∀ (j : Nat), j < x_1 → ∀ (b : Int), l[j]? = some b → b < x) → (decide ((↑x_1 : Int) < (↑l.length : Int)) = true → (0 : Int) ≤ (↑x_1 : Int) ∧ (↑x_1 : Int) < (↑l.length : Int)) ∧ ∀ (d : Int), (decide ((↑x_1 : Int) < (↑l.length : Int)) = true → l[(↑x_1 : Int).toNat]? = some d) → br (decide ((↑x_1 : Int) < (↑l.length : Int)) && decide (d < x)) (InR IntKind.i64 ((↑x_1 : Int) + (1 : Int)) ∧ ∃ x', (x' ≤ l.length ∧ ∀ (j : Nat), j < x' → ∀ (b : Int), l[j]? = some b → b < x) ∧ (SV.c (SC.v (Value.int IntKind.i64 ((↑x_1 : Int) + (1 : Int)))) = SV.c (SC.v (Value.int IntKind.i64 (↑x' : Int))) ∧ True) ∧ ([] : List (Go.Eng.Gd × Go.Eng.Res)) = [] ∧ l.length - x' < l.length - x_1) (((0 : Int) ≤ (0 : Int) ∧ (0 : Int) ≤ (↑x_1 : Int) ∧ (↑x_1 : Int) ≤ (↑l.length : Int)) ∧ InA ((0 : Nat) + List.length (List.drop (0 : Nat) (List.take (↑x_1 : Int).toNat l))) (8 : Nat) ∧ InA (List.length (([] ++ List.drop (0 : Nat) (List.take (↑x_1 : Int).toNat l))) + List.length ([x])) (8 : Nat) ∧ ((0 : Int) ≤ (↑x_1 : Int) ∧ (↑x_1 : Int) ≤ (↑l.length : Int) ∧ (↑l.length : Int) ≤ (↑l.length : Int)) ∧ InA (List.length ((([] ++ List.drop (0 : Nat) (List.take (↑x_1 : Int).toNat l)) ++ [x])) + List.length (List.drop (↑x_1 : Int).toNat (List.take (↑l.length : Int).toNat l))) (8 : Nat) ∧ [Res.row (3 : TypeId) (Sh.int IntKind.i64) (List.take (posI l x) l ++ [x] ++ List.drop (posI l x) l)] = [Res.row (3 : TypeId) (Sh.int IntKind.i64) ((([] ++ List.drop (0 : Nat) (List.take (↑x_1 : Int).toNat l)) ++ [x]) ++ List.drop (↑x_1 : Int).toNat (List.take (↑l.length : Int).toNat l))] ∧ Ent.one (SV.c (SC.row (0 : Nat))) = Ent.one (SV.c (SC.row (0 : Nat)))) := by
  have hp : l.length ≤ 1000000 := hpre
  refine ⟨⟨0, ⟨by omega, fun j hj => by omega⟩, ⟨rfl, trivial⟩, rfl⟩, fun k hk => ⟨fun h => by simp only [decide_eq_true_eq] at h; omega, fun d hd => br_iff.2 ⟨fun h => ?_, fun h => ?_⟩⟩⟩
  · simp only [Bool.and_eq_true, decide_eq_true_eq] at h
    have hd : l[k]? = some d := by simpa using hd (by simpa using h.1)
    refine ⟨InR_i64.2 (by omega), k + 1, ⟨by omega, fun j hj b hb => ?_⟩, ⟨by simp, trivial⟩, rfl, by omega⟩
    by_cases hjx : j = k
    · subst hjx
      rw [hd] at hb; cases hb; exact h.2
    · exact hk.2 j (by omega) b hb
  · have hpos : posI l x = k := by
      refine tw_len hk.1 (fun j hj b hb => by simpa using hk.2 j hj b hb) fun b hb => ?_
      have hkl := (List.getElem?_eq_some_iff.1 hb).1
      have hd : l[k]? = some d := by simpa using hd (by simpa using hkl)
      rw [hd] at hb; cases hb
      simp only [Bool.and_eq_false_iff, decide_eq_false_iff_not] at h
      rcases h with h | h
      · omega
      · simpa using h
    have e1 : ((k : Int)).toNat = k := by simp
    have e2 : ((l.length : Int)).toNat = l.length := by simp
    rw [hpos]
    simp only [e1, e2, List.drop_zero, List.take_length, List.nil_append, InA_iff, List.length_append, List.length_take, List.length_drop, List.length_cons, List.length_nil]
    refine ⟨by omega, by omega, by omega, by omega, by omega, ?_⟩
    simp
set_option maxRecDepth 100000 in
theorem f47_met : Met Tryd.prog cx0.gd 47 ct47 :=
  met_of (cx := cx0) (n := 36) (cl := cl47) (by kernel_rfl) tis_ok trivial Tryd.func47 (by kernel_rfl) (by kernel_rfl) rfl (by kernel_rfl) (by kernel_rfl) fun d hd => by
    obtain ⟨l, x, ⟨⟩⟩ := d
    exact ⟨ann47 l x, cast (by kernel_rfl) (f47_vc l x hd)⟩
end Go.Proofs.YtpkccknamoldeaaDoor
