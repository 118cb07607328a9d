/- The sets chapter, part 4: the reference, and small functions. -/
import Derived.Test.YtkndekaioeifdaaPV3
set_option linter.unusedSimpArgs false
set_option linter.unusedVariables false
set_option maxRecDepth 100000
namespace Go.Proofs.Ytkndekaioeifdaa
open Go Go.Eng

instance (l : List Int) : Decidable (SS l) := inferInstanceAs (Decidable (l.Pairwise (· < ·)))
def validI (l : List Int) : Bool := decide (SS l)
theorem ss_adj : ∀ {l : List Int}, (∀ j x y, l[j]? = some x → l[j + 1]? = some y → x < y) → SS l
  | [], _ => List.Pairwise.nil
  | [a], _ => by simp [SS]
  | a :: b :: l, h => by
    have ih : SS (b :: l) := ss_adj fun j x y h1 h2 => h (j + 1) x y (by simpa using h1) (by simpa using h2)
    refine List.pairwise_cons.2 ⟨fun z hz => ?_, ih⟩
    have hab := h 0 a b rfl rfl
    rcases List.mem_cons.1 hz with rfl | hz
    · exact hab
    · have := (List.pairwise_cons.1 ih).1 z hz; omega
theorem adj_ss {l : List Int} (h : SS l) {j : Nat} {x y : Int} (h1 : l[j]? = some x) (h2 : l[j + 1]? = some y) : x < y := by
  obtain ⟨a1, a2⟩ := List.getElem?_eq_some_iff.1 h1
  obtain ⟨b1, b2⟩ := List.getElem?_eq_some_iff.1 h2
  have := List.pairwise_iff_getElem.1 h j (j + 1) a1 b1 (by omega)
  omega
@[reducible] def ctV : CT := { ps := [.sl (.int .i64)], pre := fun d => d.1.length ≤ 1000000, res := fun d => ([], vB (validI d.1)) }
@[reducible] def cl14 : List (Nat × CT) := []
@[reducible] def ann14 (l : List Int) : Nat → Option (St → Ann) := fun k => match k with
  | 2 => some fun _ => .inv { α := Nat, slots := fun k => [(3, .c (.v (.int .i64 k)))], res := fun _ => [], inv := fun k => (1 ≤ k ∧ (k ≤ l.length ∨ k = 1)) ∧ ∀ j, j + 1 < k → ∀ x y, l[j]? = some x → l[j + 1]? = some y → x < y, meas := fun k => l.length - k }
  | _ => none
set_option maxRecDepth 100000 in
theorem f14_vc (l : List Int) (hpre : ctV.pre (l, ())) :
    (∃ x, (((1 : Nat) ≤ x ∧ (x ≤ l.length ∨ x = (1 : Nat))) ∧ ∀ (j : Nat), j + (1 : Nat) < x → ∀ (x y : Int), l[j]? = some x → l[j + (1 : Nat)]? = some y → x < y) ∧ (SV.c (SC.v (Value.int IntKind.i64 (1 : Int))) = SV.c (SC.v (Value.int IntKind.i64 (↑x : Int))) ∧ True) ∧ ([] : List (Go.Eng.Gd × Go.Eng.Res)) = []) ∧ ∀ (x : Nat), (((1 : Nat) ≤ x ∧ (x ≤ l.length ∨ x = (1 : Nat))) ∧ ∀ (j : Nat), j + (1 : Nat) < x → ∀ (x y : Int), l[j]? = some x → l[j + (1 : Nat)]? = some y → x < y) → br (decide ((↑x : Int) < (↑l.length : Int))) (InR IntKind.i64 ((↑x : Int) - (1 : Int)) ∧ ((0 : Int) ≤ (↑x : Int) - (1 : Int) ∧ (↑x : Int) - (1 : Int) < (↑l.length : Int)) ∧ ∀ (d : Int), l[((↑x : Int) - (1 : Int)).toNat]? = some d → ((0 : Int) ≤ (↑x : Int) ∧ (↑x : Int) < (↑l.length : Int)) ∧ ∀ (d_1 : Int), l[(↑x : Int).toNat]? = some d_1 → br (decide (d_1 ≤ d)) (([] : List Go.Eng.Res) = [] ∧ Ent.one (SV.c (SC.v (Value.bool (validI l)))) = Ent.one (SV.c (SC.v (Value.bool false)))) (InR IntKind.i64 ((↑x : Int) + (1 : Int)) ∧ ∃ x', (((1 : Nat) ≤ x' ∧ (x' ≤ l.length ∨ x' = (1 : Nat))) ∧ ∀ (j : Nat), j + (1 : Nat) < x' → ∀ (x y : Int), l[j]? = some x → l[j + (1 : Nat)]? = some y → x < y) ∧ (SV.c (SC.v (Value.int IntKind.i64 ((↑x : Int) + (1 : Int)))) = SV.c (SC.v (Value.int IntKind.i64 (↑x' : Int))) ∧ True) ∧ ([] : List (Go.Eng.Gd × Go.Eng.Res)) = [] ∧ l.length - x' < l.length - x)) (([] : List Go.Eng.Res) = [] ∧ Ent.one (SV.c (SC.v (Value.bool (validI l)))) = Ent.one (SV.c (SC.v (Value.bool true)))) := by
  have hp : l.length ≤ 1000000 := hpre
  refine ⟨⟨1, ⟨⟨by omega, .inr rfl⟩, fun j hj => by omega⟩, ⟨rfl, trivial⟩, rfl⟩, fun k hk => br_iff.2 ⟨fun h => ?_, fun h => ?_⟩⟩
  · simp only [decide_eq_true_eq] at h
    have hk1 := hk.1.1
    refine ⟨InR_i64.2 (by omega), by omega, fun d hd => ⟨by omega, fun e he => ?_⟩⟩
    have hd : l[k - 1]? = some d := by rw [← hd]; congr 1; omega
    have he : l[k]? = some e := by simpa using he
    have he' : l[k - 1 + 1]? = some e := by rw [show k - 1 + 1 = k by omega]; exact he
    refine br_iff.2 ⟨fun h2 => ?_, fun h2 => ⟨InR_i64.2 (by omega), k + 1, ⟨⟨by omega, .inl (by omega)⟩, fun j hj x y hx hy => ?_⟩, ⟨by simp, trivial⟩, rfl, by omega⟩⟩
    · simp only [decide_eq_true_eq] at h2
      have : validI l = false := decide_eq_false fun hs => by have := adj_ss hs hd he'; omega
      rw [this]; exact ⟨rfl, rfl⟩
    · simp only [decide_eq_false_iff_not] at h2
      by_cases hjk : j + 1 = k
      · have hj' : j = k - 1 := by omega
        subst hj'
        rw [hd] at hx; rw [he'] at hy; cases hx; cases hy; omega
      · exact hk.2 j (by omega) x y hx hy
  · simp only [decide_eq_false_iff_not] at h
    have : validI l = true := decide_eq_true (ss_adj fun j x y hx hy => hk.2 j (by have := (List.getElem?_eq_some_iff.1 hy).1; omega) x y hx hy)
    rw [this]; exact ⟨rfl, rfl⟩
set_option maxRecDepth 100000 in
theorem f14_met : Go.Eng.Met Try.prog cx0.gd 14 ctV :=
  met_of (cx := cx0) (n := 20) (cl := cl14) (by kernel_rfl) tis_ok trivial Try.func14 (by kernel_rfl) (by kernel_rfl) rfl (by kernel_rfl) (by kernel_rfl) fun d hd => by
    obtain ⟨l, ⟨⟩⟩ := d
    exact ⟨ann14 l, cast (by kernel_rfl) (f14_vc l hd)⟩
@[reducible] def ctrV : CT := { ps := [.sl (.int .i64)], pre := fun d => d.1.length ≤ 1000000, res := fun d => ([], vB (validI d.1)) }
@[reducible] def cl19 : List (Nat × CT) := []
@[reducible] def ann19 (l : List Int) : Nat → Option (St → Ann) := fun k => match k with
  | 2 => some fun _ => .inv { α := Nat, slots := fun k => [(3, .c (.v (.int .i64 k)))], res := fun _ => [], inv := fun k => (1 ≤ k ∧ (k ≤ l.length ∨ k = 1)) ∧ ∀ j, j + 1 < k → ∀ x y, l[j]? = some x → l[j + 1]? = some y → x < y, meas := fun k => l.length - k }
  | _ => none
set_option maxRecDepth 100000 in
theorem f19_vc (l : List Int) (hpre : ctrV.pre (l, ())) :
    (∃ x, (((1 : Nat) ≤ x ∧ (x ≤ l.length ∨ x = (1 : Nat))) ∧ ∀ (j : Nat), j + (1 : Nat) < x → ∀ (x y : Int), l[j]? = some x → l[j + (1 : Nat)]? = some y → x < y) ∧ (SV.c (SC.v (Value.int IntKind.i64 (1 : Int))) = SV.c (SC.v (Value.int IntKind.i64 (↑x : Int))) ∧ True) ∧ ([] : List (Go.Eng.Gd × Go.Eng.Res)) = []) ∧ ∀ (x : Nat), (((1 : Nat) ≤ x ∧ (x ≤ l.length ∨ x = (1 : Nat))) ∧ ∀ (j : Nat), j + (1 : Nat) < x → ∀ (x y : Int), l[j]? = some x → l[j + (1 : Nat)]? = some y → x < y) → br (decide ((↑x : Int) < (↑l.length : Int))) (InR IntKind.i64 ((↑x : Int) - (1 : Int)) ∧ ((0 : Int) ≤ (↑x : Int) - (1 : Int) ∧ (↑x : Int) - (1 : Int) < (↑l.length : Int)) ∧ ∀ (d : Int), l[((↑x : Int) - (1 : Int)).toNat]? = some d → ((0 : Int) ≤ (↑x : Int) ∧ (↑x : Int) < (↑l.length : Int)) ∧ ∀ (d_1 : Int), l[(↑x : Int).toNat]? = some d_1 → br (decide (d_1 ≤ d)) (([] : List Go.Eng.Res) = [] ∧ Ent.one (SV.c (SC.v (Value.bool (validI l)))) = Ent.one (SV.c (SC.v (Value.bool false)))) (InR IntKind.i64 ((↑x : Int) + (1 : Int)) ∧ ∃ x', (((1 : Nat) ≤ x' ∧ (x' ≤ l.length ∨ x' = (1 : Nat))) ∧ ∀ (j : Nat), j + (1 : Nat) < x' → ∀ (x y : Int), l[j]? = some x → l[j + (1 : Nat)]? = some y → x < y) ∧ (SV.c (SC.v (Value.int IntKind.i64 ((↑x : Int) + (1 : Int)))) = SV.c (SC.v (Value.int IntKind.i64 (↑x' : Int))) ∧ True) ∧ ([] : List (Go.Eng.Gd × Go.Eng.Res)) = [] ∧ l.length - x' < l.length - x)) (([] : List Go.Eng.Res) = [] ∧ Ent.one (SV.c (SC.v (Value.bool (validI l)))) = Ent.one (SV.c (SC.v (Value.bool true)))) := by
  have hp : l.length ≤ 1000000 := hpre
  refine ⟨⟨1, ⟨⟨by omega, .inr rfl⟩, fun j hj => by omega⟩, ⟨rfl, trivial⟩, rfl⟩, fun k hk => br_iff.2 ⟨fun h => ?_, fun h => ?_⟩⟩
  · simp only [decide_eq_true_eq] at h
    have hk1 := hk.1.1
    refine ⟨InR_i64.2 (by omega), by omega, fun d hd => ⟨by omega, fun e he => ?_⟩⟩
    have hd : l[k - 1]? = some d := by rw [← hd]; congr 1; omega
    have he : l[k]? = some e := by simpa using he
    have he' : l[k - 1 + 1]? = some e := by rw [show k - 1 + 1 = k by omega]; exact he
    refine br_iff.2 ⟨fun h2 => ?_, fun h2 => ⟨InR_i64.2 (by omega), k + 1, ⟨⟨by omega, .inl (by omega)⟩, fun j hj x y hx hy => ?_⟩, ⟨by simp, trivial⟩, rfl, by omega⟩⟩
    · simp only [decide_eq_true_eq] at h2
      have : validI l = false := decide_eq_false fun hs => by have := adj_ss hs hd he'; omega
      rw [this]; exact ⟨rfl, rfl⟩
    · simp only [decide_eq_false_iff_not] at h2
      by_cases hjk : j + 1 = k
      · have hj' : j = k - 1 := by omega
        subst hj'
        rw [hd] at hx; rw [he'] at hy; cases hx; cases hy; omega
      · exact hk.2 j (by omega) x y hx hy
  · simp only [decide_eq_false_iff_not] at h
    have : validI l = true := decide_eq_true (ss_adj fun j x y hx hy => hk.2 j (by have := (List.getElem?_eq_some_iff.1 hy).1; omega) x y hx hy)
    rw [this]; exact ⟨rfl, rfl⟩
set_option maxRecDepth 100000 in
theorem f19_met : Go.Eng.Met Try.prog cx0.gd 19 ctrV :=
  met_of (cx := cx0) (n := 20) (cl := cl19) (by kernel_rfl) tis_ok trivial Try.func19 (by kernel_rfl) (by kernel_rfl) rfl (by kernel_rfl) (by kernel_rfl) fun d hd => by
    obtain ⟨l, ⟨⟩⟩ := d
    exact ⟨ann19 l, cast (by kernel_rfl) (f19_vc l hd)⟩
@[reducible] def ctrAdd : CT := { ps := [.sl (.int .i64), .int .i64], pre := fun d => d.1.length ≤ 999999, res := fun d => ([.row 3 (.int .i64) (makeI (d.1 ++ [d.2.1]))], .one (.c (.row 0))) }
@[reducible] def cl23 : List (Nat × CT) := [(18, ct41)]
@[reducible] def ann23 (l : List Int) (x : Int) : Nat → Option (St → Ann) := fun _ => none
set_option maxRecDepth 100000 in
theorem f23_vc (l : List Int) (x : Int) (hpre : ctrAdd.pre (l, x, ())) :
    InA ((0 : Nat) + List.length (l)) (8 : Nat) ∧ InA (List.length (([] ++ l)) + List.length ([x])) (8 : Nat) ∧ List.length (([] ++ l) ++ [x]) ≤ (1000000 : Nat) ∧ [Res.row (3 : TypeId) (Sh.int IntKind.i64) (makeI (l ++ [x]))] = [Res.row (3 : TypeId) (Sh.int IntKind.i64) (makeI (([] ++ l) ++ [x]))] ∧ Ent.one (SV.c (SC.row (0 : Nat))) = Ent.one (SV.c (SC.row (0 : Nat))) := by
  have hp : l.length ≤ 999999 := hpre
  refine ⟨by rw [InA_iff]; omega, by rw [InA_iff]; simp; omega, by simp; omega, by simp, rfl⟩
set_option maxRecDepth 100000 in
theorem f23_met : Go.Eng.Met Try.prog cx0.gd 23 ctrAdd :=
  met_of (cx := cx0) (n := 15) (cl := cl23) (by kernel_rfl) tis_ok ⟨f18_met, trivial⟩ Try.func23 (by kernel_rfl) (by kernel_rfl) rfl (by kernel_rfl) (by kernel_rfl) fun d hd => by
    obtain ⟨l, x, ⟨⟩⟩ := d
    exact ⟨ann23 l x, cast (by kernel_rfl) (f23_vc l x hd)⟩
@[reducible] def ctrUn : CT := { ps := [.sl (.int .i64), .sl (.int .i64)], pre := fun d => d.1.length ≤ 500000 ∧ d.2.1.length ≤ 500000, res := fun d => ([.row 3 (.int .i64) (makeI (d.1 ++ d.2.1))], .one (.c (.row 0))) }
@[reducible] def cl27 : List (Nat × CT) := [(18, ct41)]
@[reducible] def ann27 (l : List Int) (m : List Int) : Nat → Option (St → Ann) := fun _ => none
set_option maxRecDepth 100000 in
theorem f27_vc (l : List Int) (m : List Int) (hpre : ctrUn.pre (l, m, ())) :
    InA ((0 : Nat) + List.length (l)) (8 : Nat) ∧ InA (List.length (([] ++ l)) + List.length (m)) (8 : Nat) ∧ List.length (([] ++ l) ++ m) ≤ (1000000 : Nat) ∧ [Res.row (3 : TypeId) (Sh.int IntKind.i64) (makeI (l ++ m))] = [Res.row (3 : TypeId) (Sh.int IntKind.i64) (makeI (([] ++ l) ++ m))] ∧ Ent.one (SV.c (SC.row (0 : Nat))) = Ent.one (SV.c (SC.row (0 : Nat))) := by
  have hp : l.length ≤ 500000 ∧ m.length ≤ 500000 := hpre
  refine ⟨by rw [InA_iff]; omega, by rw [InA_iff]; simp; omega, by simp; omega, by simp, rfl⟩
set_option maxRecDepth 100000 in
theorem f27_met : Go.Eng.Met Try.prog cx0.gd 27 ctrUn :=
  met_of (cx := cx0) (n := 14) (cl := cl27) (by kernel_rfl) tis_ok ⟨f18_met, trivial⟩ Try.func27 (by kernel_rfl) (by kernel_rfl) rfl (by kernel_rfl) (by kernel_rfl) fun d hd => by
    obtain ⟨l, m, ⟨⟩⟩ := d
    exact ⟨ann27 l m, cast (by kernel_rfl) (f27_vc l m hd)⟩
@[reducible] def ctrInt : CT := { ps := [.sl (.int .i64), .sl (.int .i64)], pre := fun d => d.1.length ≤ 1000000 ∧ d.2.1.length ≤ 1000000, res := fun d => ([.row 3 (.int .i64) (makeI (filI d.1 d.2.1 true))], .one (.c (.row 0))) }
@[reducible] def cl29 : List (Nat × CT) := [(21, ct46), (18, ct41)]
@[reducible] def ann29 (l : List Int) (m : List Int) : Nat → Option (St → Ann) := fun k => match k with
  | 3 => some fun _ => .inv { α := Nat, slots := fun k => [(6, .c (.v (.int .i64 k))), (5, .c (.row 0))], res := fun k => [(0, .row 3 (.int .i64) (filI (l.take k) m true))], inv := fun k => k ≤ (l).length, meas := fun k => (l).length - k, drop := [7] }
  | _ => none
set_option maxRecDepth 100000 in
theorem f29_vc (l : List Int) (m : List Int) (hpre : ctrInt.pre (l, m, ())) :
    (∃ x, x ≤ l.length ∧ (SV.c (SC.v (Value.int IntKind.i64 (0 : Int))) = SV.c (SC.v (Value.int IntKind.i64 (↑x : Int))) ∧ SV.c (SC.row (0 : Nat)) = SV.c (SC.row (0 : Nat)) ∧ True) ∧ [(([] : Go.Eng.Gd), Res.row (3 : TypeId) (Sh.int IntKind.i64) [])] = [(([] : Go.Eng.Gd), Res.row (3 : TypeId) (Sh.int IntKind.i64) (filI (List.take x l) m true))]) ∧ ∀ (x : Nat), x ≤ l.length → br (decide ((↑x : Int) < (↑l.length : Int))) (((0 : Int) ≤ (↑x : Int) ∧ (↑x : Int) < (↑l.length : Int)) ∧ ∀ (d : Int), l[(↑x : Int).toNat]? = some d → m.length ≤ (4611686018427387904 : Nat) ∧ br (hasI m d) (((0 : Int) ≤ (↑x : Int) ∧ (↑x : Int) < (↑l.length : Int)) ∧ ∀ (d : Int), l[(↑x : Int).toNat]? = some d → InA (List.length (filI (List.take x l) m true) + List.length ([d])) (8 : Nat) ∧ InR IntKind.i64 ((↑x : Int) + (1 : Int)) ∧ ∃ x', x' ≤ l.length ∧ (SV.c (SC.v (Value.int IntKind.i64 ((↑x : Int) + (1 : Int)))) = SV.c (SC.v (Value.int IntKind.i64 (↑x' : Int))) ∧ SV.c (SC.row (0 : Nat)) = SV.c (SC.row (0 : Nat)) ∧ True) ∧ [(([] : Go.Eng.Gd), Res.row (3 : TypeId) (Sh.int IntKind.i64) (filI (List.take x l) m true ++ [d]))] = [(([] : Go.Eng.Gd), Res.row (3 : TypeId) (Sh.int IntKind.i64) (filI (List.take x' l) m true))] ∧ l.length - x' < l.length - x) (InR IntKind.i64 ((↑x : Int) + (1 : Int)) ∧ ∃ x', x' ≤ l.length ∧ (SV.c (SC.v (Value.int IntKind.i64 ((↑x : Int) + (1 : Int)))) = SV.c (SC.v (Value.int IntKind.i64 (↑x' : Int))) ∧ SV.c (SC.row (0 : Nat)) = SV.c (SC.row (0 : Nat)) ∧ True) ∧ [(([] : Go.Eng.Gd), Res.row (3 : TypeId) (Sh.int IntKind.i64) (filI (List.take x l) m true))] = [(([] : Go.Eng.Gd), Res.row (3 : TypeId) (Sh.int IntKind.i64) (filI (List.take x' l) m true))] ∧ l.length - x' < l.length - x)) ((filI (List.take x l) m true).length ≤ (1000000 : Nat) ∧ [Res.row (3 : TypeId) (Sh.int IntKind.i64) (makeI (filI l m true))] = [Res.row (3 : TypeId) (Sh.int IntKind.i64) (makeI (filI (List.take x l) m true))] ∧ Ent.one (SV.c (SC.row (0 : Nat))) = Ent.one (SV.c (SC.row (0 : Nat)))) := by
  have hp : l.length ≤ 1000000 ∧ m.length ≤ 1000000 := hpre
  have hf : ∀ k, (filI (l.take k) m true).length ≤ 1000000 := fun k => by
    refine Nat.le_trans (List.length_filter_le _ _) ?_
    rw [List.length_take]; omega
  refine ⟨⟨0, by omega, ⟨rfl, rfl, trivial⟩, by simp [filI]⟩, fun k hk => br_iff.2 ⟨fun h => ?_, fun h => ?_⟩⟩
  · simp only [decide_eq_true_eq] at h
    refine ⟨by omega, fun d hd => ?_⟩
    have hd : l[k]? = some d := by simpa using hd
    have e : filI (l.take (k + 1)) m true = filI (l.take k) m true ++ (if hasI m d == true then [d] else []) := by
      unfold filI
      rw [List.take_add_one, hd, Option.toList_some, List.filter_append]
      congr 1
      simp only [List.filter_cons, List.filter_nil]
    refine ⟨by omega, br_iff.2 ⟨fun h2 => ?_, fun h2 => ?_⟩⟩
    all_goals first
      | (refine ⟨by omega, fun d' hd' => ?_⟩
         have hd' : l[k]? = some d' := by simpa using hd'
         rw [hd] at hd'; cases hd'
         refine ⟨?_, InR_i64.2 (by omega), k + 1, by omega, ⟨by simp, rfl, trivial⟩, ?_, by omega⟩
         · have := hf k
           rw [InA_iff]; simp; omega
         · rw [e]; revert h2; cases hasI m d <;> simp)
      | (refine ⟨InR_i64.2 (by omega), k + 1, by omega, ⟨by simp, rfl, trivial⟩, ?_, by omega⟩
         rw [e]; revert h2; cases hasI m d <;> simp)
  · simp only [decide_eq_false_iff_not] at h
    have := hf l.length
    rw [List.take_length] at this
    rw [List.take_of_length_le (by omega)]; exact ⟨by omega, rfl, rfl⟩
set_option maxRecDepth 100000 in
theorem f29_met : Go.Eng.Met Try.prog cx0.gd 29 ctrInt :=
  met_of (cx := cx0) (n := 29) (cl := cl29) (by kernel_rfl) tis_ok ⟨f21_met, f18_met, trivial⟩ Try.func29 (by kernel_rfl) (by kernel_rfl) rfl (by kernel_rfl) (by kernel_rfl) fun d hd => by
    obtain ⟨l, m, ⟨⟩⟩ := d
    exact ⟨ann29 l m, cast (by kernel_rfl) (f29_vc l m hd)⟩
@[reducible] def ctrMin : CT := { ps := [.sl (.int .i64), .sl (.int .i64)], pre := fun d => d.1.length ≤ 1000000 ∧ d.2.1.length ≤ 1000000, res := fun d => ([.row 3 (.int .i64) (makeI (filI d.1 d.2.1 false))], .one (.c (.row 0))) }
@[reducible] def cl31 : List (Nat × CT) := [(21, ct46), (18, ct41)]
@[reducible] def ann31 (l : List Int) (m : List Int) : Nat → Option (St → Ann) := fun k => match k with
  | 3 => some fun _ => .inv { α := Nat, slots := fun k => [(6, .c (.v (.int .i64 k))), (5, .c (.row 0))], res := fun k => [(0, .row 3 (.int .i64) (filI (l.take k) m false))], inv := fun k => k ≤ (l).length, meas := fun k => (l).length - k, drop := [7] }
  | _ => none
set_option maxRecDepth 100000 in
theorem f31_vc (l : List Int) (m : List Int) (hpre : ctrMin.pre (l, m, ())) :
    (∃ x, x ≤ l.length ∧ (SV.c (SC.v (Value.int IntKind.i64 (0 : Int))) = SV.c (SC.v (Value.int IntKind.i64 (↑x : Int))) ∧ SV.c (SC.row (0 : Nat)) = SV.c (SC.row (0 : Nat)) ∧ True) ∧ [(([] : Go.Eng.Gd), Res.row (3 : TypeId) (Sh.int IntKind.i64) [])] = [(([] : Go.Eng.Gd), Res.row (3 : TypeId) (Sh.int IntKind.i64) (filI (List.take x l) m false))]) ∧ ∀ (x : Nat), x ≤ l.length → br (decide ((↑x : Int) < (↑l.length : Int))) (((0 : Int) ≤ (↑x : Int) ∧ (↑x : Int) < (↑l.length : Int)) ∧ ∀ (d : Int), l[(↑x : Int).toNat]? = some d → m.length ≤ (4611686018427387904 : Nat) ∧ br (!hasI m d) (((0 : Int) ≤ (↑x : Int) ∧ (↑x : Int) < (↑l.length : Int)) ∧ ∀ (d : Int), l[(↑x : Int).toNat]? = some d → InA (List.length (filI (List.take x l) m false) + List.length ([d])) (8 : Nat) ∧ InR IntKind.i64 ((↑x : Int) + (1 : Int)) ∧ ∃ x', x' ≤ l.length ∧ (SV.c (SC.v (Value.int IntKind.i64 ((↑x : Int) + (1 : Int)))) = SV.c (SC.v (Value.int IntKind.i64 (↑x' : Int))) ∧ SV.c (SC.row (0 : Nat)) = SV.c (SC.row (0 : Nat)) ∧ True) ∧ [(([] : Go.Eng.Gd), Res.row (3 : TypeId) (Sh.int IntKind.i64) (filI (List.take x l) m false ++ [d]))] = [(([] : Go.Eng.Gd), Res.row (3 : TypeId) (Sh.int IntKind.i64) (filI (List.take x' l) m false))] ∧ l.length - x' < l.length - x) (InR IntKind.i64 ((↑x : Int) + (1 : Int)) ∧ ∃ x', x' ≤ l.length ∧ (SV.c (SC.v (Value.int IntKind.i64 ((↑x : Int) + (1 : Int)))) = SV.c (SC.v (Value.int IntKind.i64 (↑x' : Int))) ∧ SV.c (SC.row (0 : Nat)) = SV.c (SC.row (0 : Nat)) ∧ True) ∧ [(([] : Go.Eng.Gd), Res.row (3 : TypeId) (Sh.int IntKind.i64) (filI (List.take x l) m false))] = [(([] : Go.Eng.Gd), Res.row (3 : TypeId) (Sh.int IntKind.i64) (filI (List.take x' l) m false))] ∧ l.length - x' < l.length - x)) ((filI (List.take x l) m false).length ≤ (1000000 : Nat) ∧ [Res.row (3 : TypeId) (Sh.int IntKind.i64) (makeI (filI l m false))] = [Res.row (3 : TypeId) (Sh.int IntKind.i64) (makeI (filI (List.take x l) m false))] ∧ Ent.one (SV.c (SC.row (0 : Nat))) = Ent.one (SV.c (SC.row (0 : Nat)))) := by
  have hp : l.length ≤ 1000000 ∧ m.length ≤ 1000000 := hpre
  have hf : ∀ k, (filI (l.take k) m false).length ≤ 1000000 := fun k => by
    refine Nat.le_trans (List.length_filter_le _ _) ?_
    rw [List.length_take]; omega
  refine ⟨⟨0, by omega, ⟨rfl, rfl, trivial⟩, by simp [filI]⟩, fun k hk => br_iff.2 ⟨fun h => ?_, fun h => ?_⟩⟩
  · simp only [decide_eq_true_eq] at h
    refine ⟨by omega, fun d hd => ?_⟩
    have hd : l[k]? = some d := by simpa using hd
    have e : filI (l.take (k + 1)) m false = filI (l.take k) m false ++ (if hasI m d == false then [d] else []) := by
      unfold filI
      rw [List.take_add_one, hd, Option.toList_some, List.filter_append]
      congr 1
      simp only [List.filter_cons, List.filter_nil]
    refine ⟨by omega, br_iff.2 ⟨fun h2 => ?_, fun h2 => ?_⟩⟩
    all_goals first
      | (refine ⟨by omega, fun d' hd' => ?_⟩
         have hd' : l[k]? = some d' := by simpa using hd'
         rw [hd] at hd'; cases hd'
         refine ⟨?_, InR_i64.2 (by omega), k + 1, by omega, ⟨by simp, rfl, trivial⟩, ?_, by omega⟩
         · have := hf k
           rw [InA_iff]; simp; omega
         · rw [e]; revert h2; cases hasI m d <;> simp)
      | (refine ⟨InR_i64.2 (by omega), k + 1, by omega, ⟨by simp, rfl, trivial⟩, ?_, by omega⟩
         rw [e]; revert h2; cases hasI m d <;> simp)
  · simp only [decide_eq_false_iff_not] at h
    have := hf l.length
    rw [List.take_length] at this
    rw [List.take_of_length_le (by omega)]; exact ⟨by omega, rfl, rfl⟩
set_option maxRecDepth 100000 in
theorem f31_met : Go.Eng.Met Try.prog cx0.gd 31 ctrMin :=
  met_of (cx := cx0) (n := 30) (cl := cl31) (by kernel_rfl) tis_ok ⟨f21_met, f18_met, trivial⟩ Try.func31 (by kernel_rfl) (by kernel_rfl) rfl (by kernel_rfl) (by kernel_rfl) fun d hd => by
    obtain ⟨l, m, ⟨⟩⟩ := d
    exact ⟨ann31 l m, cast (by kernel_rfl) (f31_vc l m hd)⟩
@[reducible] def ctrRem : CT := { ps := [.sl (.int .i64), .int .i64], pre := fun d => d.1.length ≤ 1000000, res := fun d => ([.row 3 (.int .i64) (makeI (filI d.1 [d.2.1] false))], .one (.c (.row 0))) }
@[reducible] def cl25 : List (Nat × CT) := [(31, ctrMin)]
@[reducible] def ann25 (l : List Int) (x : Int) : Nat → Option (St → Ann) := fun _ => none
set_option maxRecDepth 100000 in
theorem f25_vc (l : List Int) (x : Int) (hpre : ctrRem.pre (l, x, ())) :
    (l.length ≤ (1000000 : Nat) ∧ [x].length ≤ (1000000 : Nat)) ∧ [Res.row (3 : TypeId) (Sh.int IntKind.i64) (makeI (filI l [x] false))] = [Res.row (3 : TypeId) (Sh.int IntKind.i64) (makeI (filI l [x] false))] ∧ Ent.one (SV.c (SC.row (0 : Nat))) = Ent.one (SV.c (SC.row (0 : Nat))) := by
  have hp : l.length ≤ 1000000 := hpre
  exact ⟨⟨hp, by simp⟩, rfl, rfl⟩
set_option maxRecDepth 100000 in
theorem f25_met : Go.Eng.Met Try.prog cx0.gd 25 ctrRem :=
  met_of (cx := cx0) (n := 9) (cl := cl25) (by kernel_rfl) tis_ok ⟨f31_met, trivial⟩ Try.func25 (by kernel_rfl) (by kernel_rfl) rfl (by kernel_rfl) (by kernel_rfl) fun d hd => by
    obtain ⟨l, x, ⟨⟩⟩ := d
    exact ⟨ann25 l x, cast (by kernel_rfl) (f25_vc l x hd)⟩
@[reducible] def ctrSub : CT := { ps := [.sl (.int .i64), .sl (.int .i64)], pre := fun d => d.1.length ≤ 1000000 ∧ d.2.1.length ≤ 1000000, res := fun d => ([], vB (subI d.1 d.2.1)) }
@[reducible] def cl32 : List (Nat × CT) := [(21, ct46)]
@[reducible] def ann32 (l : List Int) (m : List Int) : Nat → Option (St → Ann) := fun k => match k with
  | 2 => some fun _ => .inv { α := Nat, slots := fun k => [(5, .c (.v (.int .i64 k)))], res := fun k => [], inv := fun k => k ≤ (l).length ∧ (l.take k).all (fun x => hasI m x) = true, meas := fun k => (l).length - k }
  | _ => none
set_option maxRecDepth 100000 in
theorem f32_vc (l : List Int) (m : List Int) (hpre : ctrSub.pre (l, m, ())) :
    (∃ x, (x ≤ l.length ∧ ((List.take x l).all fun x => hasI m x) = true) ∧ (SV.c (SC.v (Value.int IntKind.i64 (0 : Int))) = SV.c (SC.v (Value.int IntKind.i64 (↑x : Int))) ∧ True) ∧ ([] : List (Go.Eng.Gd × Go.Eng.Res)) = []) ∧ ∀ (x : Nat), x ≤ l.length ∧ ((List.take x l).all fun x => hasI m x) = true → br (decide ((↑x : Int) < (↑l.length : Int))) (((0 : Int) ≤ (↑x : Int) ∧ (↑x : Int) < (↑l.length : Int)) ∧ ∀ (d : Int), l[(↑x : Int).toNat]? = some d → m.length ≤ (4611686018427387904 : Nat) ∧ br (!hasI m d) (([] : List Go.Eng.Res) = [] ∧ Ent.one (SV.c (SC.v (Value.bool (subI l m)))) = Ent.one (SV.c (SC.v (Value.bool false)))) (InR IntKind.i64 ((↑x : Int) + (1 : Int)) ∧ ∃ x', (x' ≤ l.length ∧ ((List.take x' l).all fun x => hasI m x) = true) ∧ (SV.c (SC.v (Value.int IntKind.i64 ((↑x : Int) + (1 : Int)))) = SV.c (SC.v (Value.int IntKind.i64 (↑x' : Int))) ∧ True) ∧ ([] : List (Go.Eng.Gd × Go.Eng.Res)) = [] ∧ l.length - x' < l.length - x)) (([] : List Go.Eng.Res) = [] ∧ Ent.one (SV.c (SC.v (Value.bool (subI l m)))) = Ent.one (SV.c (SC.v (Value.bool true)))) := by
  have hp : l.length ≤ 1000000 ∧ m.length ≤ 1000000 := hpre
  refine ⟨⟨0, ⟨by omega, rfl⟩, ⟨rfl, trivial⟩, rfl⟩, fun k hk => br_iff.2 ⟨fun h => ?_, fun h => ?_⟩⟩
  · simp only [decide_eq_true_eq] at h
    refine ⟨by omega, fun d hd => ?_⟩
    have hd : l[k]? = some d := by simpa using hd
    refine ⟨by omega, br_iff.2 ⟨fun h2 => ?_, fun h2 => ⟨InR_i64.2 (by omega), k + 1, ⟨by omega, ?_⟩, ⟨by simp, trivial⟩, rfl, by omega⟩⟩⟩
    · have h2 : hasI m d = false := by simpa using h2
      have : subI l m = false := by
        unfold subI
        rw [List.all_eq_false]
        exact ⟨d, List.mem_of_getElem? hd, by simp [h2]⟩
      rw [this]; exact ⟨rfl, rfl⟩
    · have h2 : hasI m d = true := by simpa using h2
      rw [List.take_add_one, hd, Option.toList_some, List.all_append, hk.2]; simp [h2]
  · simp only [decide_eq_false_iff_not] at h
    have : subI l m = true := by
      have := hk.2
      rw [List.take_of_length_le (by omega)] at this; exact this
    rw [this]; exact ⟨rfl, rfl⟩
set_option maxRecDepth 100000 in
theorem f32_met : Go.Eng.Met Try.prog cx0.gd 32 ctrSub :=
  met_of (cx := cx0) (n := 19) (cl := cl32) (by kernel_rfl) tis_ok ⟨f21_met, trivial⟩ Try.func32 (by kernel_rfl) (by kernel_rfl) rfl (by kernel_rfl) (by kernel_rfl) fun d hd => by
    obtain ⟨l, m, ⟨⟩⟩ := d
    exact ⟨ann32 l m, cast (by kernel_rfl) (f32_vc l m hd)⟩
@[reducible] def ctLists : CT := { ps := [.sl (.sl (.int .i64)), .sl (.sl (.int .i64))], pre := fun d => d.1.length ≤ 1000000 ∧ ∀ x ∈ d.1, x.length ≤ 1000000, res := fun d => ([], vB (decide (d.1 = d.2.1))) }
@[reducible] def cl12 : List (Nat × CT) := [(17, ct13)]
@[reducible] def ann12 (l : List (List Int)) (m : List (List Int)) : Nat → Option (St → Ann) := fun k => match k with
  | 4 => some fun _ => .inv { α := Nat, slots := fun k => [(5, .c (.v (.int .i64 k)))], res := fun k => [], inv := fun k => k ≤ (l).length ∧ l.take k = m.take k, meas := fun k => (l).length - k }
  | _ => none
set_option maxRecDepth 100000 in
theorem f12_vc (l : List (List Int)) (m : List (List Int)) (hpre : ctLists.pre (l, m, ())) :
    br (!decide ((↑l.length : Int) = (↑m.length : Int))) (([] : List Go.Eng.Res) = [] ∧ Ent.one (SV.c (SC.v (Value.bool (decide (l = m))))) = Ent.one (SV.c (SC.v (Value.bool false)))) ((∃ x, (x ≤ l.length ∧ List.take x l = List.take x m) ∧ (SV.c (SC.v (Value.int IntKind.i64 (0 : Int))) = SV.c (SC.v (Value.int IntKind.i64 (↑x : Int))) ∧ True) ∧ ([] : List (Go.Eng.Gd × Go.Eng.Res)) = []) ∧ ∀ (x : Nat), x ≤ l.length ∧ List.take x l = List.take x m → br (decide ((↑x : Int) < (↑l.length : Int))) (((0 : Int) ≤ (↑x : Int) ∧ (↑x : Int) < (↑l.length : Int)) ∧ ∀ (d : List (Sh.int IntKind.i64).den), l[(↑x : Int).toNat]? = some d → ((0 : Int) ≤ (↑x : Int) ∧ (↑x : Int) < (↑m.length : Int)) ∧ ∀ (d_1 : List (Sh.int IntKind.i64).den), m[(↑x : Int).toNat]? = some d_1 → d.length ≤ (4611686018427387904 : Nat) ∧ br (!decide (d = d_1)) (([] : List Go.Eng.Res) = [] ∧ Ent.one (SV.c (SC.v (Value.bool (decide (l = m))))) = Ent.one (SV.c (SC.v (Value.bool false)))) (InR IntKind.i64 ((↑x : Int) + (1 : Int)) ∧ ∃ x', (x' ≤ l.length ∧ List.take x' l = List.take x' m) ∧ (SV.c (SC.v (Value.int IntKind.i64 ((↑x : Int) + (1 : Int)))) = SV.c (SC.v (Value.int IntKind.i64 (↑x' : Int))) ∧ True) ∧ ([] : List (Go.Eng.Gd × Go.Eng.Res)) = [] ∧ l.length - x' < l.length - x)) (([] : List Go.Eng.Res) = [] ∧ Ent.one (SV.c (SC.v (Value.bool (decide (l = m))))) = Ent.one (SV.c (SC.v (Value.bool true))))) := by
  have hp : l.length ≤ 1000000 ∧ ∀ x ∈ l, x.length ≤ 1000000 := hpre
  refine br_iff.2 ⟨fun h => ?_, fun h => ⟨⟨0, ⟨by omega, rfl⟩, ⟨rfl, trivial⟩, rfl⟩, fun k hk => br_iff.2 ⟨fun h2 => ?_, fun h2 => ?_⟩⟩⟩
  · have : ¬ l = m := fun e => by subst e; simp at h
    rw [decide_eq_false this]; exact ⟨rfl, rfl⟩
  · simp only [decide_eq_true_eq] at h2
    have hl : l.length = m.length := by simp at h; omega
    refine ⟨by omega, fun d hd => ⟨by omega, fun e he => ?_⟩⟩
    all_goals
      have hd : l[k]? = some d := by simpa using hd
      have he : m[k]? = some e := by simpa using he
      have := hp.2 d (List.mem_of_getElem? hd)
      refine ⟨by omega, br_iff.2 ⟨fun h3 => ?_, fun h3 => ⟨InR_i64.2 (by omega), k + 1, ⟨by omega, ?_⟩, ⟨by simp, trivial⟩, rfl, by omega⟩⟩⟩
      · have h3 : ¬ d = e := by simpa using h3
        have : ¬ l = m := fun q => by subst q; rw [hd] at he; cases he; exact h3 rfl
        rw [decide_eq_false this]; exact ⟨rfl, rfl⟩
      · have h3 : d = e := by simpa using h3
        rw [List.take_add_one, List.take_add_one, hk.2, hd, he, h3]
  · simp only [decide_eq_false_iff_not] at h2
    have hl : l.length = m.length := by simp at h; omega
    have := hk.2
    rw [List.take_of_length_le (by omega), List.take_of_length_le (by omega)] at this
    rw [decide_eq_true this]; exact ⟨rfl, rfl⟩
set_option maxRecDepth 100000 in
theorem f12_met : Go.Eng.Met Try.prog cx0.gd 12 ctLists :=
  met_of (cx := cx0) (n := 27) (cl := cl12) (by kernel_rfl) tis_ok ⟨f17_met, trivial⟩ Try.func12 (by kernel_rfl) (by kernel_rfl) rfl (by kernel_rfl) (by kernel_rfl) fun d hd => by
    obtain ⟨l, m, ⟨⟩⟩ := d
    exact ⟨ann12 l m, cast (by kernel_rfl) (f12_vc l m hd)⟩
def lessI : List Int → List Int → Bool
  | x :: l, y :: m => if x ≠ y then decide (x < y) else lessI l m
  | _, _ => false
@[reducible] def ctLess : CT := { ps := [.sl (.int .i64), .sl (.int .i64)], pre := fun d => d.1.length ≤ 1000000 ∧ d.2.1.length ≤ 1000000, res := fun d => ([], vB (lessI d.1 d.2.1)) }
@[reducible] def cl16 : List (Nat × CT) := []
@[reducible] def ann16 (l : List Int) (m : List Int) : Nat → Option (St → Ann) := fun k => match k with
  | 2 => some fun _ => .inv { α := Nat, slots := fun k => [(5, .c (.v (.int .i64 k)))], res := fun k => [], inv := fun k => k ≤ (l).length ∧ k ≤ m.length ∧ lessI l m = lessI (l.drop k) (m.drop k), meas := fun k => (l).length - k }
  | _ => none
set_option maxRecDepth 100000 in
theorem f16_vc (l : List Int) (m : List Int) (hpre : ctLess.pre (l, m, ())) :
    (∃ x, (x ≤ l.length ∧ x ≤ m.length ∧ lessI l m = lessI (List.drop x l) (List.drop x m)) ∧ (SV.c (SC.v (Value.int IntKind.i64 (0 : Int))) = SV.c (SC.v (Value.int IntKind.i64 (↑x : Int))) ∧ True) ∧ ([] : List (Go.Eng.Gd × Go.Eng.Res)) = []) ∧ ∀ (x : Nat), x ≤ l.length ∧ x ≤ m.length ∧ lessI l m = lessI (List.drop x l) (List.drop x m) → br (decide ((↑x : Int) < (↑l.length : Int)) && decide ((↑x : Int) < (↑m.length : Int))) (((0 : Int) ≤ (↑x : Int) ∧ (↑x : Int) < (↑l.length : Int)) ∧ ∀ (d : Int), l[(↑x : Int).toNat]? = some d → ((0 : Int) ≤ (↑x : Int) ∧ (↑x : Int) < (↑m.length : Int)) ∧ ∀ (d_1 : Int), m[(↑x : Int).toNat]? = some d_1 → br (!decide (d = d_1)) (((0 : Int) ≤ (↑x : Int) ∧ (↑x : Int) < (↑l.length : Int)) ∧ ∀ (d : Int), l[(↑x : Int).toNat]? = some d → ((0 : Int) ≤ (↑x : Int) ∧ (↑x : Int) < (↑m.length : Int)) ∧ ∀ (d_2 : Int), m[(↑x : Int).toNat]? = some d_2 → ([] : List Go.Eng.Res) = [] ∧ Ent.one (SV.c (SC.v (Value.bool (lessI l m)))) = Ent.one (SV.c (SC.v (Value.bool (decide (d < d_2)))))) (InR IntKind.i64 ((↑x : Int) + (1 : Int)) ∧ ∃ x', (x' ≤ l.length ∧ x' ≤ m.length ∧ lessI l m = lessI (List.drop x' l) (List.drop x' m)) ∧ (SV.c (SC.v (Value.int IntKind.i64 ((↑x : Int) + (1 : Int)))) = SV.c (SC.v (Value.int IntKind.i64 (↑x' : Int))) ∧ True) ∧ ([] : List (Go.Eng.Gd × Go.Eng.Res)) = [] ∧ l.length - x' < l.length - x)) (([] : List Go.Eng.Res) = [] ∧ Ent.one (SV.c (SC.v (Value.bool (lessI l m)))) = Ent.one (SV.c (SC.v (Value.bool false)))) := by
  have hp : l.length ≤ 1000000 ∧ m.length ≤ 1000000 := hpre
  refine ⟨⟨0, ⟨by omega, by omega, rfl⟩, ⟨rfl, trivial⟩, rfl⟩, fun k hk => br_iff.2 ⟨fun h => ?_, fun h => ?_⟩⟩
  · simp only [Bool.and_eq_true, decide_eq_true_eq] at h
    obtain ⟨d, hd⟩ : ∃ d, l[k]? = some d := ⟨l[k]'(by omega), List.getElem?_eq_getElem (by omega)⟩
    obtain ⟨e, he⟩ : ∃ e, m[k]? = some e := ⟨m[k]'(by omega), List.getElem?_eq_getElem (by omega)⟩
    have q : lessI l m = if d ≠ e then decide (d < e) else lessI (l.drop (k + 1)) (m.drop (k + 1)) := by rw [hk.2.2, drop_at hd, drop_at he]; rfl
    refine ⟨by omega, fun d' hd' => ⟨by omega, fun e' he' => ?_⟩⟩
    have hd' : l[k]? = some d' := by simpa using hd'
    have he' : m[k]? = some e' := by simpa using he'
    rw [hd] at hd'; cases hd'
    rw [he] at he'; cases he'
    refine br_iff.2 ⟨fun h2 => ⟨by omega, fun d' hd' => ⟨by omega, fun e' he' => ?_⟩⟩, fun h2 => ⟨InR_i64.2 (by omega), k + 1, ⟨by omega, by omega, ?_⟩, ⟨by simp, trivial⟩, rfl, by omega⟩⟩
    · have hd' : l[k]? = some d' := by simpa using hd'
      have he' : m[k]? = some e' := by simpa using he'
      rw [hd] at hd'; cases hd'
      rw [he] at he'; cases he'
      have h2 : ¬ d = e := by simpa using h2
      rw [q, if_pos h2]; exact ⟨rfl, rfl⟩
    · have h2 : d = e := by simpa using h2
      rw [q]; simp [h2]
  · have : lessI (l.drop k) (m.drop k) = false := by
      simp only [Bool.and_eq_false_iff, decide_eq_false_iff_not] at h
      rcases h with h | h
      · rw [List.drop_of_length_le (by omega)]; rfl
      · rw [List.drop_of_length_le (l := m) (by omega)]; cases l.drop k <;> rfl
    rw [hk.2.2, this]; exact ⟨rfl, rfl⟩
set_option maxRecDepth 100000 in
theorem f16_met : Go.Eng.Met Try.prog cx0.gd 16 ctLess :=
  met_of (cx := cx0) (n := 36) (cl := cl16) (by kernel_rfl) tis_ok trivial Try.func16 (by kernel_rfl) (by kernel_rfl) rfl (by kernel_rfl) (by kernel_rfl) fun d hd => by
    obtain ⟨l, m, ⟨⟩⟩ := d
    exact ⟨ann16 l m, cast (by kernel_rfl) (f16_vc l m hd)⟩
end Go.Proofs.Ytkndekaioeifdaa
